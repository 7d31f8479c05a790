/- An index (chapter 14): slices.Insert, wherever the version is put. An index (chapter 14): a version is put among the others, wherever it stands. Write (chapter 26), wherever its version stands and however it ends. -/
import Derived.Test.YtadooplpfhdhcaaGreatQ18
import Derived.Test.YtadooplpfhdhcaaGreatQ26
set_option linter.unusedSimpArgs false
set_option linter.unusedVariables false
set_option maxRecDepth 100000
set_option maxHeartbeats 4000000
namespace Go.Proofs.YtadooplpfhdhcaaGreat
open Go Go.RowKit
open Go.Lib (hid)
open Go.Proofs.Tryz
theorem FQ {C F V:List Value} {p q:Nat} (e:F.length=q) (d:C.take q=F) (hp:p≤q) (hl:q+3≤C.length) (a:V.length=3):
  (((C.take (p+3)++F.drop p++C.drop (p+3+(F.drop p).length)).take p++V++(C.take (p+3)++F.drop p++C.drop (p+3+(F.drop p).length)).drop (p+V.length)).take (q+3))=F.take p++V++F.drop p:=by
 have b:(C.take (p+3)++F.drop p++C.drop (p+3+(F.drop p).length)).take p=F.take p:=by
  rw[List.append_assoc,List.take_append_of_le_length (by rw[List.length_take];omega),List.take_take,Nat.min_eq_left (by omega),←d,List.take_take,Nat.min_eq_left hp]
 have c:(C.take (p+3)++F.drop p++C.drop (p+3+(F.drop p).length)).drop (p+V.length)=F.drop p++C.drop (p+3+(F.drop p).length):=by
  rw[a,List.append_assoc]
  have:(C.take (p+3)).length=p+3:=by rw[List.length_take];omega
  exact List.drop_left' this
 rw[b,c,←List.append_assoc];refine List.take_left' ?_;simp only[List.length_append,List.length_take,List.length_drop,a,e];omega
theorem FR {Z F V R:List Value} {p q:Nat} (d:F.length=q) (hp:p≤q) (e:R=F.take p++Z) (hl:q+3≤R.length) (a:V.length=3):
  (((R.take p++V++R.drop (p+V.length)).take (p+3)++F.drop p++(R.take p++V++R.drop (p+V.length)).drop (p+3+(F.drop p).length)).take (q+3))=F.take p++V++F.drop p:=by
 have b:R.take p=F.take p:=by rw[e];exact List.take_left' (by rw[List.length_take];omega)
 have c:(R.take p++V++R.drop (p+V.length)).take (p+3)=F.take p++V:=by
  rw[b];exact List.take_left' (by rw[List.length_append,List.length_take,a];omega)
 rw[c];refine List.take_left' ?_;simp only[List.length_append,List.length_take,List.length_drop,a,d];omega
theorem ud (l:List ag):∀i,(ar l).take (i*3)=ar (l.take i):=by
 induction l with
 |nil=>intro i;simp[ar]
 |cons a r ih=>
  intro i
  cases i with
  |zero=>simp[ar]
  |succ i=>
   show(a.cells++ar r).take ((i+1)*3)=a.cells++ar (r.take i)
   rw[←ih i,show(i+1)*3=a.cells.length+i*3 from by show _=3+_;omega];exact List.take_length_add_append _
theorem DV (l:List ag):∀i,(ar l).drop (i*3)=ar (l.drop i):=by
 induction l with
 |nil=>intro i;simp[ar]
 |cons a r ih=>
  intro i
  cases i with
  |zero=>simp[ar]
  |succ i=>
   show(a.cells++ar r).drop ((i+1)*3)=ar (r.drop i)
   rw[←ih i,show(i+1)*3=a.cells.length+i*3 from by show _=3+_;omega];exact List.drop_length_add_append _
theorem wN (l:List ag) (v:ag) (i:Nat):(ar l).take (i*3)++v.cells++(ar l).drop (i*3)=ar (l.take i++v::l.drop i):=by
 rw[ud,DV,ge,List.append_assoc];rfl
theorem qf {w:World} {g:Nat} {cs:Array Value} (a:g<w.heap.size):w.grownBy (w.setRow g cs) (some g):=
 ⟨rfl,rfl,rfl,by simp,fun k _ hk=>setRow_other w g k _ (fun e=>hk (by simp[e]))⟩
theorem oP (w:World) (r:Option Nat):w.grownBy w.drew r:=⟨rfl,rfl,rfl,Nat.le_refl _,fun _ _ _=>rfl⟩
theorem ue {w u:World} {b:Nat} (h:w.grownBy u none) (hb:w.heap.size≤b) (cs:Array Value):w.grownBy (u.setRow b cs) none:=
 ⟨h.os,h.tape,h.output,by simpa using h.size,fun k a hn=>by rw[setRow_other _ _ _ _ (by omega)];exact h.block k a hn⟩
theorem uf (p H g n c i:Nat) (l:List ag) (v:ag) (a:Array Value) (w:World) (D:w.heap[g]?=some (.cells a 130 (0,0))) (N:a.size=c*3) (V:a.toList.take (n*3)=ar l) (hl:l.length=n) (hi:i<n) (hn:n≤4096) (hc:n+1≤c) (a0:c≤maxLen) (hv:ac w p v.cells 130) (J:p≠g):
  Calls prog 167 #[.slice (some ⟨g,0,none⟩) n c, .int .i64 (i:Int), .slice (some ⟨p,0,none⟩) 1 H] w fun e Y=>e= .returned (.slice (some ⟨g,0,none⟩) (n+1) c)∧(∃d,Y.heap[g]?=some (.cells d 130 (0,0))∧d.size=c*3∧d.toList.take ((n+1)*3)=ar (l.take i++v::l.drop i))∧w.grownBy Y (some g):=by
 obtain⟨i0,T,a2,W,a3⟩:=info_parts mp;have K:(prog.info? 130).map (·.size)=some 3:=by rw[T];simp[W]
 have I:g<w.heap.size:=(Array.getElem?_eq_some_iff.1 D).1;have y:(ar l).length=n*3:=by rw[fl,hl]
 have A:a.toList.length=c*3:=by simpa using N
 have m:w.heap[p]?=some (.cells v.cells.toArray 130 (0,0)):=hv
 have U:∀lb S,(callFunc 239 #[.slice (some ⟨p,0,none⟩) 1 H, .slice (some ⟨g,(i+1)*3,none⟩) lb S]).run prog w= .ok (.value (.bool false)) w:=fun lb S=>by
  rw[run_callFunc_extern func239 (by kernel_rfl) (by kernel_rfl) (by kernel_rfl) (e:=Extern.SlicesOverlaps.overlaps #[209,209] #[4]) (by kernel_rfl),
   Lib.run_overlaps_apart w 209 4 130 underlying209 3 (by intro w;kernel_rfl) ⟨p,0,none⟩ ⟨g,(i+1)*3,none⟩ 1 H lb S J 130 130 3 (c*3) (by simp[World.shape?,m,ag.cells]) (by simp[World.shape?,D,N]) (by omega) (by simp[World.frozen?,m]) (by simp[World.frozen?,m])]
  rfl
 have r:((ar l).drop (i*3)).length=(n-i)*3:=by rw[List.length_drop,y];omega
 have k:∀C x X,(Builtin.copy_ #[209,209] C #[.slice (some ⟨g,(i+1)*3,none⟩) (n-i) x, .slice (some ⟨g,i*3,none⟩) (n+1-i) X]).run prog w.drew= .ok (goInt (Nat.min (n+1-i) (n-i))) (w.drew.setRow g (a.toList.take ((i+1)*3)++(ar l).drop (i*3)++a.toList.drop ((i+1)*3+((ar l).drop (i*3)).length)).toArray):=fun C x X=>
  lJ w.drew _ _ C 130 3 g ((i+1)*3) (n-i) x ⟨g,i*3,none⟩ (n+1-i) X a 130 ((ar l).drop (i*3)) underlying209 K D (by rw[r];congr 1;simp only[Nat.min_def];split<;>omega)
   (fun j u E=>by
    rw[Addr.add_lit];rw[←V,List.getElem?_drop,List.getElem?_take]at E
    split at E
    ·show w.cell? ⟨g,i*3+j,none⟩=some u
     simp only[World.cell?,D]
     simpa using E
    ·cases E)
   (by rw[r,N];omega) (fun u hu=>pI l u (List.mem_of_mem_drop hu))
 obtain⟨b,q⟩:∃b,b=(a.toList.take ((i+1)*3)++(ar l).drop (i*3)++a.toList.drop ((i+1)*3+((ar l).drop (i*3)).length)):=⟨_,rfl⟩;rw[←q]at k;have f:b.length=c*3:=by rw[q];simp only[List.length_append,List.length_take,List.length_drop,r,A];omega
 obtain⟨o,h⟩:∃o,o=w.drew.setRow g b.toArray:=⟨_,rfl⟩;rw[←h]at k;have B:o.heap[g]?=some (.cells b.toArray 130 (0,0)):=by rw[h];exact setRow_heap w.drew g a b.toArray _ _ D
 have L:o.heap[p]?=some (.cells v.cells.toArray 130 (0,0)):=by rw[h,setRow_other _ _ _ _ J];exact m
 have t:∀C x,(Builtin.copy_ #[209,209] C #[.slice (some ⟨g,i*3,none⟩) (n+1-i) x, .slice (some ⟨p,0,none⟩) 1 H]).run prog o= .ok (goInt (Nat.min 1 (n+1-i))) (o.setRow g (b.take (i*3)++v.cells++b.drop (i*3+v.cells.length)).toArray):=fun C x=>
  lJ o _ _ C 130 3 g (i*3) (n+1-i) x ⟨p,0,none⟩ 1 H b.toArray 130 v.cells underlying209 K B (by rw[show Nat.min 1 (n+1-i)=1 from by simp only[Nat.min_def];split<;>omega];rfl)
   (fun j u E=>by
    rw[Addr.add_lit,Nat.zero_add];simp only[World.cell?,L]
    simpa using E)
   (by rw[List.size_toArray,f];show _+3≤_;omega) (by intro u hu;simp[ag.cells]at hu;rcases hu with rfl|rfl|rfl<;>rfl)
 have h1:(0:Int)≤(i:Int)+1:=by omega
 have h2:((i:Int)+1).toNat=i+1:=by omega
 have h3:IntKind.i64.wrap ((i:Int)+1)=(i:Int)+1:=by rw[IntKind.wrap_i64];omega
 have h4:IntKind.i64.wrap ((n:Int)+1)=(n:Int)+1:=by rw[IntKind.wrap_i64];omega
 have h5:((n:Int)+1).toNat=n+1:=by omega
 have h6:¬((i:Int)=(n:Int)):=by omega
 have h7:¬(c:Int)<(n:Int)+1:=by omega
 have h8:(i:Int)≤(n:Int):=by omega
 have h9:(i:Int)+1≤(n:Int)+1:=by omega
 have ad:(i:Int)≤(n:Int)+1:=by omega
 have an:(n:Int)+1≤(c:Int):=by omega
 have aq:¬(c=i):=by omega
 have aA:¬(c=i+1):=by omega
 obtain⟨M,z⟩:∃M,M=(b.take (i*3)++v.cells++b.drop (i*3+v.cells.length)):=⟨_,rfl⟩;rw[←z]at t;have F:=hid z;have s:=hid f;have G:=hid h;have R:=hid q;have P:=hid y;have O:=hid A;have Z:=hid V;have Q:=hid B;clear h q z f r y A V N B D m L;go_enter func167,ntmps167;go_wp2_with (simp only[U]);go_region_law (refine qe rfl _ _ 209 209 rfl _ _ (by simp[Act.eval,Act.put]) (by simp[Act.eval,Act.put]) (k _ _ _) ?_);go_wp2_with (at_builtin;refine oi _ rfl _ _ 209 209 rfl _ _ rfl rfl (t _ _) ?_);go_ret;refine⟨rfl,⟨M.toArray,setRow_heap o g _ _ _ _ Q.out, ?_, ?_⟩, ?_⟩
 ·have:=s.out
  rw[List.size_toArray,F.out];simp only[List.length_append,List.length_take,List.length_drop,s.out,show v.cells.length=3 from rfl];omega
 ·show M.take ((n+1)*3)= _
  rw[F.out,R.out,←wN,show(i+1)*3=i*3+3 from by omega,show(n+1)*3=n*3+3 from by omega];exact FQ P.out Z.out (by omega) (by rw[O.out];omega) rfl
 ·have t1:w.grownBy o (some g):=by rw[G.out];exact(oP w (some g)).trans (qf (w:=w.drew) (by show g<w.heap.size;exact I))
  exact t1.trans (qf (by rw[G.out];simpa using I))
theorem ug (D c1 g n c i:Nat) (l:List ag) (v:ag) (T:Array Value) (w:World) (hg:w.heap[g]?=some (.cells T 130 (0,0))) (hx:T.toList.take (n*3)=ar l) (hl:l.length=n) (hi:i<n) (hn:n≤4096) (hc:n≤c) (hc2:c<n+1) (hv:ac w D v.cells 130) (b3:D≠g):
  Calls prog 167 #[.slice (some ⟨g,0,none⟩) n c, .int .i64 (i:Int), .slice (some ⟨D,0,none⟩) 1 c1] w fun e w'=>(∃G,e= .returned (.slice (some ⟨w.heap.size,0,none⟩) (n+1) G)∧n+1≤G∧G≤maxLen∧∃f,w'.heap[w.heap.size]?=some (.cells f 130 (0,0))∧f.size=G*3∧f.toList.take ((n+1)*3)=ar (l.take i++v::l.drop i))∧w.grownBy w' none:=by
 obtain⟨i0,V,bl,Y,ad⟩:=info_parts mp;have X:(prog.info? 130).map (·.size)=some 3:=by rw[V];simp[Y]
 have bb:g<w.heap.size:=(Array.getElem?_eq_some_iff.1 hg).1;have m:(ar l).length=n*3:=by rw[fl,hl]
 have O:w.heap[D]?=some (.cells v.cells.toArray 130 (0,0)):=hv;have C:((ar l).drop (i*3)).length=(n-i)*3:=by rw[List.length_drop,m];omega
 have hF:∀j u,(ar l)[j]?=some u→w.cell? ⟨g,j,none⟩=some u:=fun j u b=>by
  rw[←hx,List.getElem?_take]at b
  split at b
  ·simp only[World.cell?,hg];simpa using b
  ·cases b
 have I:(Builtin.firstCells i0.size i (.slice (some ⟨g,0,none⟩) i c)).run prog w.drew= .ok ((ar l).take (i*3)).toArray w.drew:=by
  rw[Y]
  exact run_firstCells_some w.drew 3 i ⟨g,0,none⟩ i c ((ar l).take (i*3)) (by rw[List.length_take,m];omega) (fun j u b=>by
   rw[Addr.add_lit,Nat.zero_add];rw[List.getElem?_take]at b
   split at b
   ·exact hF j u b
   ·cases b)
 have N:i+(n+1-i)=n+1:=by omega
 have W:(n:Int)+1-(i:Int)=((n+1-i:Nat):Int):=by omega
 obtain⟨G,hG⟩:∃G,G=grownCap w (n+1) c 130:=⟨_,rfl⟩;have a7:n+1≤G:=by rw[hG];exact grownCap_ge w _ _ _
 have K:G≤maxLen:=by rw[hG];exact grownCap_le_maxLen w (n+1) c _ (by unfold maxLen;omega)
 obtain⟨Z,hZ⟩:∃Z:List Value,Z=(Builtin.zeroCells (.agg (ag.cells ⟨0,0,0⟩).toArray:Value).cells (n+1-i)).toList++(Builtin.zeroCells (.agg (ag.cells ⟨0,0,0⟩).toArray:Value).cells (G-(n+1))).toList:=⟨_,rfl⟩
 have U:Z.length=(G-i)*3:=by
  rw[hZ,List.length_append,Array.length_toList,Array.length_toList,size_zeroCells,size_zeroCells]
  show(n+1-i)*3+(G-(n+1))*3= _
  omega
 obtain⟨x,z⟩:∃x,x=(ar l).take (i*3)++Z:=⟨_,rfl⟩;have a:x.length=G*3:=by rw[z,List.length_append,List.length_take,m,U];omega
 obtain⟨W1,p⟩:∃W1,W1=w.drew.alloc (.cells x.toArray 130):=⟨_,rfl⟩
 have bk:∀t,(Builtin.append_ #[209,3] t #[.slice (some ⟨g,0,none⟩) i c, .int .i64 ((n:Int)+1-(i:Int))]).run prog w= .ok (.slice (some ⟨w.heap.size,0,none⟩) (n+1) G) W1:=fun t=>by
  have h:=Lib.run_append_grow_zeros w 209 3 t 130 i0 _ .i64 .i64 underlying209 underlying3 V bl (some ⟨g,0,none⟩) i c ((ar l).take (i*3)) I (n+1-i) (by omega) (by omega) (by omega) (by omega) (by rw[ad];omega) (by rw[ad,N];exact growslice_fits_wide (by omega) (by omega));rw[N,←hG]at h;rw[W,p,z,hZ];refine h.trans ?_
  congr 3
  simp
 have L:W1.heap[w.heap.size]?=some (.cells x.toArray 130 (0,0)):=by rw[p];exact heap_alloc_new w.drew _
 have M:∀k,k<w.heap.size→W1.heap[k]?=w.heap[k]?:=fun k hk=>by rw[p];exact heap_alloc_old w.drew _ (show k<w.drew.heap.size from hk)
 have bd:D<w.heap.size:=(Array.getElem?_eq_some_iff.1 O).1
 have s:∀t J,(Builtin.copy_ #[209,209] t #[.slice (some ⟨w.heap.size,i*3,none⟩) (n+1-i) J, .slice (some ⟨D,0,none⟩) 1 c1]).run prog W1= .ok (goInt (Nat.min 1 (n+1-i))) (W1.setRow w.heap.size (x.take (i*3)++v.cells++x.drop (i*3+v.cells.length)).toArray):=fun t J=>
  lJ W1 _ _ t 130 3 w.heap.size (i*3) (n+1-i) J ⟨D,0,none⟩ 1 c1 x.toArray 130 v.cells underlying209 X L (by rw[show Nat.min 1 (n+1-i)=1 from by simp only[Nat.min_def];split<;>omega];rfl)
   (fun j u b=>by
    rw[Addr.add_lit,Nat.zero_add];simp only[World.cell?,M D bd,O]
    simpa using b)
   (by rw[List.size_toArray,a];show _+3≤_;omega) (by intro u hu;simp[ag.cells]at hu;rcases hu with rfl|rfl|rfl<;>rfl)
 obtain⟨y,A⟩:∃y,y=x.take (i*3)++v.cells++x.drop (i*3+v.cells.length):=⟨_,rfl⟩;have o:y.length=G*3:=by rw[A];simp only[List.length_append,List.length_take,List.length_drop,a,show v.cells.length=3 from rfl];omega
 rw[←A]at s;obtain⟨d,q⟩:∃d,d=W1.setRow w.heap.size y.toArray:=⟨_,rfl⟩;rw[←q]at s;have r:d.heap[w.heap.size]?=some (.cells y.toArray 130 (0,0)):=by rw[q];exact setRow_heap W1 _ _ _ _ _ L
 have F:∀k,k<w.heap.size→d.heap[k]?=w.heap[k]?:=fun k hk=>by rw[q,setRow_other _ _ _ _ (by omega)];exact M k hk
 have H:∀t J sc,(Builtin.copy_ #[209,209] t #[.slice (some ⟨w.heap.size,(i+1)*3,none⟩) (n-i) J, .slice (some ⟨g,i*3,none⟩) (n-i) sc]).run prog d.drew= .ok (goInt (Nat.min (n-i) (n-i))) (d.drew.setRow w.heap.size (y.take ((i+1)*3)++(ar l).drop (i*3)++y.drop ((i+1)*3+((ar l).drop (i*3)).length)).toArray):=fun t J sc=>
  lJ d.drew _ _ t 130 3 w.heap.size ((i+1)*3) (n-i) J ⟨g,i*3,none⟩ (n-i) sc y.toArray 130 ((ar l).drop (i*3)) underlying209 X r (by rw[C];congr 1;simp only[Nat.min_def];split<;>omega)
   (fun j u b=>by
    rw[Addr.add_lit];rw[List.getElem?_drop]at b
    have:=hF _ u b
    simp only[World.cell?]at this ⊢;rw[show d.drew.heap[g]?=w.heap[g]? from F g bb];exact this)
   (by rw[C,List.size_toArray,o];omega) (fun u hu=>pI l u (List.mem_of_mem_drop hu))
 obtain⟨S,B⟩:∃S,S=(y.take ((i+1)*3)++(ar l).drop (i*3)++y.drop ((i+1)*3+((ar l).drop (i*3)).length)):=⟨_,rfl⟩;rw[←B]at H;have E:S.length=G*3:=by rw[B];simp only[List.length_append,List.length_take,List.length_drop,C,o];omega
 have a3:=hid p;have a4:=hid q;have R:=hid r;have a0:=hid z;have a1:=hid A;have a2:=hid B;have P:=hid a;have Q:=hid E;have aq:=hid m;have aA:=hid K;have bo:(G:Int)≤9223372036854775807:=by unfold maxLen at K;omega
 clear p q z A B a o E C m hx hg O L M r F hZ U hG I N W hF K;have h1:(0:Int)≤(i:Int)+1:=by omega
 have h2:((i:Int)+1).toNat=i+1:=by omega
 have h3:IntKind.i64.wrap ((i:Int)+1)=(i:Int)+1:=by rw[IntKind.wrap_i64];omega
 have h4:IntKind.i64.wrap ((n:Int)+1)=(n:Int)+1:=by rw[IntKind.wrap_i64];omega
 have b2:IntKind.i64.wrap ((n:Int)+1-(i:Int))=(n:Int)+1-(i:Int):=by rw[IntKind.wrap_i64];omega
 have h6:¬((i:Int)=(n:Int)):=by omega
 have h7:(c:Int)<(n:Int)+1:=by omega
 have h8:(i:Int)≤(n:Int):=by omega
 have h9:(i:Int)+1≤(n:Int)+1:=by omega
 have bw:(i:Int)≤(n:Int)+1:=by omega
 have bn:(i:Int)≤(c:Int):=by omega
 have bx:¬(c=i):=by omega
 have b0:¬(G=i):=by omega
 have b1:¬(G=i+1):=by omega
 go_enter func167,ntmps167
 go_wp2_with (first
  |(at_builtin;refine Lib.wpList_append_run _ rfl _ _ _ _ rfl _ _ rfl rfl _ _ (bk _) ?_)
  |(at_builtin;refine oi _ rfl _ _ 209 209 rfl _ _ rfl rfl (s _ _) ?_))
 go_region_law (refine qe rfl _ _ 209 209 rfl _ _ (by simp[Act.eval,Act.put]) (by simp[Act.eval,Act.put]) (H _ _ _) ?_);go_wp2_with fail;go_ret;refine⟨⟨G,rfl,a7,aA.out,S.toArray,setRow_heap d.drew _ _ _ _ _ R.out,by rw[List.size_toArray];exact Q.out, ?_⟩, ?_⟩
 ·show S.take ((n+1)*3)= _
  have e:=a2.out;rw[a1.out]at e;rw[e,←wN,show(i+1)*3=i*3+3 from by omega,show(n+1)*3=n*3+3 from by omega];exact FR aq.out (by omega) a0.out (by rw[P.out];omega) rfl
 ·have t1:w.grownBy W1 none:=by rw[a3.out];exact(oP w none).trans (World.grownBy_alloc _ _ _)
  have t2:w.grownBy d none:=by rw[a4.out];exact ue t1 (Nat.le_refl _) _
  exact ue (t2.trans (oP d none)) (Nat.le_refl _) _
def eC (l:List ag) (v:ag):List ag:=l.take (jh v l)++v::l.drop (jh v l)
theorem qg {α:Type} (p:α→Bool):∀(l:List α) (i:Nat),i≤l.length→(∀t x,l[t]?=some x→t<i→p x=true)→(∀t x,l[t]?=some x→i≤t→p x=false)→(l.takeWhile p).length=i
 |[],i,h,_,_=>by simp at h ⊢;omega
 |a::r,0,_,_,h2=>by rw[List.takeWhile_cons,h2 0 a rfl (Nat.le_refl _)];rfl
 |a::r,i+1,h,h1,h2=>by
  rw[List.takeWhile_cons,h1 0 a rfl (by omega)];simp only[if_true,List.length_cons];rw[qg p r i (by simpa using h) (fun t x b c=>h1 (t+1) x (by simpa using b) (by omega)) (fun t x b c=>h2 (t+1) x (by simpa using b) (by omega))]
theorem jC.pos {l:List ag} {v:ag} {i:Nat} (h:jC l v i):jh v l=i:=
 qg _ l i h.le (fun t x b a=>by simpa using h.ahead t x b a) (fun t x b a=>by simpa using h.behind t x b a)
theorem vg (f q n i:Nat) (xv:Value) (l:List ag) (v:ag) (w:World) (h:w.ownsRow 0 130 3 xv n (ar l)) (hl:l.length=n) (hn:n≤4096) (t:ac w f v.cells 130) (A:xv.ownBlock≠some f) (u:jC l v i):
  Calls prog 167 #[xv, .int .i64 (i:Int), .slice (some ⟨f,0,none⟩) 1 q] w fun e r=>(∃m,e= .returned m∧r.ownsRow 0 130 3 m (n+1) (ar (eC l v))∧dW w xv.ownBlock m.ownBlock)∧w.grownBy r xv.ownBlock:=by
 have hp:=u.pos;have B:=u.le
 have o:(ar (eC l v)).length=(n+1)*3:=by
  rw[fl];unfold eC;simp only[List.length_append,List.length_cons,List.length_take,List.length_drop];omega
 by_cases z:i=n
 ·have e:eC l v=l++[v]:=by unfold eC;rw[hp,List.take_of_length_le (by omega),List.drop_eq_nil_of_le (by omega)]
  rw[e,z];exact nR f q n xv l v w h (by omega) t
 ·have C:=h
  rcases h.2 with⟨rfl,rfl⟩|⟨g,cap,cur,rfl,_,hg0,hc,hcm,hcs,hx⟩
  ·omega
  ·have p:f≠g:=fun e=>A (by rw[e];rfl)
   by_cases x:n+1≤cap
   ·refine(uf f q g n cap i l v cur w hg0 hcs hx hl (by omega) (by omega) x hcm t p).mono ?_
    rintro e r ⟨rfl,⟨c,a,b,d⟩,j⟩;rw[←hp]at d;exact⟨⟨_,rfl,⟨o, .inr ⟨g,cap,c,rfl,Nat.zero_le _,a,x,hcm,b,d⟩⟩, .inl rfl⟩,j⟩
   ·refine(ug f q g n cap i l v cur w hg0 hx hl (by omega) (by omega) hc (by omega) t p).mono ?_
    rintro e r ⟨⟨G,rfl,f,y,c,a,b,d⟩,j⟩;rw[←hp]at d;refine⟨⟨_,rfl,⟨o, .inr ⟨w.heap.size,G,c,rfl,Nat.zero_le _,a,f,y,b,d⟩⟩, .inr fun k s=> ?_⟩,j.os,j.tape,j.output,j.size,fun k s _=>j.block k s (by simp)⟩;simp[Value.ownBlock]at s;omega
theorem rK (L n:Nat) (xv:Value) (l:List ag) (v:ag) (w:World) (hX:ac w L [.bool true,xv] 238) (hR:w.ownsRow 0 130 3 xv n (ar l)) (hl:l.length=n) (hn:n≤4095) (hv:y7 v) (aA:∀(i j:Nat) (a b:ag),l[i]?=some a→l[j]?=some b→i≤j→cL b v<0→cL a v<0) (b4:∀(t:Nat) (x:ag),l[t]?=some x→cL x v≠0):
  Calls prog 79 #[.pointer (some ⟨L,0,none⟩), .agg v.cells.toArray] w fun e w'=>(e= .returned (.int .i64 0)∧∃a1,ac w' L [.bool true,a1] 238∧w'.ownsRow 0 130 3 a1 (n+1) (ar (eC l v))∧∀k,a1.ownBlock=some k→xv.ownBlock=some k∨w.heap.size≤k)∧af (L::xv.ownBlock.toList) w w':=by
 obtain⟨p,c,cx⟩:=az hR;have cc:=hid hl;have cb:=hid (fun(wx:World) (h:wx.ownsRow 0 130 3 xv n (ar l))=>rz n xv l v wx h hl (by omega) aA b4);have bo:=hid (fun(wx:World) (g1 i:Nat) (hi:jC l v i) (h:wx.ownsRow 0 130 3 xv n (ar l)) (hr:ac wx g1 v.cells 130) (hg:xv.ownBlock≠some g1)=>vg g1 1 n i xv l v wx h hl (by omega) hr hg hi);have HV:=hid hv;have bx:=hid hX;have ci:=hid hR;have ce:=hid (fun k (N:xv.ownBlock=some k)=>(hR.lt k N).2)
 have bt:=hid (show some L≠xv.ownBlock from by
  intro e
  obtain⟨cs,fz,D⟩:∃cs fz,w.heap[L]?=some (.cells cs 130 fz):=by
   rcases hR.2 with⟨rfl,_⟩|⟨g,cap,cur,rfl,_,hg,_⟩
   ·cases e
   ·injection e with e;subst e;exact⟨_,_,hg⟩
  have m:=hX;unfold ac at m;rw[D]at m
  injection m with m
  injection m with _ m
  exact absurd m (by decide))
 subst cx;clear hX hR hl hn hv aA b4;go_enter func79,ntmps79
 go_wp2_with (first
  |((with_reducible refine ae 130 (.tmp 1) v.cells (some 3) ?hgd ?ho ?hd ?hx ?_);(case hgd|ho|hd|hx=>rfl);(intro b1 w1 l1 B1 e1 z1))
  |fail)
 have a7:=hid B1;have a2:=hid (e1.mono l1);have bb:=hid (bx.below (e1.mono l1) bx.lt);have cf:=hid (own_below (e1.mono l1) ci.out);have bs:=hid (show some b1≠(Value.slice p n c).ownBlock from fun e=>by have:=ce.out b1 e.symm;omega);clear B1 e1 z1 l1
 refine(jp L _ _ bb.out).mono ?_
 rintro e w' ⟨rfl,rfl⟩
 go_wp2_with (first
  |((with_reducible refine aj 130 (.tmp 3) b1 v.cells 130 _ a7.out underlying130 rfl aM ?hgd ?ho ?hx ?_);(case hgd|ho|hx=>rfl))
  |fail)
 refine(vY v _ HV.out).mono ?_
 rintro e w2 ⟨rfl,an⟩;have ca:=hid (show ac w2 b1 ([.int .i64 v.lba, .int .i64 v.epoch, .int .i64 v.slot]) 130 from a7.below an a7.lt);have bn:=hid (a2.trans (an.mono a2.size));have ck:=hid (bb.below an bb.lt);have cg:=hid (own_below an cf.out);clear an;have Z:=ck;have V:=ca;have bv:=cg;have R:=bn;go_upto_region 5 with fail;refine wp_region_held_drew (S:=fun wx=>wx.cell? ⟨L,1,none⟩=some (.slice p n c)∧wx.rangeAt b1 0 ([.int .i64 v.lba, .int .i64 v.epoch, .int .i64 v.slot])) (by kernel_rfl) (⟨Z.drew.cell (i:=1) rfl,V.drew.range⟩) (fun f=> ?_);obtain⟨wd,F⟩:∃wd,wd=w2.drew:=⟨_,rfl⟩;have u:Below w2.heap.size w2 wd:=by rw[F];exact(Below.refl _ _).drew
 have a5:=hid (Z.below u Z.lt);have a3:=hid (V.below u V.lt);have a4:=hid (own_below u bv.out);have T:=hid (R.trans (u.mono R.size));rw[←F];rw[←F]at f;clear F u;refine hp 0 ?_;refine hp 1 ?_;refine hp 2 ?_;refine hp 3 ?_;refine wpAnyH_take (i:=4) (v:= .agg ([.int .i64 v.lba, .int .i64 v.epoch, .int .i64 v.slot]).toArray) rfl (by kernel_rfl) (by kernel_rfl) (by kernel_rfl) (fun _ _ _ h=>h) (yieldsIf_load_mid (by rfl) 130 (.tmp 3) rfl b1 0 rfl ([.int .i64 v.lba, .int .i64 v.epoch, .int .i64 v.slot]) _ (fun w h=>h.2) underlying130 rfl mS) (by assumption) ?_
 (try go_frame)
 refine wpAnyH_ready (rs:=[5]) (by kernel_rfl) (by simp) ?_;refine AllReadyH.cons rfl (fun K q=> ?_) AllReadyH.nil;go_simp
 refine(cb.out _ a4.out).mono ?_
 rintro e we ⟨⟨bd,rfl,be⟩,aq⟩;have ad:=hid (a5.below aq a5.lt);have O:=hid (a3.below aq a3.lt);have bw:=hid (own_below aq a4.out);have U:=hid (T.trans (aq.mono T.size));have bm:=hid be;have c2:(bd:Int)≤(n:Int):=by have:=be.le;have:=cc.out;omega
 clear aq be
 (try go_wp2_with fail)
 refine q.out _ _ (⟨ad.cell (i:=1) rfl,O.range⟩) (fun d=> ?_);clear q K f;have f:=d;clear d
 (try go_frame)
 refine hp 6 ?_;refine hp 7 ?_;refine hp 8 ?_;refine hp 9 ?_;refine hp 10 ?_;refine wpAnyH_done (by kernel_rfl) ?_ _;clear f;go_upto_region 8 with fail;refine wp_region_held_drew (S:=fun wx=>wx.rangeAt b1 0 ([.int .i64 v.lba, .int .i64 v.epoch, .int .i64 v.slot])) (by kernel_rfl) (O.drew.range) (fun f=> ?_);obtain⟨wf,F⟩:∃wd,wd=we.drew:=⟨_,rfl⟩;have u:Below we.heap.size we wf:=by rw[F];exact(Below.refl _ _).drew
 have J:=hid (ad.below u ad.lt);have H:=hid (O.below u O.lt);have P:=hid (own_below u bw.out);have C:=hid (U.trans (u.mono U.size));rw[←F];rw[←F]at f;clear F u;refine hp 0 ?_;refine hp 1 ?_;refine hp 2 ?_;refine hp 3 ?_;refine hp 5 ?_;refine wpAnyH_take (i:=6) (v:= .agg ([.int .i64 v.lba, .int .i64 v.epoch, .int .i64 v.slot]).toArray) rfl (by kernel_rfl) (by kernel_rfl) (by kernel_rfl) (fun _ _ _ h=>h) (yieldsIf_load_mid (by rfl) 130 (.tmp 3) rfl b1 0 rfl ([.int .i64 v.lba, .int .i64 v.epoch, .int .i64 v.slot]) _ (fun w h=>h) underlying130 rfl mS) (by assumption) ?_
 (try go_frame)
 refine wpAnyH_ready (rs:=[4,7]) (by kernel_rfl) (by simp) ?_;refine AllReadyH.cons rfl (fun K q=> ?_) (AllReadyH.cons rfl (fun K q=> ?_) AllReadyH.nil)
 ·have c1:=J.cell (i:=1) rfl
  go_simp;clear c1;refine q.out _ _ (H.range) (fun d=> ?_);clear q K f;have f:=d;clear d
  (try go_frame)
  refine wpAnyH_ready (rs:=[7]) (by kernel_rfl) (by simp) ?_;refine AllReadyH.cons rfl (fun K q=> ?_) AllReadyH.nil;go_simp;obtain⟨wg,G⟩:∃wg,wg=wf.alloc (Obj.cells #[.int .i64 v.lba, .int .i64 v.epoch, .int .i64 v.slot] 130):=⟨_,rfl⟩;rw[←G];have y:Below wf.heap.size wf wg:=by rw[G];exact(Below.refl _ _).alloc (Nat.le_refl _) _
  have a9:=hid (show(Value.slice p n c).ownBlock≠some wf.heap.size from fun e=>by have:=(P.lt _ e).2;omega);have X:=hid (show ac wg wf.heap.size v.cells 130 from by rw[G];exact ac.new wf _ _);have Q:=hid (J.below y J.lt);have B:=hid (H.below y H.lt);have Y:=hid (own_below y P.out);have r:=hid (C.trans (y.mono C.size));clear G y
  (try go_wp2_with fail)
  refine q.out _ _ (B.range) (fun d=> ?_);clear q K f;have f:=d;clear d
  (try go_frame)
  refine wpAnyH_ready (rs:=[8]) (by kernel_rfl) (by simp) ?_;refine AllReadyH.cons rfl (fun K q=> ?_) AllReadyH.nil;go_simp
  refine(bo.out _ _ bd bm.out Y.out X.out a9.out).mono ?_
  rintro e wh ⟨⟨a1,rfl,A,z⟩,E⟩;have o:=hid (Q.grown E bt.out);have s:=hid (B.grown E bs.out);obtain⟨p',c',bk⟩:=az A;subst bk;have I:=hid A;have M:=hid z;have a8:=hid E;clear A z E
  (try go_wp2_with fail)
  refine q.out _ _ (s.range) (fun d=> ?_);clear q K f;have f:=d;clear d
  (try go_frame)
  refine hp 9 ?_;refine hp 10 ?_;have c9:=o.cell (i:=1) rfl;have f9:=o.free 1;refine wpAnyH_ready (rs:=[11]) (by kernel_rfl) (by simp) ?_;refine AllReadyH.cons rfl (fun K q=> ?_) AllReadyH.nil;go_simp;have W:=hid (s.set_other (a:=⟨L,1,none⟩) (by have D:=s.out;have m:=o.out;intro e;subst e;unfold ac at D m;rw[D]at m;injection m with m;injection m with _ m;exact absurd m (by decide)) (.slice p' (n+1) c'));refine q.out _ _ W.range (fun d=> ?_);clear q K f d
  (try go_frame)
  refine wpAnyH_done (by kernel_rfl) ?_ _;clear c9 f9;go_wp2_with fail;go_ret;have bl:=r.size;refine⟨⟨rfl, .slice p' (n+1) c',(o.set 1 _).ext rfl,ay I.out ((af.refl [L] _).setCell (.inl (by simp)) 1 _) (fun k N=> ?_),fun k N=> ?_⟩, ?_⟩
  ·intro hm
   simp at hm;subst hm;obtain⟨cs,fz,D⟩:=pS I.out N;have m:=o.out;unfold ac at m;rw[D]at m
   injection m with m
   injection m with _ m
   exact absurd m (by decide)
  ·rcases M.out with D|D
   ·exact .inl (D ▸ N)
   ·exact .inr (Nat.le_trans bl (D k N))
  ·have t1:af (L::(Value.slice p n c).ownBlock.toList) w wg:=af.of_below r.out (Nat.le_refl _)
   have t2:af (L::(Value.slice p n c).ownBlock.toList) wg wh:=af.of_grown a8.out (fun k N=>by rw[N];simp)
   exact(t1.trans t2).trans ((af.refl _ _).setCell (.inl (by simp)) 1 _)
 ·go_simp
  obtain⟨wg,G⟩:∃wg,wg=wf.alloc (Obj.cells #[.int .i64 v.lba, .int .i64 v.epoch, .int .i64 v.slot] 130):=⟨_,rfl⟩;rw[←G];have y:Below wf.heap.size wf wg:=by rw[G];exact(Below.refl _ _).alloc (Nat.le_refl _) _
  have a9:=hid (show(Value.slice p n c).ownBlock≠some wf.heap.size from fun e=>by have:=(P.lt _ e).2;omega);have X:=hid (show ac wg wf.heap.size v.cells 130 from by rw[G];exact ac.new wf _ _);have Q:=hid (J.below y J.lt);have B:=hid (H.below y H.lt);have Y:=hid (own_below y P.out);have r:=hid (C.trans (y.mono C.size));clear G y
  (try go_wp2_with fail)
  refine q.out _ _ (B.range) (fun d=> ?_);clear q K f;have f:=d;clear d
  (try go_frame)
  refine wpAnyH_ready (rs:=[4]) (by kernel_rfl) (by simp) ?_;refine AllReadyH.cons rfl (fun K q=> ?_) AllReadyH.nil;have c1:=Q.cell (i:=1) rfl;go_simp;clear c1;refine q.out _ _ (B.range) (fun d=> ?_);clear q K f;have f:=d;clear d
  (try go_frame)
  refine wpAnyH_ready (rs:=[8]) (by kernel_rfl) (by simp) ?_;refine AllReadyH.cons rfl (fun K q=> ?_) AllReadyH.nil;go_simp
  refine(bo.out _ _ bd bm.out Y.out X.out a9.out).mono ?_
  rintro e wh ⟨⟨a1,rfl,A,z⟩,E⟩;have o:=hid (Q.grown E bt.out);have s:=hid (B.grown E bs.out);obtain⟨p',c',bk⟩:=az A;subst bk;have I:=hid A;have M:=hid z;have a8:=hid E;clear A z E
  (try go_wp2_with fail)
  refine q.out _ _ (s.range) (fun d=> ?_);clear q K f;have f:=d;clear d
  (try go_frame)
  refine hp 9 ?_;refine hp 10 ?_;have c9:=o.cell (i:=1) rfl;have f9:=o.free 1;refine wpAnyH_ready (rs:=[11]) (by kernel_rfl) (by simp) ?_;refine AllReadyH.cons rfl (fun K q=> ?_) AllReadyH.nil;go_simp;have W:=hid (s.set_other (a:=⟨L,1,none⟩) (by have D:=s.out;have m:=o.out;intro e;subst e;unfold ac at D m;rw[D]at m;injection m with m;injection m with _ m;exact absurd m (by decide)) (.slice p' (n+1) c'));refine q.out _ _ W.range (fun d=> ?_);clear q K f d
  (try go_frame)
  refine wpAnyH_done (by kernel_rfl) ?_ _;clear c9 f9;go_wp2_with fail;go_ret;have bl:=r.size;refine⟨⟨rfl, .slice p' (n+1) c',(o.set 1 _).ext rfl,ay I.out ((af.refl [L] _).setCell (.inl (by simp)) 1 _) (fun k N=> ?_),fun k N=> ?_⟩, ?_⟩
  ·intro hm
   simp at hm;subst hm;obtain⟨cs,fz,D⟩:=pS I.out N;have m:=o.out;unfold ac at m;rw[D]at m
   injection m with m
   injection m with _ m
   exact absurd m (by decide)
  ·rcases M.out with D|D
   ·exact .inl (D ▸ N)
   ·exact .inr (Nat.le_trans bl (D k N))
  ·have t1:af (L::(Value.slice p n c).ownBlock.toList) w wg:=af.of_below r.out (Nat.le_refl _)
   have t2:af (L::(Value.slice p n c).ownBlock.toList) wg wh:=af.of_grown a8.out (fun k N=>by rw[N];simp)
   exact(t1.trans t2).trans ((af.refl _ _).setCell (.inl (by simp)) 1 _)
open Go.Maps Go.WideMaps
def iq (v:ai) (lba:Int):Int:=if lba<0∨v.last.geo.lbas≤lba then 4 else 0
theorem qh (i:ap) (v:ai) (lba:Int) (w:World) (h:al w i v):
  Calls prog 56 #[.pointer (some ⟨i.vb,0,none⟩), .int .i64 lba] w fun e w'=>e= .returned (.int .i64 (iq v lba))∧Below w.heap.size w w':=by
 have q:∀(a b c:Int) (w:World),Sem.run prog (Instr.field 23 (.agg #[.int .i64 a, .int .i64 b, .int .i64 c]) 1) w= .ok (.int .i64 b) w:=fun _ _ _ _=>by kernel_rfl
 have l:=hid (fun(g:World) (n:al g i v)=>iL i v g n);unfold iq;obtain⟨⟨blocks,f,first⟩,hl⟩:∃s,v.last.geo=s:=⟨_,rfl⟩;rw[hl]
 have m:=hid (fun(g:World) (n:al g i v)=>show Calls prog 49 #[.pointer (some ⟨i.vb,0,none⟩)] g fun e w'=>e= .returned (.agg #[.int .i64 blocks, .int .i64 f, .int .i64 first])∧Below g.heap.size g w' from by
  have:=l.out g n
  rw[hl]at this;exact this)
 have k:=hid h;clear l hl h;simp only
 by_cases o:lba<0
 ·rw[if_pos (.inl o)]
  go_enter func56,ntmps56;go_wp2_with fail
  refine(aP i v _ k.out).mono ?_
  rintro e w' ⟨rfl,rfl⟩;go_wp2_with fail;go_ret;exact⟨rfl,Below.refl _ _⟩
 by_cases p:f≤lba
 ·rw[if_pos (.inr p)]
  go_enter func56,ntmps56;go_wp2_with fail
  refine(aP i v _ k.out).mono ?_
  rintro e w' ⟨rfl,rfl⟩;go_wp2_with fail
  refine(m.out _ k.out).mono ?_
  rintro e r ⟨rfl,d⟩;have j:=hid d;clear d;go_wp2_with fail;go_ret;exact⟨rfl,j.out⟩
 rw[if_neg (by omega)];go_enter func56,ntmps56;go_wp2_with fail
 refine(aP i v _ k.out).mono ?_
 rintro e w' ⟨rfl,rfl⟩;go_wp2_with fail
 refine(m.out _ k.out).mono ?_
 rintro e r ⟨rfl,d⟩;have j:=hid d;clear d;go_wp2_with fail;go_ret;exact⟨rfl,j.out⟩
theorem kO (l:List ag) (x:ag):(eC l x).length=l.length+1:=by
 unfold eC
 have:jh x l≤l.length:=by unfold jh;exact(List.takeWhile_prefix _).length_le
 rw[List.length_append,List.length_cons,List.length_take,List.length_drop];omega
def qi (v:ai) (lba:Int) (block:ByteArray) (cv:Value):ai:={v with used:=v.used+1,d:={v.d with cv:=cv,cs:=v.d.cs++[(4+v.used,block)]},vers:=eC v.vers ⟨lba,v.epoch,v.used⟩}
theorem xN (i:ap) (v:ai) (lba:Int) (s:ByteArray) (w:World) (h:al w i v) (T:bp v) (hu:v.used<v.last.geo.blocks-5) (l0:0≤lba) (l1:lba<v.last.geo.lbas) (hs:s.size≤4000) (hd:v.data.size=16) (e0:0≤v.epoch) (e1:v.epoch≤4294967295) (S:v.vers.length≤4095)
  (u:∀(i j:Nat) (a b:ag),v.vers[i]?=some a→v.vers[j]?=some b→i≤j→cL b ⟨lba,v.epoch,v.used⟩<0→cL a ⟨lba,v.epoch,v.used⟩<0) (P:∀(t:Nat) (x:ag),v.vers[t]?=some x→cL x ⟨lba,v.epoch,v.used⟩≠0):
  Calls prog 24 #[.pointer (some ⟨i.vb,0,none⟩), .int .i64 lba, .string s] w fun e U=>e= .returned (.int .i64 0)∧∃(cv xv:Value) (f c:ByteArray),ah f (dO s.data.toList (dZ v.data.data.toList v.epoch.toNat v.used.toNat s.size))∧ah c (cellL ⟨v.epoch,v.used,lba,false,f⟩)∧bh ⟨v.epoch,v.used,lba,false,f⟩∧aJ w U i v {i with xv:=xv} (qi v lba c cv):=by
 have b2:(s.size:Int)≤4000:=by omega
 obtain⟨o,O⟩:∃o:Nat,v.epoch=(o:Int):=⟨v.epoch.toNat,by omega⟩;obtain⟨p,I⟩:∃p:Nat,v.used=(p:Int):=⟨v.used.toNat,by have:=T.u0;omega⟩;have hr:bX v.last.geo v.used≠0:=by unfold bX;omega
 have a0:(bX v.last.geo v.used==0)=false:=beq_eq_false_iff_ne.2 hr;obtain⟨rm,H⟩:∃rm,bX v.last.geo v.used=rm:=⟨_,rfl⟩;rw[H]at a0;have Y:=hid (fun(y:World) (hx:al y i v)=>show Calls prog 74 #[.pointer (some ⟨i.jb,0,none⟩)] y fun e U=>e= .returned (.int .i64 rm)∧Below y.heap.size y U from by have:=jT i v y hx T;rw[H]at this;exact this);have an:=hid (fun(y:World) (hx:al y i v)=>show Calls prog 75 #[.pointer (some ⟨i.jb,0,none⟩)] y fun e U=>e= .returned (.int .i64 (p:Int))∧y=U from by have:=oz i v y hx T;rw[I]at this;exact this);have d:=hid O;have g:=hid I;have m:=hid (And.intro l0 l1);have q:=hid T;have C:=hid hu;have HD:=hid hd;have HE:=hid (And.intro e0 e1);have HS:=hid hs;have L:=hid (And.intro u P);have aq:=hid S;have H0:=hid h;clear hr H O I T hu l0 l1 hd e0 e1 hs u P S h;go_enter func24,ntmps24;go_wp2_with fail
 refine(nz i v lba _ H0.out m.out.1 m.out.2).mono ?_
 rintro e w1 ⟨rfl,D⟩;have z:=hid D;have W:=hid (H0.below D);clear D;have N:w1.cell? ⟨i.vb,0,none⟩=some (.pointer (some ⟨i.jb,0,none⟩)):=W.vol.cell (i:=0) rfl;go_wp2_with fail
 refine(Y.out _ W.out).mono ?_
 rintro e w2 ⟨rfl,E⟩;have J:=hid (z.trans (E.mono z.size));have V:=hid (W.below E);clear E N;go_upto_region 8 with fail;have c5:w2.drew.cell? ⟨i.vb,5,none⟩=some (.pointer (some ⟨i.bb,0,none⟩)):=V.vol.drew.cell (i:=5) rfl;have N:w2.drew.cell? ⟨i.vb,0,none⟩=some (.pointer (some ⟨i.jb,0,none⟩)):=V.vol.drew.cell (i:=0) rfl;have X:=hid (V.below (Below.refl _ _).drew);refine aB (by kernel_rfl) (by kernel_rfl) ?_
 iterate 4 still_step
 still_call (eo (aR i.bb i.c2 v.first (o:Int) i.m1 i.m2 i.m3 _ (by rw[←d.out];exact X.book)))
 iterate 4 still_step
 still_call (eo (an.out _ X.out))
 iterate 2 still_step
 refine wpStill_nil ?_;have A:=hid J.drew;have c2:w2.drew.cell? ⟨i.vb,2,none⟩=some (.string v.data):=V.vol.drew.cell (i:=2) rfl;clear c5 N;go_wp2_with fail
 refine(nw v.data s o p _ HD.out (by have:=d.out;have:=HE.out;omega) (by have:=g.out;have:=C.out;have:=q.sup.geo.b1;omega) (by have:=HS.out;omega)).mono ?_
 rintro e w4 ⟨⟨f,rfl,tc⟩,F⟩;have ad:=hid tc;have k:=hid (show bh ⟨(o:Int),(p:Int),lba,false,f⟩from⟨by show(0:Int)≤o;omega,by show(o:Int)≤4294967295;have:=d.out;have:=HE.out;omega,by show(0:Int)≤p;omega,by show(p:Int)≤4294967295;have:=g.out;have:=C.out;have:=q.sup.geo.b1;omega,m.out.1,by show lba≤4095;have:=m.out.2;have:=q.sup.geo.l1;omega,by show f.size≤4000;rw[tc.size,fe];exact HS.out,fun hg=>by cases hg⟩);have B:=hid (A.trans (F.mono A.size));have H4:=hid (X.below F);clear F c2 tc
 go_wp2_with (first
  |((with_reducible refine au 134 ?parts59 (ak.cells ⟨(o:Int),(p:Int),lba,false,f⟩) ?hg ?ho ?hf ?_);(case hg|ho=>rfl);(case hf=>exact tu _ _ _ _))
  |fail)
 refine(pn ⟨(o:Int),(p:Int),lba,false,f⟩ _ k.out rfl).mono ?_
 rintro e w5 ⟨⟨c,rfl,tb⟩,G⟩;have M:=hid tb;have K:=hid (B.trans (G.mono B.size));have H5:=hid (H4.below G);clear G tb;have N:w5.cell? ⟨i.vb,0,none⟩=some (.pointer (some ⟨i.jb,0,none⟩)):=H5.vol.cell (i:=0) rfl;go_wp2_with fail
 refine(mg i v c _ H5.out q.out (by rw[M.size,fm _ k.n]) C.out).mono ?_
 rintro e w6 ⟨rfl,cv,R⟩;have r:=hid (aJ.ahead K.out R);have c3:w6.cell? ⟨i.vb,3,none⟩=some (.pointer (some ⟨i.xb,0,none⟩)):=r.at'.vol.cell (i:=3) rfl;clear R N
 go_wp2_with (first
  |((with_reducible refine au 130 ?parts82 (ag.cells ⟨lba,(o:Int),(p:Int)⟩) ?hg ?ho ?hf ?_);(case hg|ho=>rfl);(case hf=>exact oI _ _ _))
  |fail)
 refine(rK i.xb v.vers.length i.xv v.vers ⟨lba,(o:Int),(p:Int)⟩ _ r.at'.index r.at'.vers rfl aq.out ⟨m.out.1,by show lba≤4095;have:=m.out.2;have:=q.sup.geo.l1;omega,k.e0,k.e1,k.s0,k.s1⟩ (by have:=L.out.1;rw[d.out,g.out]at this;exact this) (by have:=L.out.2;rw[d.out,g.out]at this;exact this)).mono ?_
 rintro e w7 ⟨⟨rfl,xv,hX,hR,hN⟩,Q⟩;have Z:=hid (r.trans (r.at'.idx (xv:=xv) (l:=eC v.vers ⟨lba,(o:Int),(p:Int)⟩) Q hX (by rw[kO];exact hR) hN));clear hX hR hN Q c3;go_wp2_with fail;go_ret;refine⟨rfl,cv,xv,f,c, ?_, ?_, ?_, ?_⟩
 ·rw[d.out,g.out];exact ad.out
 ·rw[d.out,g.out];exact M.out
 ·rw[d.out,g.out];exact k.out
 ·have:=Z.out
  unfold qi;rw[←g.out,←d.out]at this;exact this
def eE (v:ai) (lba:Int) (s:ByteArray):Int:=if iq v lba=0 then(if 4000<(s.size:Int)then 2 else if bX v.last.geo v.used=0 then 5 else 0)else iq v lba
theorem xO (i:ap) (v:ai) (lba:Int) (s:ByteArray) (w:World) (h:al w i v) (z:bp v) (y:¬eE v lba s=0):
  Calls prog 24 #[.pointer (some ⟨i.vb,0,none⟩), .int .i64 lba, .string s] w fun e w'=>e= .returned (.int .i64 (eE v lba s))∧Below w.heap.size w w':=by
 have c:=hid (qh i v lba w h);have o:=hid h;have p:=hid z;have A:=hid y;obtain⟨q,g⟩:∃q,iq v lba=q:=⟨_,rfl⟩;rw[g]at c;obtain⟨rm,m⟩:∃rm,bX v.last.geo v.used=rm:=⟨_,rfl⟩;have f:=hid m;have d:=hid g;clear h z y g m
 by_cases x:q=0
 ·subst x
  by_cases r:4000<(s.size:Int)
  ·have k:=hid (show eE v lba s=2 by unfold eE;rw[if_pos d.out,if_pos r])
   go_enter func24,ntmps24;go_wp2_with fail;refine c.mono ?_;rintro e u ⟨rfl,a⟩;have b:=hid a;have n:=hid (o.below a);clear a;go_wp2_with fail;go_ret;exact⟨by rw[k.out];rfl,b.out⟩
  by_cases t:rm=0
  ·have k:=hid (show eE v lba s=5 by unfold eE;rw[if_pos d.out,if_neg r,f.out,if_pos t])
   subst t;go_enter func24,ntmps24;go_wp2_with fail;refine c.mono ?_;rintro e u ⟨rfl,a⟩;have b:=hid a;have n:=hid (o.below a);clear a;have B:u.cell? ⟨i.vb,0,none⟩=some (.pointer (some ⟨i.jb,0,none⟩)):=n.vol.cell (i:=0) rfl;go_wp2_with fail
   refine(jT i v _ n.out p.out).mono ?_
   rintro e C ⟨rfl,l⟩;have j:=hid (b.trans (l.mono b.size));clear l B;rw[f.out];go_wp2_with fail;go_ret;exact⟨by rw[k.out];rfl,j.out⟩
  exact absurd (show eE v lba s=0 by unfold eE;rw[if_pos d.out,if_neg r,f.out,if_neg t]) A.out
 ·have k:=hid (show eE v lba s=q by unfold eE;rw[d.out,if_neg x])
  go_enter func24,ntmps24;go_wp2_with fail;refine c.mono ?_;rintro e u ⟨rfl,a⟩;have b:=hid a;have n:=hid (o.below a);clear a;go_wp2_with fail;go_ret;exact⟨by rw[k.out];rfl,b.out⟩
end Go.Proofs.YtadooplpfhdhcaaGreat
