/- Walks of octet.Cut and octet.Unpack (chapter 1). The shape of a shape's bytes (chapter 9): Take. The superblock of bytes (chapter 10): Take. The later superblock of two (chapter 10): Choose, where the first place has noughts. What a formatted disk has (chapter 25): found. -/
import Derived.Test.YtadooplpfhdhcaaGreatQ6
import Derived.Test.YtadooplpfhdhcaaGreatQ7
import Derived.Test.YtadooplpfhdhcaaGreatQ2
import Derived.Deep.RegionLaw
import Derived.Deep.DeepAppendWide
import Derived.Deep.RegionWith
import Derived.Deep.QuietTactic
import Derived.BigQuiet
import Derived.Deep.RegionHeld3
import Derived.Test.YtadooplpfhdhcaaGreatQ9
set_option linter.unusedSimpArgs false
set_option linter.unusedVariables false
set_option maxRecDepth 100000
set_option maxHeartbeats 4000000
namespace Go.Proofs.YtadooplpfhdhcaaGreat
open Go Go.RowKit
open Go.Lib (hid)
open Go.Proofs.Tryz
def yG (l:List UInt8) (e:Ending):Prop:=
 (∃a b x y,eZ l=some (a,b)∧e= .returned (.tuple #[.string x, .string y, .int .i64 0])∧ah x a∧ah y b)∨
 (eZ l=none∧e= .returned (.tuple #[.string ⟨#[]⟩, .string ⟨#[]⟩, .int .i64 3]))
theorem mN (s:ByteArray) (w:World):
  Calls prog 217 #[.string s] w fun e w'=>yG s.data.toList e∧Below w.heap.size w w':=by
 have hl:s.data.toList.length=s.size:=rfl
 by_cases j:s.size<4
 ·have r:(s.size:Int)<4:=by omega
  have a:eZ s.data.toList=none:=by unfold eZ;rw[if_pos (by rw[hl];omega)]
  have d:=hid a;clear a hl j;go_enter func217,ntmps217;go_wp2_with fail;go_ret3;exact⟨.inr ⟨d.out,rfl⟩,Below.refl _ _⟩
 obtain⟨n,hn⟩:∃n,n=bq (s.data.toList.take 4):=⟨_,rfl⟩;have c:=iR (s.data.toList.take 4);have f:(s.data.toList.take 4).length=4:=by rw[List.length_take,hl];omega
 rw[f,←hn]at c;have v:n<4294967296:=by simpa using c
 have q:ah (s.extract 0 4) (s.data.toList.take 4):=((ah.self s).extract 0 4).cast (by simp);obtain⟨t,p⟩:∃t,s.extract 4 s.size=t:=⟨_,rfl⟩;have l:ah t (s.data.toList.drop 4):=by rw[←p];exact((ah.self s).extract 4 s.size).cast (by rw[List.take_of_length_le (by rw[hl];omega)])
 have m:t.size=s.size-4:=by rw[l.size,List.length_drop,hl]
 have h:=hid q;have i:=hid l;have b:=hid hn;have g:=hid hl;have z:=hid m;have y:=hid p;have r:(4:Int)≤s.size:=by omega
 clear q l hl c f
 by_cases o:t.size<n
 ·have a:eZ s.data.toList=none:=by unfold eZ;rw[if_pos (by rw[g.out,←b.out];omega)]
  have d:=hid a;have u:(t.size:Int)<n:=by omega
  clear a hn m o j;go_enter func217,ntmps217;go_wp2_with fail
  refine(nc (s.extract 0 4) _).mono ?_
  rintro e x ⟨k,rfl⟩
  rcases k with⟨hok,rfl⟩|⟨hno,rfl⟩
  rotate_left
  ·exfalso
   rw[h.out,List.length_take,g.out,←b.out]at hno;omega
  rw[h.out,←b.out];clear hok;go_wp2_with fail;go_ret3;exact⟨.inr ⟨d.out,rfl⟩,Below.refl _ _⟩
 ·have a:eZ s.data.toList=some ((s.data.toList.drop 4).take n,(s.data.toList.drop 4).drop n):=by unfold eZ;rw[if_neg (by rw[g.out,←b.out];omega),←b.out]
  have d:=hid a;have u:(n:Int)≤(t.size:Int):=by omega
  have A:(0:Int)≤(n:Int):=by omega
  clear a hn m o j;go_enter func217,ntmps217;go_wp2_with fail
  refine(nc (s.extract 0 4) _).mono ?_
  rintro e x ⟨k,rfl⟩
  rcases k with⟨hok,rfl⟩|⟨hno,rfl⟩
  rotate_left
  ·exfalso
   rw[h.out,List.length_take,g.out,←b.out]at hno;omega
  rw[h.out,←b.out];clear hok;go_wp2_with fail;go_quiet (fail);go_wp2_with fail;go_ret3;refine⟨.inl ⟨_,_,_,_,d.out,rfl, ?_, ?_⟩,⟨rfl,rfl,rfl,Nat.le_refl _,fun _ _=>rfl⟩⟩
  ·exact(i.extract 0 n).cast (by simp)
  ·exact(i.extract n t.size).cast (by rw[List.take_of_length_le (by rw[←i.size];omega)])
theorem Jf:(prog.info? 3).map (fun i=>(i.zero,i.size,i.bytes))=some (some (.int .i64 0),1,8):=by kernel_rfl
theorem E4 (b k:Nat) (s:ByteArray) (w:World) (hb:ac w b [.string s] 9) (j:k≤s.size):
  Calls prog 267 #[.int .i64 (k:Int), .pointer (some ⟨b,0,none⟩)] w fun e c=>∃x y,e= .returned (.string x)∧ah x (s.data.toList.take k)∧ah y (s.data.toList.drop k)∧c=w.setCell ⟨b,0,none⟩ (.string y):=by
 have hl:s.data.toList.length=s.size:=rfl;have a:=hid hl;clear hl;have g:=hb.cell (i:=0) rfl;have h:=hb.free 0;have d:(0:Int)≤(k:Int):=by omega
 have f:(k:Int)≤s.size:=by omega
 go_enter func267,ntmps267;go_wp2_with fail;go_ret;refine⟨_,_,rfl, ?_, ?_,rfl⟩
 ·exact((ah.self s).extract 0 k).cast (by simp)
 ·exact((ah.self s).extract k s.size).cast (by rw[List.take_of_length_le (by rw[a.out];omega)])
def sumTo (ws:List Nat) (k:Nat):Nat:=(ws.take k).sum
theorem fH {b:List Nat} {k a:Nat} (h:b[k]?=some a):sumTo b (k+1)=sumTo b k+a:=by
 obtain⟨c,rfl⟩:=List.getElem?_eq_some_iff.1 h;unfold sumTo;rw[List.take_succ_eq_append_getElem c,List.sum_append];simp
theorem vP (a:List Nat):sumTo a a.length=a.sum:=by unfold sumTo;rw[List.take_length]
theorem sumTo_le (a:List Nat) (k:Nat):sumTo a k≤a.sum:=by
 have h:=List.take_append_drop k a;unfold sumTo
 conv=>rhs;rw[←h]
 rw[List.sum_append];omega
def mO (ws:List Nat) (l:List UInt8) (w w':World) (e:Ending):Prop:=
 (∃ns vo,bD ws l=some ns∧e= .returned (.tuple #[vo, .int .i64 0])∧w'.ownsRow w.heap.size 3 1 vo ns.length (ns.map (Value.int .i64))∧ns.length=ws.length)∨
 (bD ws l=none∧e= .returned (.tuple #[.slice none 0 0, .int .i64 3]))
structure fk (ws:List Nat) (l:List UInt8) (k:Nat) (ns:List Int):Prop where
 len:ns.length=k
 all:bD ws l=(bD (ws.drop k) (l.drop (sumTo ws k))).map (ns++·)
theorem fk.start (a:List Nat) (l:List UInt8):fk a l 0 []:=⟨rfl,by simp[sumTo]⟩
theorem fk.no {b:List Nat} {l:List UInt8} {k a:Nat} {f:List Int} (h:fk b l k f) (d:b[k]?=some a) (e:ng ((l.drop (sumTo b k)).take a)=false):bD b l=none:=by
 rw[h.all];obtain⟨c,rfl⟩:=List.getElem?_eq_some_iff.1 d;rw[List.drop_eq_getElem_cons c];simp only[bD];rw[e]
 rfl
theorem fk.next {b:List Nat} {l:List UInt8} {k a:Nat} {d:List Int} (h:fk b l k d) (c:b[k]?=some a) (g:ng ((l.drop (sumTo b k)).take a)=true):
  fk b l (k+1) (d++[((bq ((l.drop (sumTo b k)).take a):Nat):Int)]):=by
 refine⟨by rw[List.length_append,h.len];rfl, ?_⟩;have e:l.drop (sumTo b k+a)=(l.drop (sumTo b k)).drop a:=by rw[List.drop_drop]
 rw[h.all,fH c,e];obtain⟨f,rfl⟩:=List.getElem?_eq_some_iff.1 c;rw[List.drop_eq_getElem_cons f];simp only[bD];rw[g,if_pos rfl,Option.map_map]
 congr 1
 funext x
 simp
theorem fk.done {a:List Nat} {l:List UInt8} {k:Nat} {ns:List Int} (h:fk a l k ns) (b:a.length≤k):bD a l=some ns:=by
 rw[h.all,List.drop_of_length_le b];simp[bD]
theorem kH (v:Value) (f:List Nat) (s:ByteArray) (w:World) (Z:bC w v (f.map (fun(a:Nat)=>(a:Int)))) (hw:∀(k a:Nat),f[k]?=some a→1≤a∧a≤8) (K:f.sum=s.size) (Y:0<f.length) (W:f.length≤16):
  Calls prog 216 #[v, .string s] w fun e w'=>mO f s.data.toList w w' e∧Below w.heap.size w w':=by
 obtain⟨g,o,c,rfl,hg,hc⟩:=Z.at (by rw[List.length_map];exact Y);have hl:s.data.toList.length=s.size:=rfl;obtain⟨n,hn⟩:∃n,n=f.length:=⟨_,rfl⟩;rw[List.length_map,←hn];have C:∀(k a:Nat),f[k]?=some a→w.cell? ⟨g,o+k,none⟩=some (.int .i64 (a:Int)):=fun k a l=>hc k a (by rw[List.getElem?_map,l];rfl)
 have b1:s.size≤128:=by
  have:∀k,k≤f.length→sumTo f k≤8*k:=by
   intro k
   induction k with
   |zero=>intro _;simp[sumTo]
   |succ k ih=>
    intro hk;obtain⟨a,l⟩:∃a,f[k]?=some a:=⟨_,List.getElem?_eq_getElem (by omega)⟩
    have:=hw k a l
    rw[fH l]
    have:=ih (by omega)
    omega
  have h:=this f.length (Nat.le_refl _);rw[vP]at h;omega
 have b0:n≤16:=by omega
 have co:0<n:=by omega
 have Q:=hid hn;clear hn;have HC:=hid C;clear C;have HW:=hid hw;clear hw;have HS:=hid K;clear K;have HL:=hid hl;clear hl;clear Z hc Y W;have cm:∀(fn:Fn) (first S:Array Value) (w:World),(Instr.makeFunc fn first S).run prog w= .ok (.func fn first S) w:=fun _ _ _ _=>rfl
 obtain⟨j0,ji,bk,bl,bm⟩:=info_parts Jf;go_enter func216,ntmps216;go_wp2_with ((with_reducible refine aO 9 (.tmp 1) (.string s) rfl (some 3) ?hgd ?ho ?hd ?hx ?_);(case hgd|ho|hd|hx=>rfl);(intro b w1 l1 B1 e1 z1));have A:=e1.mono l1;have P:=hid B1;clear B1;go_loop [6,17] (fun x i=>∃k:Nat,k≤n∧i= .int .i64 k∧x= .int .i64 ((sumTo f k:Nat):Int)) (fun _ i=>n-(intOf i).toNat)
 case atStart=>exact⟨0,by omega,rfl,rfl⟩
 case round=>
  obtain⟨k,hk,rfl,rfl⟩:=hrel;obtain⟨x,hx⟩:∃x,x=sumTo f k:=⟨_,rfl⟩;rw[←hx];have cs:x≤128:=by have:=sumTo_le f k;have:=HS.out;omega
  have HX:=hid hx;clear hx
  by_cases L:k<n
  ·have X:(k:Int)<n:=by omega
   have a9:(0:Int)≤(k:Int):=by omega
   obtain⟨a,l⟩:∃a,f[k]?=some a:=⟨_,List.getElem?_eq_getElem (by rw[←Q.out];exact L)⟩;have V:w1.cell? ⟨g,o+k,none⟩=some (.int .i64 (a:Int)):=by rw[A.cell (by show g<w.heap.size;exact hg)];exact HC.out k a l
   obtain⟨a1,a2⟩:=HW.out k a l;have M:=fH l;rw[←HX.out]at M;have a5:=hid M;clear M l;have q1:¬(a:Int)<1:=by omega
   have q2:¬(8:Int)<a:=by omega
   go_wp2_with fail;go_round
   case rel=>exact⟨k+1,by omega,by go_num,by rw[a5.out];go_num⟩
   case measure=>simp[intOf];omega
  ·obtain rfl:k=n:=by omega
   have cu:(x:Int)=s.size:=by rw[HX.out,Q.out,vP,HS.out]
   have bb:=P.cell (i:=0) rfl;go_wp2_with fail;clear bb;go_loopw [10,38] (fun vo i wr=>∃(j:Nat) (t:ByteArray) (ns:List Int),j≤k∧i= .int .i64 j∧fk f s.data.toList j ns∧ah t (s.data.toList.drop (sumTo f j))∧ac wr b [.string t] 9∧wr.ownsRow (b+1) 3 1 vo j (ns.map (Value.int .i64))∧Below w.heap.size w wr) (fun _ i _=>k-(intOf i).toNat)
   case atStart=>exact⟨0,s,[],by omega,rfl,fk.start _ _,ah.self s,P.out,World.ownsRow_nil _ _ _ _,A⟩
   case round=>
    obtain⟨j,t,ns,hj,rfl,U,tt,J,E,m⟩:=hrel;obtain⟨q,d,rfl⟩:=az E;have HO:=hid E;clear E;have HB:=hid J;clear J;have r:=hid U;clear U;have TT:=hid tt;clear tt
    by_cases L:j<k
    ·have X:(j:Int)<k:=by omega
     have a9:(0:Int)≤(j:Int):=by omega
     obtain⟨a,l⟩:∃a,f[j]?=some a:=⟨_,List.getElem?_eq_getElem (by rw[←Q.out];exact L)⟩;have V:wr.cell? ⟨g,o+j,none⟩=some (.int .i64 (a:Int)):=by rw[m.cell (by show g<w.heap.size;exact hg)];exact HC.out j a l
     obtain⟨a1,a2⟩:=HW.out j a l
     have bd:a≤t.size:=by
      have e1:=TT.size;rw[List.length_drop,HL.out]at e1;have e2:=fH l;have T:=sumTo_le f (j+1);have e4:=HS.out;omega
     have HA:=hid l;clear l;go_wp2_with fail
     refine(E4 b a t _ HB.out bd).mono ?_
     rintro e w2 ⟨N,O,rfl,tx,ty,rfl⟩;have TX:=hid (tx.cast (by rw[show t.data.toList= _ from TT.out]));clear tx;have TY:Hid (ah O (s.data.toList.drop (sumTo f (j+1)))):=hid (ty.cast (by rw[show t.data.toList= _ from TT.out,fH HA.out,List.drop_drop]));clear ty;go_wp2_with fail
     refine(nc N _).mono ?_
     rintro e w2 ⟨he,rfl⟩;have G:=hid (HB.set 0 (.string O));have R:=hid (JM (u:= .string O) (i:=0) HO.out (Nat.lt_succ_self b));have B:Below w.heap.size w (wr.setCell ⟨b,0,none⟩ (.string O)):=m.setCell (by show w.heap.size≤b;exact l1) _;have H:=hid B;obtain⟨w4,ad⟩:∃w4,wr.setCell ⟨b,0,none⟩ (.string O)=w4:=⟨_,rfl⟩;rw[ad]at G R H ⊢;clear B ad m HB HO V
     rcases he with⟨hok,rfl⟩|⟨hno,rfl⟩
     ·have D:ng ((s.data.toList.drop (sumTo f j)).take a)=true:=by rw[lj,←show N.data.toList= _ from TX.out];exact hok
      have p:=r.next HA.out D;rw[←show N.data.toList= _ from TX.out]at p;have I:=hid p;obtain⟨z,hz⟩:∃z,((bq N.data.toList:Nat):Int)=z:=⟨_,rfl⟩;rw[hz]at I ⊢;clear hz hok D p
      go_wp2_with (first
       |((with_reducible refine bi 34 3 1 ?parts [.int .i64 z] (.int .i64 0) 1 8 (some 54) underlying34 Jf (by omega) (by omega) ?hgd ?ho ?hd ?hf ?_);(case hgd|ho|hd=>rfl);(case hf=>kernel_rfl);(intro g3 w3 l3 B3 T z3);(have F:=own_below (T.mono l3) R.out))
       |(at_builtin;refine wpList_append_own_wide _ rfl _ _ 34 rfl (b+1) 3 j0 (.int .i64 0) 1 8 underlying34 ji bk bl bm rfl (by decide) _ _ _ rfl F ⟨g3,0,none⟩ 1 1 [.int .i64 z] rfl rfl (bI B3) (by intro v Z;simp at Z;subst Z;rfl) (by unfold maxLen;omega) (by omega) (by have:=G.lt;have:=T.size;omega) ?_;intro v' w5 aq y b6)
       |fail)
      have b3:=H.trans (T.mono (Nat.le_trans H.size l3));have B5:=(G.below T (by have:=G.lt;omega)).grown y (own_ne F (by omega));go_wp2_with fail;go_roundw
      case rel=>exact⟨j+1,O,ns++[z],by omega,by go_num,I.out,TY.out,B5,by rw[List.map_append];exact aq,dH b3 F y (by omega) b3.size⟩
      case measure=>simp[intOf];omega
     ·have D:ng ((s.data.toList.drop (sumTo f j)).take a)=false:=by
       rw[←show N.data.toList= _ from TX.out]
       cases hh:ng N.data.toList with
       |false=>rfl
       |true=>exact absurd (lj.1 hh) hno
      have p:=r.no HA.out D;have I:=hid p;clear D p hno;go_wp2_with fail;go_ret2;exact⟨.inr ⟨I.out,rfl⟩,H.out⟩
    ·obtain rfl:j=k:=by omega
     go_wp2_with fail;go_ret2;refine⟨.inl ⟨ns,_,r.done (by rw[←Q.out];omega),rfl, ?_,by rw[r.len,Q.out]⟩,m⟩;rw[r.len];exact own_base HO.out (by omega)
theorem bP {w n:Nat} {b:List Nat} {l:List UInt8} (e:1≤w) (f:w≤8) (hn:n<256^w) (a:n<9223372036854775808):bD (w::b) (beBytes w n++l)=(bD b l).map ((n:Int)::·):=by
 have c:(beBytes w n++l).take w=beBytes w n:=ij (beBytes_length w n);have d:(beBytes w n++l).drop w=l:=ik (beBytes_length w n);have hb:=ir w n hn
 conv=>lhs;unfold bD
 rw[c,d,if_pos (lj.2 ⟨by rw[beBytes_length];exact e,by rw[beBytes_length];exact f,by rw[hb];exact a⟩),hb]
theorem kJ (l:List UInt8):bD [] l=some []:=by unfold bD;rfl
theorem AO {g:aH} (h:cA g):bD [4,4,4] (kf g)=some [g.blocks,g.lbas,g.first]:=by
 obtain⟨a,b,c,d,f,i⟩:=h;have j:(256:Nat)^4=4294967296:=rfl;have e:kf g=beBytes 4 g.blocks.toNat++(beBytes 4 g.lbas.toNat++(beBytes 4 g.first.toNat++[])):=by unfold kf;simp
 rw[e,bP (by decide) (by decide) (by omega) (by omega),bP (by decide) (by decide) (by omega) (by omega),bP (by decide) (by decide) (by omega) (by omega),kJ];simp only[Option.map_some];rw[show((g.blocks.toNat:Nat):Int)=g.blocks by omega,show((g.lbas.toNat:Nat):Int)=g.lbas by omega,show((g.first.toNat:Nat):Int)=g.first by omega]
theorem uJ (w:World):Sem.run prog (zeroValue 23) w= .ok (.agg (aH.zero.cells).toArray) w:=by kernel_rfl
theorem KC (blocks a first:Int) (hb:blocks≠0) (w:World):(Op.equalIn 10000 23 (.agg #[.int .i64 blocks, .int .i64 a, .int .i64 first]) (.agg #[.int .i64 0, .int .i64 0, .int .i64 0])).run prog w= .ok false w:=by
 have e:false=((blocks==0)&&((a==0)&&((first==0)&&true))):=by simp[hb]
 rw[e];refine kY (d:=9999) underlying23 (by kernel_rfl) ?_;refine gj (k:= .i64) (d:=9998) (by decide) (by kernel_rfl) (by kernel_rfl) underlying3 ?_;refine gj (k:= .i64) (d:=9998) (by decide) (by kernel_rfl) (by kernel_rfl) underlying3 ?_;refine gj (k:= .i64) (d:=9998) (by decide) (by kernel_rfl) (by kernel_rfl) underlying3 ?_;exact nV
theorem aU {f:Func} {p u:Tmp} {c:TypeId} {cs:List Value} {d:TypeDesc} (h:f.results=#[.cell p c, .tmp u]) (a:Array Value) (w:World) {b:Nat} (hb:w.rangeAt b 0 cs) (hp:a.getD p undef= .pointer (some ⟨b,0,none⟩))
  (hu:prog.underlying c=some d) (hd:d.isRow=true) (g:(prog.info? c).map (·.size)=some cs.length):
  (results f a).run prog w= .ok (.tuple #[.agg cs.toArray,a.getD u undef]) w:=by
 have e:=run_loadVar_mid (P:=prog) w b 0 c cs _ hb hu hd g;rw[results_cell_tmp h,hp];simp only[asAddr,Sem.run_pure,Result.andThen_ok,e]
theorem xw (g:aH) (s:ByteArray) (w:World) (F:ah s (kf g)) (hg:cA g):
  Calls prog 303 #[.string s] w fun e w'=>e= .returned (.tuple #[g.v, .int .i64 0])∧Below w.heap.size w w':=by
 have o:=AO hg;rw[←show s.data.toList= _ from F]at o;have hs:s.size=12:=by rw[F.size,js]
 obtain⟨blocks,b,first⟩:=g;have u:=hid o;have Y:=hid F;have U:=hid hg;have B:blocks≠0:=by have:=hg.b0;simp only at this;omega
 have X:=hid (KC blocks b first B);clear o F hg B;go_enter func303,ntmps303
 go_wp2_with (first
  |((with_reducible refine ab 23 _ uJ (some 2) ?hgd ?ho ?hd ?_);(case hgd|ho|hd=>rfl);(intro Z w1 G P R O))
  |fail)
 refine(ki _).mono ?_
 rintro e w2 ⟨⟨vw,rfl,D⟩,m⟩;have p:=hid (P.below m O);have x:=hid ((R.mono G).trans (m.mono (Nat.le_trans G (Nat.le_of_lt O))));have V:=hid G;have K:=hid D;clear P R O m D G;go_wp2_with fail
 refine(kH vw [4,4,4] s _ K.out (by intro k a h;match k,h with|0,h=>simp at h;omega|1,h=>simp at h;omega|2,h=>simp at h;omega|k+3,h=>simp at h) (by rw[hs];rfl) (by decide) (by decide)).mono ?_
 rintro e d ⟨he,n⟩
 rcases he with⟨ns,vo,hu,rfl,hown,_⟩|⟨hu,_⟩
 rotate_left
 ·exact absurd (u.symm.trans hu) (by simp)
 obtain rfl:[blocks,b,first]=ns:=Option.some.inj (u.symm.trans hu);obtain⟨l,ad,z,rfl,C,N,c⟩:=ba hown (by simp);have q:=hid (p.below n p.lt);have y:=hid (x.trans (n.mono x.size));have i0:d.cell? ⟨l,0,none⟩=some (.int .i64 blocks):=c.cell (i:=0) rfl;have i1:d.cell? ⟨l,1,none⟩=some (.int .i64 b):=c.cell (i:=1) rfl;have i2:d.cell? ⟨l,2,none⟩=some (.int .i64 first):=c.cell (i:=2) rfl;have M:l<d.heap.size:=c.lt;clear n hu hown C N c;go_wp2_with fail;go_region_held3 (fun w'=>w'.cell? ⟨l,0,none⟩=some (.int .i64 blocks)∧w'.cell? ⟨l,1,none⟩=some (.int .i64 b)∧w'.cell? ⟨l,2,none⟩=some (.int .i64 first)) (go_keep) (fail)
 all_goals
  have H:ac (d.alloc (Obj.cells #[.int .i64 blocks, .int .i64 b, .int .i64 first] 23)).drew d.heap.size (aH.cells ⟨blocks,b,first⟩) 23:=ac.new d (aH.cells ⟨blocks,b,first⟩) 23;have f:Below d.heap.size d (d.alloc (Obj.cells #[.int .i64 blocks, .int .i64 b, .int .i64 first] 23)).drew:=((Below.refl _ _).alloc (Nat.le_refl _) _).drew;obtain⟨w6,E⟩:∃W,(d.alloc (Obj.cells #[.int .i64 blocks, .int .i64 b, .int .i64 first] 23)).drew=W:=⟨_,rfl⟩;rw[E]at H f ⊢;have t:=hid (q.below f q.lt);have A:=hid (y.trans (f.mono y.size));have I:=hid H;clear E H f i0 i1 i2 M;go_wp2_with ((with_reducible refine aj 23 (.tmp 6) d.heap.size (aH.cells ⟨blocks,b,first⟩) 23 _ I.out underlying23 rfl bG ?hgd ?ho ?hx ?_);(case hgd|ho|hx=>rfl))
  refine(mJ ⟨blocks,b,first⟩ _ U.out).mono ?_
  rintro e w7 ⟨r,rfl,S,j⟩;obtain rfl:r=s:=S.eq Y.out;have J:=hid (t.below j t.lt);have L:=hid (A.trans (j.mono A.size));have Q:=hid (I.below j I.lt);clear j S
  go_wp2_with (first
   |((with_reducible refine ao 23 (.tmp 6) d.heap.size 0 (aH.cells ⟨blocks,b,first⟩) _ (some 41) Q.out.range underlying23 rfl bG ?hg ?ho ?hds ?hx ?_);(case ho|hg|hds|hx=>rfl))
   |((with_reducible refine xG 23 23 (.tmp 41) (.tmp 42) #[.int .i64 blocks, .int .i64 b, .int .i64 first] #[.int .i64 0, .int .i64 0, .int .i64 0] false (some 43) (by kernel_rfl) (X.out _) ?hg ?ho ?hd ?hx ?hy ?_);(case hg|ho|hd|hx|hy=>rfl))
   |((with_reducible refine aj 23 (.tmp 6) d.heap.size (aH.cells ⟨blocks,b,first⟩) 23 _ Q.out underlying23 rfl bG ?hgd ?ho ?hx ?_);(case hgd|ho|hx=>rfl))
   |((with_reducible refine aa 23 (.tmp 2) (.tmp 46) Z aH.zero.cells (aH.cells ⟨blocks,b,first⟩) 23 J.out rfl bG (vJ _) ?hgd ?ho ?hx ?hy ?_);(case hgd|ho|hx|hy=>rfl);(intro w9 T o9))
   |fail)
  (try simp only[Exit.inBlock,Exit.then]);refine bodyPost_ret (aU rfl _ _ T.range rfl underlying23 rfl bG) rfl ⟨rfl,o9.below L.out V.out⟩
theorem cX (w:World):Sem.run prog (zeroValue 163) w= .ok (.agg (aF.zero.cells).toArray) w:=by kernel_rfl
theorem sV {d:List Nat} {l:List UInt8} {w c:World} {e:Ending} {a:List Int} (h:mO d l w c e) (hu:bD d l=some a):∃b,e= .returned (.tuple #[b, .int .i64 0])∧c.ownsRow w.heap.size 3 1 b a.length (a.map (Value.int .i64)):=by
 rcases h with⟨ns',b,h1,h2,h3,_⟩|⟨h1,_⟩
 ·obtain rfl:a=ns':=Option.some.inj (hu.symm.trans h1)
  exact⟨b,h2,h3⟩
 ·rw[hu]at h1;cases h1
def kK (s:aF):List UInt8:=beBytes 8 s.gen.toNat++beBytes 4 s.tail.toNat++beBytes 4 s.epoch.toNat++beBytes 8 s.clock.toNat
theorem mb (s:aF):(kK s).length=24:=by unfold kK;simp[beBytes_length]
theorem sW (s:aF):∃t,cG s=lU++(kK s++(kf s.geo++t)):=by
 refine⟨eh (fi s)++List.replicate (4096-(fi s++eh (fi s)).length) 0, ?_⟩;have h:fi s=lU++(kK s++kf s.geo):=by unfold fi kK;simp only[List.append_assoc]
 unfold cG fa;rw[List.append_assoc]
 conv=>lhs;lhs;rw[h]
 simp only[List.append_assoc]
theorem yH {s:aF} (h:eL s):bD [8,4,4,8] (kK s)=some [s.gen,s.tail,s.epoch,s.clock]:=by
 obtain⟨⟨k,l,m,n,o,p⟩,a,b,c,d,f,g,i,j⟩:=h;have q:(256:Nat)^4=4294967296:=rfl;have r:(256:Nat)^8=18446744073709551616:=rfl;have e:kK s=beBytes 8 s.gen.toNat++(beBytes 4 s.tail.toNat++(beBytes 4 s.epoch.toNat++(beBytes 8 s.clock.toNat++[]))):=by unfold kK;simp
 rw[e,bP (by decide) (by decide) (by omega) (by omega),bP (by decide) (by decide) (by omega) (by omega),bP (by decide) (by decide) (by omega) (by omega),bP (by decide) (by decide) (by omega) (by omega),kJ];simp only[Option.map_some];rw[show((s.gen.toNat:Nat):Int)=s.gen by omega,show((s.tail.toNat:Nat):Int)=s.tail by omega,show((s.epoch.toNat:Nat):Int)=s.epoch by omega,show((s.clock.toNat:Nat):Int)=s.clock by omega]
theorem E6 {a:ByteArray} {s:aF} (b:ah a (cG s)):a.extract 0 9=⟨#[107,101,101,112,115,97,107,101,49]⟩:=by
 obtain⟨t,h⟩:=sW s;rw[h]at b
 exact((b.extract 0 9).cast (by rw[List.drop_zero,ij (show lU.length=9 from rfl)])).eq (show ah (⟨#[107,101,101,112,115,97,107,101,49]⟩:ByteArray) lU from rfl)
theorem E7 {a:ByteArray} {s:aF} (b:ah a (cG s)):∃t,ah (a.extract 9 4096) (kK s++(kf s.geo++t)):=by
 obtain⟨t,h⟩:=sW s;have hl:(cG s).length=4096:=nL s;refine⟨t,(b.extract 9 4096).cast ?_⟩;rw[List.take_of_length_le (by rw[hl];exact Nat.le_refl _),h,ik (show lU.length=9 from rfl)]
theorem uK (w:World):
  Calls prog 286 #[.string (⟨(List.replicate 4096 0).toArray⟩:ByteArray)] w fun e w'=>e= .returned (.tuple #[aF.zero.v, .int .i64 3])∧Below w.heap.size w w':=by
 obtain⟨z,a⟩:∃z,(⟨(List.replicate 4096 0).toArray⟩:ByteArray)=z:=⟨_,rfl⟩;have o:z.size=4096:=by rw[←a];simp[ByteArray.size]
 have n:(z.size:Int)=4096:=by omega
 have d:(z.extract 0 9)≠⟨#[107,101,101,112,115,97,107,101,49]⟩:=by
  intro h;have c:=congrArg (fun b:ByteArray=>b.data.toList) h;have l:ah (z.extract 0 9) (List.replicate 9 0):=((show ah z (List.replicate 4096 0) by rw[←a];exact ah.mk _).extract 0 9).cast (by decide);rw[show(z.extract 0 9).data.toList= _ from l]at c;exact absurd c (by decide)
 have m:((z.extract 0 9).toList==([107,101,101,112,115,97,107,101,49]:List UInt8))=false:=by
  rw[beq_eq_false_iff_ne];intro h;refine d (ByteArray.ext (Array.toList_inj.1 ?_));rw[←Lib.toList_data];exact h
 rw[a];clear a d;go_enter func286,ntmps286
 go_wp2_with (first
  |((with_reducible refine ab 163 _ cX (some 2) ?hgd ?ho ?hd ?_);(case hgd|ho|hd=>rfl);(intro j q f g k s))
  |((with_reducible refine aa 163 (.tmp 2) (.tmp 23) j aF.zero.cells aF.zero.cells 163 g rfl aQ (cJ _) ?hgd ?ho ?hx ?hy ?_);(case hgd|ho|hx|hy=>rfl);(intro r i p))
  |fail)
 (try simp only[Exit.inBlock,Exit.then]);refine bodyPost_ret (aU rfl _ _ i.range rfl underlying163 rfl aQ) rfl ⟨rfl,p.below (k.mono f) f⟩
theorem Jt:(([8,4,4,8]:List Nat).map (fun(a:Nat)=>(a:Int)))=dY:=rfl
theorem mc (s:aF) (block:ByteArray) (w:World) (ht:ah block (cG s)) (hs:eL s):
  Calls prog 286 #[.string block] w fun e w'=>e= .returned (.tuple #[s.v, .int .i64 0])∧Below w.heap.size w w':=by
 have bn:block.size=4096:=by rw[ht.size,nL]
 have cw:(block.size:Int)=4096:=by omega
 have hm:=E6 ht
 have cu:((block.extract 0 9).toList==([107,101,101,112,115,97,107,101,49]:List UInt8))=true:=by
  rw[hm,Lib.toList_data];decide
 clear hm;obtain⟨tl,y⟩:=E7 ht;have HN:=hid (yH hs);have HT:=hid ht;have HS:=hid hs;obtain⟨j,fB⟩:∃r,block.extract 9 4096=r:=⟨_,rfl⟩;rw[fB]at y;have cv:j.size=4087:=by rw[←fB,ByteArray.size_extract,bn];decide
 have b6:(j.size:Int)=4087:=by omega
 have aq:ah (j.extract 0 24) (kK s):=(y.extract 0 24).cast (by rw[List.drop_zero,ij (mb s)])
 have aA:ah (j.extract 24 36) (kf s.geo):=(y.extract 24 36).cast (by
  rw[show(36:Nat)=24+12 from rfl,List.drop_take,show 24+12-24=12 from rfl,ik (mb s),ij (js s.geo)])
 have Q:=hid aq;have a9:=hid aA;have HR:=hid fB;clear ht hs y aq aA fB;go_enter func286,ntmps286
 go_wp2_with (first
  |((with_reducible refine ab 163 _ cX (some 2) ?hgd ?ho ?hd ?_);(case hgd|ho|hd=>rfl);(intro b2 w1 l1 B1 e1 z1))
  |fail)
 refine(jf _).mono ?_
 rintro e w2 ⟨⟨v2,rfl,a0⟩,F⟩;have J:=hid (B1.below F z1);have R:=hid ((e1.mono l1).trans (F.mono (Nat.le_trans l1 (Nat.le_of_lt z1))));have HL:=hid l1;clear B1 e1 z1 F l1;obtain⟨g3,o3,c3,rfl,cs,Y⟩:=a0.at (by decide);rw[show dY.length=4 from rfl];have a7:=hid Y;clear Y a0;go_wp2_with fail;go_loop [4,26] (fun x i=>∃k:Nat,k≤4∧i= .int .i64 k∧x= .int .i64 ((sumTo [8,4,4,8] k:Nat):Int)) (fun _ i=>4-(intOf i).toNat)
 case atStart=>exact⟨0,by omega,rfl,rfl⟩
 case round=>
  obtain⟨k,hk,rfl,rfl⟩:=hrel;obtain⟨x,hx⟩:∃x,x=sumTo [8,4,4,8] k:=⟨_,rfl⟩;rw[←hx];have bo:x≤24:=by have:=sumTo_le [8,4,4,8] k;rw[←hx]at this;exact this
  have HX:=hid hx;clear hx
  by_cases ad:k<4
  ·have b4:(k:Int)<4:=by omega
   have cl:(0:Int)≤(k:Int):=by omega
   obtain⟨a,ha⟩:∃a,([8,4,4,8]:List Nat)[k]?=some a:=⟨_,List.getElem?_eq_getElem (by exact ad)⟩;have co:w2.cell? ⟨g3,o3+k,none⟩=some (.int .i64 (a:Int)):=a7.out k a (by rw[←Jt,List.getElem?_map,ha];rfl);have H:=fH ha;rw[←HX.out]at H;have a8:=hid H
   have cm:a≤8:=by
    have:∀(k a:Nat),([8,4,4,8]:List Nat)[k]?=some a→a≤8:=by
     intro k a h
     match k,h with
     |0,h=>simp at h;omega
     |1,h=>simp at h;omega
     |2,h=>simp at h;omega
     |3,h=>simp at h;omega
     |k+4,h=>simp at h
    exact this k a ha
   clear H ha;go_wp2_with fail;go_round
   case rel=>exact⟨k+1,by omega,by go_num,by rw[a8.out];go_num⟩
   case measure=>simp[intOf];omega
  ·obtain rfl:k=4:=by omega
   obtain rfl:x=24:=HX.out;clear HX bo ad;go_wp2_with fail;rw[HR.out]
   go_region_with ((first
    |(go_at_call 253;refine(jf _).mono ?_;rintro e wA ⟨⟨vA,rfl,a1⟩,G⟩)
    |(go_at_call 216;refine(kH vA [8,4,4,8] (j.extract 0 24) _ a1 (by intro k a h;match k,h with|0,h=>simp at h;omega|1,h=>simp at h;omega|2,h=>simp at h;omega|3,h=>simp at h;omega|k+4,h=>simp at h) (by rw[Q.size,mb];rfl) (by decide) (by decide)).mono ?_;rintro e wB ⟨he,X⟩;obtain⟨vo,rfl,C⟩:=sV he (by rw[show(j.extract 0 24).data.toList= _ from Q.out];exact HN.out);clear he)
    |fail))
   have n:Below w2.heap.size w2 wB:=((Below.refl w2.heap.size w2).drew.trans G).trans (X.mono G.size);have K:=hid (J.below n J.lt);have S:=hid (R.trans (n.mono R.size));obtain⟨o,ci,z,rfl,Z,bl,B⟩:=ba C (by simp);have A:=hid B;rw[show[s.gen,s.tail,s.epoch,s.clock].length=4 from rfl];clear n G X a1 C Z bl B;go_wp2_with fail
   refine(xw s.geo (j.extract 24 36) _ a9.out HS.geo).mono ?_
   rintro e wC ⟨rfl,p⟩;have L:=hid (K.below p K.lt);have T:=hid (S.trans (p.mono S.size));have P:=hid (A.below p A.lt);clear p;obtain⟨g,f,c,b,⟨blocks,d,first⟩⟩:=s
   go_wp2_with (first
    |((with_reducible refine ab 23 _ uJ (some 10) ?hgd ?ho ?hd ?_);(case hgd|ho|hd=>rfl);(intro l wD lD BD eD zD))
    |((with_reducible refine aa 23 (.tmp 10) (.tmp 51) l aH.zero.cells (aH.cells ⟨blocks,d,first⟩) 23 BD rfl bG (vJ _) ?hgd ?ho ?hx ?hy ?_);(case hgd|ho|hx|hy=>rfl);(intro wE I oE))
    |fail)
   have q:Below wC.heap.size wC wE:=oE.below (eD.mono lD) lD;have M:=hid (L.below q L.lt);have U:=hid (T.trans (q.mono T.size));have m:=P.below q P.lt;have i0:wE.cell? ⟨o,0,none⟩=some (.int .i64 g):=m.cell (i:=0) rfl;have i1:wE.cell? ⟨o,1,none⟩=some (.int .i64 f):=m.cell (i:=1) rfl;have i2:wE.cell? ⟨o,2,none⟩=some (.int .i64 c):=m.cell (i:=2) rfl;have i3:wE.cell? ⟨o,3,none⟩=some (.int .i64 b):=m.cell (i:=3) rfl;have j0:wE.cell? ⟨l,0,none⟩=some (.int .i64 blocks):=I.cell (i:=0) rfl;have j1:wE.cell? ⟨l,1,none⟩=some (.int .i64 d):=I.cell (i:=1) rfl;have j2:wE.cell? ⟨l,2,none⟩=some (.int .i64 first):=I.cell (i:=2) rfl;have be:o<wE.heap.size:=m.lt;have bk:l<wE.heap.size:=I.lt;clear q m BD eD zD lD oE I;go_region_held3 (fun w'=>w'.cell? ⟨o,0,none⟩=some (.int .i64 g)∧w'.cell? ⟨o,1,none⟩=some (.int .i64 f)∧w'.cell? ⟨o,2,none⟩=some (.int .i64 c)∧w'.cell? ⟨o,3,none⟩=some (.int .i64 b)∧w'.cell? ⟨l,0,none⟩=some (.int .i64 blocks)∧w'.cell? ⟨l,1,none⟩=some (.int .i64 d)∧w'.cell? ⟨l,2,none⟩=some (.int .i64 first)) (go_keep) (fail)
   all_goals
    have D:ac (wE.alloc (Obj.cells #[.int .i64 g, .int .i64 f, .int .i64 c, .int .i64 b, .int .i64 blocks, .int .i64 d, .int .i64 first] 163)).drew wE.heap.size (aF.cells ⟨g,f,c,b,⟨blocks,d,first⟩⟩) 163:=ac.new wE (aF.cells ⟨g,f,c,b,⟨blocks,d,first⟩⟩) 163;have t:Below wE.heap.size wE (wE.alloc (Obj.cells #[.int .i64 g, .int .i64 f, .int .i64 c, .int .i64 b, .int .i64 blocks, .int .i64 d, .int .i64 first] 163)).drew:=((Below.refl _ _).alloc (Nat.le_refl _) _).drew;obtain⟨wF,a2⟩:∃W,(wE.alloc (Obj.cells #[.int .i64 g, .int .i64 f, .int .i64 c, .int .i64 b, .int .i64 blocks, .int .i64 d, .int .i64 first] 163)).drew=W:=⟨_,rfl⟩;rw[a2]at D t ⊢;have N:=hid (M.below t M.lt);have V:=hid (U.trans (t.mono U.size));have E:=hid D;clear a2 D t i0 i1 i2 i3 j0 j1 j2 be bk;go_wp2_with ((with_reducible refine aj 163 (.tmp 12) wE.heap.size (aF.cells ⟨g,f,c,b,⟨blocks,d,first⟩⟩) 163 _ E.out underlying163 rfl aQ ?hgd ?ho ?hx ?_);(case hgd|ho|hx=>rfl))
    refine(r4 ⟨g,f,c,b,⟨blocks,d,first⟩⟩ _ HS.out).mono ?_
    rintro e wG ⟨r,rfl,tr,u⟩;obtain rfl:r=block:=tr.eq HT.out;have a6:=hid (N.below u N.lt);have bb:=hid (V.trans (u.mono V.size));have O:=hid (E.below u E.lt);clear u tr
    go_wp2_with (first
     |((with_reducible refine aj 163 (.tmp 12) wE.heap.size (aF.cells ⟨g,f,c,b,⟨blocks,d,first⟩⟩) 163 _ O.out underlying163 rfl aQ ?hgd ?ho ?hx ?_);(case hgd|ho|hx=>rfl))
     |((with_reducible refine aa 163 (.tmp 2) (.tmp 87) b2 aF.zero.cells (aF.cells ⟨g,f,c,b,⟨blocks,d,first⟩⟩) 163 a6.out rfl aQ (cJ _) ?hgd ?ho ?hx ?hy ?_);(case hgd|ho|hx|hy=>rfl);(intro w9 B9 o9))
     |fail)
    (try simp only[Exit.inBlock,Exit.then]);refine bodyPost_ret (aU rfl _ _ B9.range rfl underlying163 rfl aQ) rfl ⟨rfl,o9.below bb.out HL.out⟩
theorem pG {c:Func} {p u v:Tmp} {d:TypeId} (h:c.results=#[.cell p d, .tmp u, .tmp v]) (b:Array Value) (P:Program) (w:World):
  (results c b).run P w=((asAddr (b.getD p undef)).run P w).andThen fun a e=>((loadVar d a).run P e).andThen fun x w₂=> .ok (.tuple #[x,b.getD u undef,b.getD v undef]) w₂:=by
 simp only[results,h];simp[Sem.run_bind,Result.andThen]
theorem iV {f:Func} {p u v:Tmp} {c:TypeId} {cs:List Value} {d:TypeDesc} (h:f.results=#[.cell p c, .tmp u, .tmp v]) (a:Array Value) (w:World) {b:Nat} (hb:w.rangeAt b 0 cs) (hp:a.getD p undef= .pointer (some ⟨b,0,none⟩))
  (hu:prog.underlying c=some d) (hd:d.isRow=true) (g:(prog.info? c).map (·.size)=some cs.length):
  (results f a).run prog w= .ok (.tuple #[.agg cs.toArray,a.getD u undef,a.getD v undef]) w:=by
 have e:=run_loadVar_mid (P:=prog) w b 0 c cs _ hb hu hd g;rw[pG h,hp];simp only[asAddr,Sem.run_pure,Result.andThen_ok,e]
theorem nO (s:aF) (b:ByteArray) (w:World) (hb:ah b (cG s)) (K:eL s):
  Calls prog 256 #[.string (⟨(List.replicate 4096 0).toArray⟩:ByteArray), .string b] w fun e w'=>e= .returned (.tuple #[s.v, .int .i64 1, .int .i64 0])∧Below w.heap.size w w':=by
 go_enter func256,ntmps256
 go_wp2_with (first
  |((with_reducible refine ab 163 _ cX (some 4) ?hgd ?ho ?hd ?_);(case hgd|ho|hd=>rfl);(intro H O m q u p))
  |fail)
 refine(uK _).mono ?_
 rintro e A ⟨rfl,a⟩;have f:=hid (q.below a p);have i:=hid ((u.mono m).trans (a.mono (Nat.le_trans m (Nat.le_of_lt p))));have G:=hid m;clear q u p m a
 go_wp2_with (first
  |((with_reducible refine ab 163 _ cX (some 7) ?hgd ?ho ?hd ?_);(case hgd|ho|hd=>rfl);(intro I P o r x N))
  |((with_reducible refine aa 163 (.tmp 7) (.tmp 14) I aF.zero.cells aF.zero.cells 163 r rfl aQ (cJ _) ?hgd ?ho ?hx ?hy ?_);(case hgd|ho|hx|hy=>rfl);(intro w4 C z))
  |fail)
 have c:Below A.heap.size A w4:=z.below (x.mono o) o;have g:=hid (f.below c f.lt);have j:=hid (i.trans (c.mono i.size));clear r x N o C z c
 refine(mc s b _ hb K).mono ?_
 rintro e B ⟨rfl,d⟩;have h:=hid (g.below d g.lt);have k:=hid (j.trans (d.mono j.size));clear d
 go_wp2_with (first
  |((with_reducible refine ab 163 _ cX (some 9) ?hgd ?ho ?hd ?_);(case hgd|ho|hd=>rfl);(intro t Q y D J S))
  |((with_reducible refine aa 163 (.tmp 9) (.tmp 19) t aF.zero.cells s.cells 163 D rfl aQ (cJ _) ?hgd ?ho ?hx ?hy ?_);(case hgd|ho|hx|hy=>rfl);(intro w7 E L);(have l:Below B.heap.size B w7:=L.below (J.mono y) y);(have n:=h.out.below l h.out.lt))
  |((with_reducible refine aj 163 (.tmp 9) t s.cells 163 _ E underlying163 rfl aQ ?hgd ?ho ?hx ?_);(case hgd|ho|hx=>rfl))
  |((with_reducible refine aa 163 (.tmp 4) (.tmp 43) H aF.zero.cells s.cells 163 n rfl aQ (cJ _) ?hgd ?ho ?hx ?hy ?_);(case hgd|ho|hx|hy=>rfl);(intro R F M))
  |fail)
 (try simp only[Exit.inBlock,Exit.then]);refine bodyPost_ret (iV rfl _ _ F.range rfl underlying163 rfl aQ) rfl ⟨rfl,M.below (k.trans (l.mono k.size)) G.out⟩
theorem Ig (w:World):Sem.run prog (zeroValue 311) w= .ok (.agg ([.string (⟨#[]⟩:ByteArray), .string (⟨#[]⟩:ByteArray), .string (⟨#[]⟩:ByteArray), .string (⟨#[]⟩:ByteArray)]:List Value).toArray) w:=by kernel_rfl
theorem rq (L:Nat) (d:am) (s:aF) (n:Nat) (ci:Int) (key:ByteArray) (w:World) (h:aC w L d) (hd:d.down=false) (hc:d.cs.length≤4096) (hb:d.bs.length≤1024) (h4:4≤d.bs.length)
  (hs:eL s) (hn:s.epoch=(n:Int)) (hg:s.geo.blocks=(d.bs.length:Int)) (W:∀Z:World,Calls prog 256 #[.string (d.shown 0), .string (d.shown 1)] Z fun e w'=>e= .returned (.tuple #[s.v, .int .i64 ci, .int .i64 0])∧Below Z.heap.size Z w') (be:key.size=32) (cr:ah (if n % 2=0 then d.shown 2 else d.shown 3) (ew n key.data.toList)):
  Calls prog 198 #[.pointer (some ⟨L,0,none⟩)] w fun e w'=>e= .returned (.tuple #[s.v, .string key, .int .i64 0])∧Below w.heap.size w w':=by
 have HH:=hid h;have HD:=hid hd;have HC:=hid hc;have HB:=hid hb;have H4:=hid h4;have HS:=hid hs;clear h hd hc hb h4 hs;go_enter func198,ntmps198
 go_wp2_with (first
  |((with_reducible refine ab 163 _ cX (some 2) ?hgd ?ho ?hd ?_);(case hgd|ho|hd=>rfl);(intro b2 w1 l1 B1 e1 z1))
  |((with_reducible refine ab 311 _ Ig (some 5) ?hgd ?ho ?hd ?_);(case hgd|ho|hd=>rfl);(intro j w2 l2 B2 e2 z2))
  |fail)
 have a5:=hid l1;have z:=hid (show w.heap.size≤j from Nat.le_trans l1 (Nat.le_of_lt (Nat.lt_of_lt_of_le z1 l2)));have E:=hid (show b2≠j by omega);have g:=(e1.mono l1).trans (e2.mono z.out);have U:=B1.below e2 (Nat.lt_of_lt_of_le z1 l2);clear e1 e2 z1 z2 l1 l2 B1;go_loopw [13] (fun v wr=>∃k:Nat,k≤4∧v= .int .i64 k∧((k=0→ac wr j [.string (⟨#[]⟩:ByteArray), .string (⟨#[]⟩:ByteArray), .string (⟨#[]⟩:ByteArray), .string (⟨#[]⟩:ByteArray)] 311)∧(k=1→ac wr j [.string (d.shown 0), .string (⟨#[]⟩:ByteArray), .string (⟨#[]⟩:ByteArray), .string (⟨#[]⟩:ByteArray)] 311)∧(k=2→ac wr j [.string (d.shown 0), .string (d.shown 1), .string (⟨#[]⟩:ByteArray), .string (⟨#[]⟩:ByteArray)] 311)∧(k=3→ac wr j [.string (d.shown 0), .string (d.shown 1), .string (d.shown 2), .string (⟨#[]⟩:ByteArray)] 311)∧(k=4→ac wr j [.string (d.shown 0), .string (d.shown 1), .string (d.shown 2), .string (d.shown 3)] 311))∧ac wr b2 aF.zero.cells 163∧Below w.heap.size w wr) (fun v _=>4-(intOf v).toNat)
 case atStart=>exact⟨0,by omega,rfl,⟨fun _=>B2,fun h=>(by cases h),fun h=>(by cases h),fun h=>(by cases h),fun h=>(by cases h)⟩,U,g⟩
 case round=>
  clear B2 U g;obtain⟨k,M,rfl,X,V,g⟩:=hrel;have A:=hid X;have t:=hid V;have u:=hid g;have y:=hid (HH.below g);clear X V g
  match k,M with
  |0,M=>
   have f:=A.out.1 (by trivial);have g0:=f.cell (i:=0) rfl;have f0:=f.free 0;go_wp2_with fail
   refine(eX L d _ y.out HD.out 0 (by have:=H4.out;omega) HC.out HB.out).mono ?_
   rintro e w' ⟨rfl,rfl⟩;obtain⟨q,c⟩:∃s,d.shown ((0:Nat):Int)=s:=⟨_,rfl⟩;rw[c];go_wp2_with fail;have m:=f.set 0 (.string q);have b:=m.ext (show _=[.string (d.shown 0), .string (⟨#[]⟩:ByteArray), .string (⟨#[]⟩:ByteArray), .string (⟨#[]⟩:ByteArray)] by rw[←c];rfl);have o:=u.setCell (p:=⟨j,0,none⟩) (by exact z.out) (.string q);have l:=t.set_other (a:=⟨j,0,none⟩) E.out (.string q);go_roundw
   case rel=>exact⟨1,by omega,rfl,⟨fun h=>(by cases h),fun _=>b,fun h=>(by cases h),fun h=>(by cases h),fun h=>(by cases h)⟩,l,o⟩
   case measure=>simp[intOf]
  |1,M=>
   have f:=A.out.2.1 (by trivial);have g1:=f.cell (i:=1) rfl;have f1:=f.free 1;go_wp2_with fail
   refine(eX L d _ y.out HD.out 1 (by have:=H4.out;omega) HC.out HB.out).mono ?_
   rintro e w' ⟨rfl,rfl⟩;obtain⟨q,c⟩:∃s,d.shown ((1:Nat):Int)=s:=⟨_,rfl⟩;rw[c];go_wp2_with fail;have m:=f.set 1 (.string q);have b:=m.ext (show _=[.string (d.shown 0), .string (d.shown 1), .string (⟨#[]⟩:ByteArray), .string (⟨#[]⟩:ByteArray)] by rw[←c];rfl);have o:=u.setCell (p:=⟨j,1,none⟩) (by exact z.out) (.string q);have l:=t.set_other (a:=⟨j,1,none⟩) E.out (.string q);go_roundw
   case rel=>exact⟨2,by omega,rfl,⟨fun h=>(by cases h),fun h=>(by cases h),fun _=>b,fun h=>(by cases h),fun h=>(by cases h)⟩,l,o⟩
   case measure=>simp[intOf]
  |2,M=>
   have f:=A.out.2.2.1 (by trivial);have g2:=f.cell (i:=2) rfl;have f2:=f.free 2;go_wp2_with fail
   refine(eX L d _ y.out HD.out 2 (by have:=H4.out;omega) HC.out HB.out).mono ?_
   rintro e w' ⟨rfl,rfl⟩;obtain⟨q,c⟩:∃s,d.shown ((2:Nat):Int)=s:=⟨_,rfl⟩;rw[c];go_wp2_with fail;have m:=f.set 2 (.string q);have b:=m.ext (show _=[.string (d.shown 0), .string (d.shown 1), .string (d.shown 2), .string (⟨#[]⟩:ByteArray)] by rw[←c];rfl);have o:=u.setCell (p:=⟨j,2,none⟩) (by exact z.out) (.string q);have l:=t.set_other (a:=⟨j,2,none⟩) E.out (.string q);go_roundw
   case rel=>exact⟨3,by omega,rfl,⟨fun h=>(by cases h),fun h=>(by cases h),fun h=>(by cases h),fun _=>b,fun h=>(by cases h)⟩,l,o⟩
   case measure=>simp[intOf]
  |3,M=>
   have f:=A.out.2.2.2.1 (by trivial);have g3:=f.cell (i:=3) rfl;have f3:=f.free 3;go_wp2_with fail
   refine(eX L d _ y.out HD.out 3 (by have:=H4.out;omega) HC.out HB.out).mono ?_
   rintro e w' ⟨rfl,rfl⟩;obtain⟨q,c⟩:∃s,d.shown ((3:Nat):Int)=s:=⟨_,rfl⟩;rw[c];go_wp2_with fail;have m:=f.set 3 (.string q);have b:=m.ext (show _=[.string (d.shown 0), .string (d.shown 1), .string (d.shown 2), .string (d.shown 3)] by rw[←c];rfl);have o:=u.setCell (p:=⟨j,3,none⟩) (by exact z.out) (.string q);have l:=t.set_other (a:=⟨j,3,none⟩) E.out (.string q);go_roundw
   case rel=>exact⟨4,by omega,rfl,⟨fun h=>(by cases h),fun h=>(by cases h),fun h=>(by cases h),fun h=>(by cases h),fun _=>b⟩,l,o⟩
   case measure=>simp[intOf]
  |4,M=>
   have f:=A.out.2.2.2.2 (by trivial);have g0:=f.cell (i:=0) rfl;have g1:=f.cell (i:=1) rfl;have R:=hid f;have a1:=hid W;clear f W;go_wp2_with fail
   refine(a1.out _).mono ?_
   rintro e w4 ⟨rfl,C⟩;have N:=hid (R.below C R.lt);have T:=hid (t.below C t.lt);have a2:=hid (y.below C);have H:=hid (u.trans (C.mono u.size));clear C g0 g1
   go_wp2_with (first
    |((with_reducible refine ab 163 _ cX (some 9) ?hgd ?ho ?hd ?_);(case hgd|ho|hd=>rfl);(intro b9 w6 l6 B6 e6 z6))
    |((with_reducible refine aa 163 (.tmp 9) (.tmp 36) b9 aF.zero.cells s.cells 163 B6 rfl aQ (cJ _) ?hgd ?ho ?hx ?hy ?_);(case hgd|ho|hx|hy=>rfl);(intro w7 B7 o7))
    |fail)
   have D:Below w4.heap.size w4 w7:=o7.below (e6.mono l6) l6;have Q:=hid (N.below D N.lt);have a7:=hid (T.below D T.lt);have a3:=hid (a2.below D);have P:=hid (H.trans (D.mono H.size));have F:=hid B7;have a4:=hid hg;clear D B6 e6 l6 z6 o7 B7 hg;refine wp_region_held_drew (S:=fun Z=>Z.cell? ⟨b9,4,none⟩=some (.int .i64 s.geo.blocks)) (by kernel_rfl) (F.drew.cell (i:=4) rfl) (fun B=> ?_);refine hp 0 ?_;refine hp 1 ?_;refine hp 2 ?_;refine hp 3 ?_;refine wpAnyH_ready (rs:=[4]) (by kernel_rfl) (by simp) ?_;refine AllReadyH.cons rfl (fun K hK=> ?_) AllReadyH.nil;go_simp
   refine(oV L d _ (a3.below (Below.refl _ _).drew)).mono ?_
   rintro e w' ⟨rfl,rfl⟩;rw[←a4.out]
   (try go_wp2_with fail)
   refine hK.out _ _ (F.drew.cell (i:=4) rfl) (fun r=> ?_);clear hK K B;have B:=r;clear r
   (try go_frame)
   refine hp 5 ?_;refine wpAnyH_done (by kernel_rfl) ?_ _;have x:=hid (P.drew);have x2:=Q.drew.cell (i:=2) rfl;have x3:=Q.drew.cell (i:=3) rfl;have y2:=F.drew.cell (i:=2) rfl;rw[hn]at y2;have J:=hid F.drew;have I:=hid a7.drew;obtain⟨wy,Y⟩:∃wy,w7.drew=wy:=⟨_,rfl⟩;rw[Y]at x x2 x3 y2 J I ⊢;clear Y;go_wp2_with fail
   refine(vM n key (d.shown 2) (d.shown 3) _ (by have:=HS.e1;omega) be cr).mono ?_
   rintro e w8 ⟨rfl,G⟩;have a8:=hid (J.below G J.lt);have a6:=hid (I.below G I.lt);have O:=hid (x.trans (G.mono x.size));clear G x2 x3 y2
   go_wp2_with (first
    |((with_reducible refine aj 163 (.tmp 9) b9 s.cells 163 _ a8.out underlying163 rfl aQ ?hgd ?ho ?hx ?_);(case hgd|ho|hx=>rfl))
    |((with_reducible refine aa 163 (.tmp 2) (.tmp 60) b2 aF.zero.cells s.cells 163 a6.out rfl aQ (cJ _) ?hgd ?ho ?hx ?hy ?_);(case hgd|ho|hx|hy=>rfl);(intro w9 B9 o9))
    |fail)
   (try simp only[Exit.inBlock,Exit.then]);refine bodyPost_ret (iV rfl _ _ B9.range rfl underlying163 rfl aQ) rfl ⟨rfl,o9.below O.out a5.out⟩
theorem C7 (a:Nat) (d:am) (s:aF) (n:Nat) (key:ByteArray) (w:World) (h:aC w a d) (hd:d.down=false) (hc:d.cs.length≤4096) (hb:d.bs.length≤1024) (i:4≤d.bs.length)
  (c:eL s) (hn:s.epoch=(n:Int)) (j:s.geo.blocks=(d.bs.length:Int)) (f:d.shown 0=(⟨(List.replicate 4096 0).toArray⟩:ByteArray)) (g:ah (d.shown 1) (cG s)) (b:key.size=32) (cr:ah (if n % 2=0 then d.shown 2 else d.shown 3) (ew n key.data.toList)):
  Calls prog 198 #[.pointer (some ⟨a,0,none⟩)] w fun e w'=>e= .returned (.tuple #[s.v, .string key, .int .i64 0])∧Below w.heap.size w w':=
 rq a d s n 1 key w h hd hc hb i c hn j (fun k=>by rw[f];exact nO s (d.shown 1) k g c) b cr
end Go.Proofs.YtadooplpfhdhcaaGreat
