/- Walks of octet.Cut and octet.Unpack (chapter 1). The shape of a shape's bytes (chapter 9): Take. The superblock of bytes (chapter 10): Take. The later superblock of two (chapter 10): Choose, where the first place has noughts. What a formatted disk has (chapter 25): found. -/
import Derived.Test.YtgimkmclgjfddaaGreatQ9
import Derived.Test.YtgimkmclgjfddaaGreatQ7
import Derived.Test.YtgimkmclgjfddaaGreatQ2
import Derived.Deep.RegionLaw
import Derived.Deep.DeepAppendWide
import Derived.Deep.RegionWith
import Derived.Deep.QuietTactic
import Derived.BigQuiet
import Derived.Deep.RegionHeld3
import Derived.Test.YtgimkmclgjfddaaGreatQ11
set_option linter.unusedSimpArgs false
set_option linter.unusedVariables false
set_option maxRecDepth 100000
set_option maxHeartbeats 4000000
namespace Go.Proofs.YtgimkmclgjfddaaGreat
open Go Go.RowKit
def uh (l:List UInt8) (e:Ending):Prop:=
 (∃a b x y,dZ l=some (a,b)∧e= .returned (.tuple #[.string x, .string y, .int .i64 0])∧aj x a∧aj y b)∨
 (dZ l=none∧e= .returned (.tuple #[.string ⟨#[]⟩, .string ⟨#[]⟩, .int .i64 3]))
theorem m8 (s:ByteArray) (w:World):
  Calls Tryz.prog 299 #[.string s] w fun e w'=>uh s.data.toList e∧Below w.heap.size w w':=by
 have hl:s.data.toList.length=s.size:=rfl
 by_cases c1:s.size<4
 ·have d1:(s.size:Int)<4:=by omega
  have e1:dZ s.data.toList=none:=by unfold dZ;rw[if_pos (by rw[hl];omega)]
  have E1:=Lib.hid e1
  clear e1 hl c1
  go_enter Tryz.func299,Tryz.ntmps299
  go_wp2_with fail
  go_ret3
  exact⟨.inr ⟨E1.out,rfl⟩,Below.refl _ _⟩
 obtain⟨n,hn⟩:∃n,n=aR (s.data.toList.take 4):=⟨_,rfl⟩
 have hlt:=gg (s.data.toList.take 4)
 have hl4:(s.data.toList.take 4).length=4:=by rw[List.length_take,hl];omega
 rw[hl4,←hn]at hlt
 have hn4:n<4294967296:=by simpa using hlt
 have tg:aj (s.extract 0 4) (s.data.toList.take 4):=((aj.self s).extract 0 4).cast (by simp)
 obtain⟨t,ht⟩:∃t,s.extract 4 s.size=t:=⟨_,rfl⟩
 have tt:aj t (s.data.toList.drop 4):=by rw[←ht];exact((aj.self s).extract 4 s.size).cast (by rw[List.take_of_length_le (by rw[hl];omega)])
 have tz:t.size=s.size-4:=by rw[tt.size,List.length_drop,hl]
 have TG:=Lib.hid tg
 have TT:=Lib.hid tt
 have HN:=Lib.hid hn
 have HL:=Lib.hid hl
 have TZ:=Lib.hid tz
 have HT:=Lib.hid ht
 have d1:(4:Int)≤s.size:=by omega
 clear tg tt hl hlt hl4
 by_cases c2:t.size<n
 ·have e1:dZ s.data.toList=none:=by unfold dZ;rw[if_pos (by rw[HL.out,←HN.out];omega)]
  have E1:=Lib.hid e1
  have d2:(t.size:Int)<n:=by omega
  clear e1 hn tz c2 c1
  go_enter Tryz.func299,Tryz.ntmps299
  go_wp2_with fail
  refine(ix (s.extract 0 4) _).mono ?_
  rintro e w1 ⟨he,rfl⟩
  rcases he with⟨hok,rfl⟩|⟨hno,rfl⟩
  rotate_left
  ·exfalso
   rw[TG.out,List.length_take,HL.out,←HN.out]at hno
   omega
  rw[TG.out,←HN.out]
  clear hok
  go_wp2_with fail
  go_ret3
  exact⟨.inr ⟨E1.out,rfl⟩,Below.refl _ _⟩
 ·have e1:dZ s.data.toList=some ((s.data.toList.drop 4).take n,(s.data.toList.drop 4).drop n):=by unfold dZ;rw[if_neg (by rw[HL.out,←HN.out];omega),←HN.out]
  have E1:=Lib.hid e1
  have d2:(n:Int)≤(t.size:Int):=by omega
  have d3:(0:Int)≤(n:Int):=by omega
  clear e1 hn tz c2 c1
  go_enter Tryz.func299,Tryz.ntmps299
  go_wp2_with fail
  refine(ix (s.extract 0 4) _).mono ?_
  rintro e w1 ⟨he,rfl⟩
  rcases he with⟨hok,rfl⟩|⟨hno,rfl⟩
  rotate_left
  ·exfalso
   rw[TG.out,List.length_take,HL.out,←HN.out]at hno
   omega
  rw[TG.out,←HN.out]
  clear hok
  go_wp2_with fail
  go_quiet (fail)
  go_wp2_with fail
  go_ret3
  refine⟨.inl ⟨_,_,_,_,E1.out,rfl, ?_, ?_⟩,⟨rfl,rfl,rfl,Nat.le_refl _,fun _ _=>rfl⟩⟩
  ·exact(TT.out.extract 0 n).cast (by simp)
  ·exact(TT.out.extract n t.size).cast (by rw[List.take_of_length_le (by rw[←TT.out.size];omega)])
theorem E6:(Tryz.prog.info? 3).map (fun i=>(i.zero,i.size,i.bytes))=some (some (.int .i64 0),1,8):=by kernel_rfl
theorem AQ (b k:Nat) (s:ByteArray) (w:World) (hb:ab w b [.string s] 9) (hk:k≤s.size):
  Calls Tryz.prog 371 #[.int .i64 (k:Int), .pointer (some ⟨b,0,none⟩)] w fun e w'=>∃x y,e= .returned (.string x)∧aj x (s.data.toList.take k)∧aj y (s.data.toList.drop k)∧w'=w.setCell ⟨b,0,none⟩ (.string y):=by
 have hl:s.data.toList.length=s.size:=rfl
 have HL:=Lib.hid hl;clear hl
 have h0:=hb.cell (i:=0) rfl
 have h1:=hb.free 0
 have d0:(0:Int)≤(k:Int):=by omega
 have d1:(k:Int)≤s.size:=by omega
 go_enter Tryz.func371,Tryz.ntmps371
 go_wp2_with fail
 go_ret
 refine⟨_,_,rfl, ?_, ?_,rfl⟩
 ·exact((aj.self s).extract 0 k).cast (by simp)
 ·exact((aj.self s).extract k s.size).cast (by rw[List.take_of_length_le (by rw[HL.out];omega)])
def sumTo (ws:List Nat) (k:Nat):Nat:=(ws.take k).sum
theorem eO {ws:List Nat} {k a:Nat} (h:ws[k]?=some a):sumTo ws (k+1)=sumTo ws k+a:=by
 obtain⟨h1,rfl⟩:=List.getElem?_eq_some_iff.1 h
 unfold sumTo
 rw[List.take_succ_eq_append_getElem h1,List.sum_append]
 simp
theorem rB (ws:List Nat):sumTo ws ws.length=ws.sum:=by unfold sumTo;rw[List.take_length]
theorem sumTo_le (ws:List Nat) (k:Nat):sumTo ws k≤ws.sum:=by
 have h:=List.take_append_drop k ws
 unfold sumTo
 conv=>rhs;rw[←h]
 rw[List.sum_append]
 omega
def kK (ws:List Nat) (l:List UInt8) (w w':World) (e:Ending):Prop:=
 (∃ns vo,bB ws l=some ns∧e= .returned (.tuple #[vo, .int .i64 0])∧w'.ownsRow w.heap.size 3 1 vo ns.length (ns.map (Value.int .i64))∧ns.length=ws.length)∨
 (bB ws l=none∧e= .returned (.tuple #[.slice none 0 0, .int .i64 3]))
structure ez (ws:List Nat) (l:List UInt8) (k:Nat) (ns:List Int):Prop where
 len:ns.length=k
 all:bB ws l=(bB (ws.drop k) (l.drop (sumTo ws k))).map (ns++·)
theorem ez.start (ws:List Nat) (l:List UInt8):ez ws l 0 []:=⟨rfl,by simp[sumTo]⟩
theorem ez.no {ws:List Nat} {l:List UInt8} {k a:Nat} {ns:List Int} (h:ez ws l k ns) (ha:ws[k]?=some a) (hg:lh ((l.drop (sumTo ws k)).take a)=false):bB ws l=none:=by
 rw[h.all]
 obtain⟨h1,rfl⟩:=List.getElem?_eq_some_iff.1 ha
 rw[List.drop_eq_getElem_cons h1]
 simp only[bB]
 rw[hg]
 rfl
theorem ez.next {ws:List Nat} {l:List UInt8} {k a:Nat} {ns:List Int} (h:ez ws l k ns) (ha:ws[k]?=some a) (hg:lh ((l.drop (sumTo ws k)).take a)=true):
  ez ws l (k+1) (ns++[((aR ((l.drop (sumTo ws k)).take a):Nat):Int)]):=by
 refine⟨by rw[List.length_append,h.len];rfl, ?_⟩
 have e:l.drop (sumTo ws k+a)=(l.drop (sumTo ws k)).drop a:=by rw[List.drop_drop]
 rw[h.all,eO ha,e]
 obtain⟨h1,rfl⟩:=List.getElem?_eq_some_iff.1 ha
 rw[List.drop_eq_getElem_cons h1]
 simp only[bB]
 rw[hg,if_pos rfl,Option.map_map]
 congr 1
 funext x
 simp
theorem ez.done {ws:List Nat} {l:List UInt8} {k:Nat} {ns:List Int} (h:ez ws l k ns) (hk:ws.length≤k):bB ws l=some ns:=by
 rw[h.all,List.drop_of_length_le hk]
 simp[bB]
theorem ln (v:Value) (ws:List Nat) (s:ByteArray) (w:World) (hv:bc w v (ws.map (fun(a:Nat)=>(a:Int)))) (hw:∀(k a:Nat),ws[k]?=some a→1≤a∧a≤8) (hsum:ws.sum=s.size) (hne:0<ws.length) (hlen:ws.length≤16):
  Calls Tryz.prog 298 #[v, .string s] w fun e w'=>kK ws s.data.toList w w' e∧Below w.heap.size w w':=by
 obtain⟨g,o,c,rfl,hg,hc⟩:=hv.at (by rw[List.length_map];exact hne)
 have hl:s.data.toList.length=s.size:=rfl
 obtain⟨n,hn⟩:∃n,n=ws.length:=⟨_,rfl⟩
 rw[List.length_map,←hn]
 have hcell:∀(k a:Nat),ws[k]?=some a→w.cell? ⟨g,o+k,none⟩=some (.int .i64 (a:Int)):=fun k a ha=>hc k a (by rw[List.getElem?_map,ha];rfl)
 have hszb:s.size≤128:=by
  have:∀k,k≤ws.length→sumTo ws k≤8*k:=by
   intro k
   induction k with
   |zero=>intro _;simp[sumTo]
   |succ k ih=>
    intro hk
    obtain⟨a,ha⟩:∃a,ws[k]?=some a:=⟨_,List.getElem?_eq_getElem (by omega)⟩
    have:=hw k a ha
    rw[eO ha]
    have:=ih (by omega)
    omega
  have h:=this ws.length (Nat.le_refl _)
  rw[rB]at h
  omega
 have hn16:n≤16:=by omega
 have hn0:0<n:=by omega
 have HN:=Lib.hid hn;clear hn
 have HC:=Lib.hid hcell;clear hcell
 have HW:=Lib.hid hw;clear hw
 have HS:=Lib.hid hsum;clear hsum
 have HL:=Lib.hid hl;clear hl
 clear hv hc hne hlen
 have hmf:∀(fn:Fn) (first cap:Array Value) (w:World),(Instr.makeFunc fn first cap).run Tryz.prog w= .ok (.func fn first cap) w:=fun _ _ _ _=>rfl
 obtain⟨j0,ji,jz0,jz1,jz2⟩:=info_parts E6
 go_enter Tryz.func298,Tryz.ntmps298
 go_wp2_with ((with_reducible refine aC 9 (.tmp 1) (.string s) rfl (some 3) ?hgd ?ho ?hd ?hx ?_);(case hgd|ho|hd|hx=>rfl);(intro b w1 l1 B1 e1 z1))
 have hbel1:=e1.mono l1
 have HB1:=Lib.hid B1
 clear B1
 go_loop [6,17] (fun x i=>∃k:Nat,k≤n∧i= .int .i64 k∧x= .int .i64 ((sumTo ws k:Nat):Int)) (fun _ i=>n-(intOf i).toNat)
 case atStart=>exact⟨0,by omega,rfl,rfl⟩
 case round=>
  obtain⟨k,hk,rfl,rfl⟩:=hrel
  obtain⟨x,hx⟩:∃x,x=sumTo ws k:=⟨_,rfl⟩
  rw[←hx]
  have hx8:x≤128:=by have:=sumTo_le ws k;have:=HS.out;omega
  have HX:=Lib.hid hx;clear hx
  by_cases hlt:k<n
  ·have hlt':(k:Int)<n:=by omega
   have h00:(0:Int)≤(k:Int):=by omega
   obtain⟨a,ha⟩:∃a,ws[k]?=some a:=⟨_,List.getElem?_eq_getElem (by rw[←HN.out];exact hlt)⟩
   have hca:w1.cell? ⟨g,o+k,none⟩=some (.int .i64 (a:Int)):=by rw[hbel1.cell (by show g<w.heap.size;exact hg)];exact HC.out k a ha
   obtain⟨a1,a2⟩:=HW.out k a ha
   have hsu:=eO ha
   rw[←HX.out]at hsu
   have HSU:=Lib.hid hsu;clear hsu ha
   have q1:¬(a:Int)<1:=by omega
   have q2:¬(8:Int)<a:=by omega
   go_wp2_with fail
   go_round
   case rel=>exact⟨k+1,by omega,by go_num,by rw[HSU.out];go_num⟩
   case measure=>simp[intOf];omega
  ·obtain rfl:k=n:=by omega
   have hxs:(x:Int)=s.size:=by rw[HX.out,HN.out,rB,HS.out]
   have hbc:=HB1.out.cell (i:=0) rfl
   go_wp2_with fail
   clear hbc
   go_loopw [10,38] (fun vo i wr=>∃(j:Nat) (t:ByteArray) (ns:List Int),j≤k∧i= .int .i64 j∧ez ws s.data.toList j ns∧aj t (s.data.toList.drop (sumTo ws j))∧ab wr b [.string t] 9∧wr.ownsRow (b+1) 3 1 vo j (ns.map (Value.int .i64))∧Below w.heap.size w wr) (fun _ i _=>k-(intOf i).toNat)
   case atStart=>exact⟨0,s,[],by omega,rfl,ez.start _ _,aj.self s,HB1.out,World.ownsRow_nil _ _ _ _,hbel1⟩
   case round=>
    obtain⟨j,t,ns,hj,rfl,hat,tt,hblk,hown,hbel⟩:=hrel
    obtain⟨q,d,rfl⟩:=aT hown
    have HO:=Lib.hid hown;clear hown
    have HB:=Lib.hid hblk;clear hblk
    have HAT:=Lib.hid hat;clear hat
    have TT:=Lib.hid tt;clear tt
    by_cases hlt:j<k
    ·have hlt':(j:Int)<k:=by omega
     have h00:(0:Int)≤(j:Int):=by omega
     obtain⟨a,ha⟩:∃a,ws[j]?=some a:=⟨_,List.getElem?_eq_getElem (by rw[←HN.out];exact hlt)⟩
     have hca:wr.cell? ⟨g,o+j,none⟩=some (.int .i64 (a:Int)):=by rw[hbel.cell (by show g<w.heap.size;exact hg)];exact HC.out j a ha
     obtain⟨a1,a2⟩:=HW.out j a ha
     have hts:a≤t.size:=by
      have e1:=TT.out.size
      rw[List.length_drop,HL.out]at e1
      have e2:=eO ha
      have e3:=sumTo_le ws (j+1)
      have e4:=HS.out
      omega
     have HA:=Lib.hid ha;clear ha
     go_wp2_with fail
     refine(AQ b a t _ HB.out hts).mono ?_
     rintro e w2 ⟨x1,y1,rfl,tx,ty,rfl⟩
     have TX:=Lib.hid (tx.cast (by rw[show t.data.toList= _ from TT.out]));clear tx
     have TY:Hid (aj y1 (s.data.toList.drop (sumTo ws (j+1)))):=Lib.hid (ty.cast (by rw[show t.data.toList= _ from TT.out,eO HA.out,List.drop_drop]))
     clear ty
     go_wp2_with fail
     refine(ix x1 _).mono ?_
     rintro e w2 ⟨he,rfl⟩
     have HB2:=Lib.hid (HB.out.set 0 (.string y1))
     have HO2:=Lib.hid (FH (u:= .string y1) (i:=0) HO.out (Nat.lt_succ_self b))
     have hbel2:Below w.heap.size w (wr.setCell ⟨b,0,none⟩ (.string y1)):=hbel.setCell (by show w.heap.size≤b;exact l1) _
     have HBE:=Lib.hid hbel2
     obtain⟨w4,hw4⟩:∃w4,wr.setCell ⟨b,0,none⟩ (.string y1)=w4:=⟨_,rfl⟩
     rw[hw4]at HB2 HO2 HBE ⊢
     clear hbel2 hw4 hbel HB HO hca
     rcases he with⟨hok,rfl⟩|⟨hno,rfl⟩
     ·have hgo:lh ((s.data.toList.drop (sumTo ws j)).take a)=true:=by rw[li,←show x1.data.toList= _ from TX.out];exact hok
      have hnx:=HAT.out.next HA.out hgo
      rw[←show x1.data.toList= _ from TX.out]at hnx
      have HNX:=Lib.hid hnx
      obtain⟨z,hz⟩:∃z,((aR x1.data.toList:Nat):Int)=z:=⟨_,rfl⟩
      rw[hz]at HNX ⊢
      clear hz hok hgo hnx
      go_wp2_with (first
       |((with_reducible refine aS 70 3 1 ?parts [.int .i64 z] (.int .i64 0) 1 8 (some 54) Tryz.underlying70 E6 (by omega) (by omega) ?hgd ?ho ?hd ?hf ?_);(case hgd|ho|hd=>rfl);(case hf=>kernel_rfl);(intro g3 w3 l3 B3 e3 z3);(have own3:=own_below (e3.mono l3) HO2.out))
       |(at_builtin;refine wpList_append_own_wide _ rfl _ _ 70 rfl (b+1) 3 j0 (.int .i64 0) 1 8 Tryz.underlying70 ji jz0 jz1 jz2 rfl (by decide) _ _ _ rfl own3 ⟨g3,0,none⟩ 1 1 [.int .i64 z] rfl rfl (cd B3) (by intro v hv;simp at hv;subst hv;rfl) (by unfold maxLen;omega) (by omega) (by have:=HB2.out.lt;have:=e3.size;omega) ?_;intro v' w5 own5 grow5 nil5)
       |fail)
      have b3:=HBE.out.trans (e3.mono (Nat.le_trans HBE.out.size l3))
      have B5:=(HB2.out.below e3 (by have:=HB2.out.lt;omega)).grown grow5 (own_ne own3 (by omega))
      go_wp2_with fail
      go_roundw
      case rel=>exact⟨j+1,y1,ns++[z],by omega,by go_num,HNX.out,TY.out,B5,by rw[List.map_append];exact own5,jv b3 own3 grow5 (by omega) b3.size⟩
      case measure=>simp[intOf];omega
     ·have hgo:lh ((s.data.toList.drop (sumTo ws j)).take a)=false:=by
       rw[←show x1.data.toList= _ from TX.out]
       cases hh:lh x1.data.toList with
       |false=>rfl
       |true=>exact absurd (li.1 hh) hno
      have hnx:=HAT.out.no HA.out hgo
      have HNX:=Lib.hid hnx
      clear hgo hnx hno
      go_wp2_with fail
      go_ret2
      exact⟨.inr ⟨HNX.out,rfl⟩,HBE.out⟩
    ·obtain rfl:j=k:=by omega
     go_wp2_with fail
     go_ret2
     refine⟨.inl ⟨ns,_,HAT.out.done (by rw[←HN.out];omega),rfl, ?_,by rw[HAT.out.len,HN.out]⟩,hbel⟩
     rw[HAT.out.len]
     exact own_base HO.out (by omega)
theorem dW {w n:Nat} {ws:List Nat} {l:List UInt8} (h1:1≤w) (h8:w≤8) (hn:n<256^w) (h63:n<9223372036854775808):bB (w::ws) (beBytes w n++l)=(bB ws l).map ((n:Int)::·):=by
 have e1:(beBytes w n++l).take w=beBytes w n:=jh (beBytes_length w n)
 have e2:(beBytes w n++l).drop w=l:=jj (beBytes_length w n)
 have hb:=mX w n hn
 conv=>lhs;unfold bB
 rw[e1,e2,if_pos (li.2 ⟨by rw[beBytes_length];exact h1,by rw[beBytes_length];exact h8,by rw[hb];exact h63⟩),hb]
theorem oy (l:List UInt8):bB [] l=some []:=by unfold bB;rfl
theorem wM {g:ay} (h:cM g):bB [4,4,4] (iZ g)=some [g.blocks,g.lbas,g.first]:=by
 obtain⟨h1,h2,h3,h4,h5,h6⟩:=h
 have p4:(256:Nat)^4=4294967296:=rfl
 have e:iZ g=beBytes 4 g.blocks.toNat++(beBytes 4 g.lbas.toNat++(beBytes 4 g.first.toNat++[])):=by unfold iZ;simp
 rw[e,dW (by decide) (by decide) (by omega) (by omega),dW (by decide) (by decide) (by omega) (by omega),dW (by decide) (by decide) (by omega) (by omega),oy]
 simp only[Option.map_some]
 rw[show((g.blocks.toNat:Nat):Int)=g.blocks by omega,show((g.lbas.toNat:Nat):Int)=g.lbas by omega,show((g.first.toNat:Nat):Int)=g.first by omega]
theorem yl (w:World):Sem.run Tryz.prog (zeroValue 69) w= .ok (.agg (ay.zero.cells).toArray) w:=by kernel_rfl
theorem GV (blocks lbas first:Int) (hb:blocks≠0) (w:World):(Op.equalIn 10000 69 (.agg #[.int .i64 blocks, .int .i64 lbas, .int .i64 first]) (.agg #[.int .i64 0, .int .i64 0, .int .i64 0])).run Tryz.prog w= .ok false w:=by
 have e:false=((blocks==0)&&((lbas==0)&&((first==0)&&true))):=by simp[hb]
 rw[e]
 refine ip (d:=9999) Tryz.underlying69 (by kernel_rfl) ?_
 refine eh (k:= .i64) (d:=9998) (by decide) (by kernel_rfl) (by kernel_rfl) Tryz.underlying3 ?_
 refine eh (k:= .i64) (d:=9998) (by decide) (by kernel_rfl) (by kernel_rfl) Tryz.underlying3 ?_
 refine eh (k:= .i64) (d:=9998) (by decide) (by kernel_rfl) (by kernel_rfl) Tryz.underlying3 ?_
 exact j6
theorem bQ {fn:Func} {p u:Tmp} {ty:TypeId} {cs:List Value} {d:TypeDesc} (h:fn.results=#[.cell p ty, .tmp u]) (tmps:Array Value) (w:World) {b:Nat} (hb:w.rangeAt b 0 cs) (hp:tmps.getD p undef= .pointer (some ⟨b,0,none⟩))
  (hu:Tryz.prog.underlying ty=some d) (hd:d.isRow=true) (hi:(Tryz.prog.info? ty).map (·.size)=some cs.length):
  (results fn tmps).run Tryz.prog w= .ok (.tuple #[.agg cs.toArray,tmps.getD u undef]) w:=by
 have e:=run_loadVar_mid (P:=Tryz.prog) w b 0 ty cs _ hb hu hd hi
 rw[results_cell_tmp h,hp]
 simp only[asAddr,Sem.run_pure,Result.andThen_ok,e]
theorem su (g:ay) (s:ByteArray) (w:World) (ht:aj s (iZ g)) (hg:cM g):
  Calls Tryz.prog 418 #[.string s] w fun e w'=>e= .returned (.tuple #[g.v, .int .i64 0])∧Below w.heap.size w w':=by
 have hu0:=wM hg
 rw[←show s.data.toList= _ from ht]at hu0
 have hs:s.size=12:=by rw[ht.size,gR]
 obtain⟨blocks,lbas,first⟩:=g
 have HU0:=Lib.hid hu0
 have HT:=Lib.hid ht
 have HG:=Lib.hid hg
 have hb0:blocks≠0:=by have:=hg.b0;simp only at this;omega
 have HQ:=Lib.hid (GV blocks lbas first hb0)
 clear hu0 ht hg hb0
 go_enter Tryz.func418,Tryz.ntmps418
 go_wp2_with (first
  |((with_reducible refine ai 69 _ yl (some 2) ?hgd ?ho ?hd ?_);(case hgd|ho|hd=>rfl);(intro b2 w1 l1 B1 e1 z1))
  |fail)
 refine(i8 _).mono ?_
 rintro e w2 ⟨⟨vw,rfl,hvw⟩,hb2⟩
 have HB2:=Lib.hid (B1.below hb2 z1)
 have HW2:=Lib.hid ((e1.mono l1).trans (hb2.mono (Nat.le_trans l1 (Nat.le_of_lt z1))))
 have HL:=Lib.hid l1
 have HVW:=Lib.hid hvw
 clear B1 e1 z1 hb2 hvw l1
 go_wp2_with fail
 refine(ln vw [4,4,4] s _ HVW.out (by intro k a h;match k,h with|0,h=>simp at h;omega|1,h=>simp at h;omega|2,h=>simp at h;omega|k+3,h=>simp at h) (by rw[hs];rfl) (by decide) (by decide)).mono ?_
 rintro e w3 ⟨he,hb3⟩
 rcases he with⟨ns,vo,hu,rfl,hown,_⟩|⟨hu,_⟩
 rotate_left
 ·exact absurd (HU0.out.symm.trans hu) (by simp)
 obtain rfl:[blocks,lbas,first]=ns:=Option.some.inj (HU0.out.symm.trans hu)
 obtain⟨gr,cap,z,rfl,hcap,hgg,hblk⟩:=cY hown (by simp)
 have HB3:=Lib.hid (HB2.out.below hb3 HB2.out.lt)
 have HW3:=Lib.hid (HW2.out.trans (hb3.mono HW2.out.size))
 have i0:w3.cell? ⟨gr,0,none⟩=some (.int .i64 blocks):=hblk.cell (i:=0) rfl
 have i1:w3.cell? ⟨gr,1,none⟩=some (.int .i64 lbas):=hblk.cell (i:=1) rfl
 have i2:w3.cell? ⟨gr,2,none⟩=some (.int .i64 first):=hblk.cell (i:=2) rfl
 have hgD:gr<w3.heap.size:=hblk.lt
 clear hb3 hu hown hcap hgg hblk
 go_wp2_with fail
 go_region_held3 (fun w'=>w'.cell? ⟨gr,0,none⟩=some (.int .i64 blocks)∧w'.cell? ⟨gr,1,none⟩=some (.int .i64 lbas)∧w'.cell? ⟨gr,2,none⟩=some (.int .i64 first)) (go_keep) (fail)
 all_goals
  have B6:ab (w3.alloc (Obj.cells #[.int .i64 blocks, .int .i64 lbas, .int .i64 first] 69)).drew w3.heap.size (ay.cells ⟨blocks,lbas,first⟩) 69:=ab.new w3 (ay.cells ⟨blocks,lbas,first⟩) 69
  have hb6:Below w3.heap.size w3 (w3.alloc (Obj.cells #[.int .i64 blocks, .int .i64 lbas, .int .i64 first] 69)).drew:=((Below.refl _ _).alloc (Nat.le_refl _) _).drew
  obtain⟨w6,hw6⟩:∃W,(w3.alloc (Obj.cells #[.int .i64 blocks, .int .i64 lbas, .int .i64 first] 69)).drew=W:=⟨_,rfl⟩
  rw[hw6]at B6 hb6 ⊢
  have HB6:=Lib.hid (HB3.out.below hb6 HB3.out.lt)
  have HW6:=Lib.hid (HW3.out.trans (hb6.mono HW3.out.size))
  have H6:=Lib.hid B6
  clear hw6 B6 hb6 i0 i1 i2 hgD
  go_wp2_with ((with_reducible refine ar 69 (.tmp 6) w3.heap.size (ay.cells ⟨blocks,lbas,first⟩) 69 _ H6.out Tryz.underlying69 rfl bu ?hgd ?ho ?hx ?_);(case hgd|ho|hx=>rfl))
  refine(kH ⟨blocks,lbas,first⟩ _ HG.out).mono ?_
  rintro e w7 ⟨r,rfl,tr,hb7⟩
  obtain rfl:r=s:=tr.eq HT.out
  have HB7:=Lib.hid (HB6.out.below hb7 HB6.out.lt)
  have HW7:=Lib.hid (HW6.out.trans (hb7.mono HW6.out.size))
  have H7:=Lib.hid (H6.out.below hb7 H6.out.lt)
  clear hb7 tr
  go_wp2_with (first
   |((with_reducible refine ae 69 (.tmp 6) w3.heap.size 0 (ay.cells ⟨blocks,lbas,first⟩) _ (some 41) H7.out.range Tryz.underlying69 rfl bu ?hg ?ho ?hds ?hx ?_);(case ho|hg|hds|hx=>rfl))
   |((with_reducible refine cP 69 69 (.tmp 41) (.tmp 42) #[.int .i64 blocks, .int .i64 lbas, .int .i64 first] #[.int .i64 0, .int .i64 0, .int .i64 0] false (some 43) (by kernel_rfl) (HQ.out _) ?hg ?ho ?hd ?hx ?hy ?_);(case hg|ho|hd|hx|hy=>rfl))
   |((with_reducible refine ar 69 (.tmp 6) w3.heap.size (ay.cells ⟨blocks,lbas,first⟩) 69 _ H7.out Tryz.underlying69 rfl bu ?hgd ?ho ?hx ?_);(case hgd|ho|hx=>rfl))
   |((with_reducible refine af 69 (.tmp 2) (.tmp 46) b2 ay.zero.cells (ay.cells ⟨blocks,lbas,first⟩) 69 HB7.out rfl bu (yL _) ?hgd ?ho ?hx ?hy ?_);(case hgd|ho|hx|hy=>rfl);(intro w9 B9 o9))
   |fail)
  (try simp only[Exit.inBlock,Exit.then]);refine bodyPost_ret (bQ rfl _ _ B9.range rfl Tryz.underlying69 rfl bu) rfl ⟨rfl,o9.below HW7.out HL.out⟩
theorem dT (w:World):Sem.run Tryz.prog (zeroValue 130) w= .ok (.agg (aE.zero.cells).toArray) w:=by kernel_rfl
theorem yO {ws:List Nat} {l:List UInt8} {w w':World} {e:Ending} {ns:List Int} (h:kK ws l w w' e) (hu:bB ws l=some ns):∃vo,e= .returned (.tuple #[vo, .int .i64 0])∧w'.ownsRow w.heap.size 3 1 vo ns.length (ns.map (Value.int .i64)):=by
 rcases h with⟨ns',vo,h1,h2,h3,_⟩|⟨h1,_⟩
 ·obtain rfl:ns=ns':=Option.some.inj (hu.symm.trans h1)
  exact⟨vo,h2,h3⟩
 ·rw[hu]at h1;cases h1
def jk (s:aE):List UInt8:=beBytes 8 s.gen.toNat++beBytes 4 s.tail.toNat++beBytes 4 s.epoch.toNat++beBytes 8 s.clock.toNat
theorem kh (s:aE):(jk s).length=24:=by unfold jk;simp[beBytes_length]
theorem pN (s:aE):∃t,eb s=jX++(jk s++(iZ s.geo++t)):=by
 refine⟨dm (en s)++List.replicate (4096-(en s++dm (en s)).length) 0, ?_⟩
 have h:en s=jX++(jk s++iZ s.geo):=by unfold en jk;simp only[List.append_assoc]
 unfold eb jY
 rw[List.append_assoc]
 conv=>lhs;lhs;rw[h]
 simp only[List.append_assoc]
theorem ui {s:aE} (h:fS s):bB [8,4,4,8] (jk s)=some [s.gen,s.tail,s.epoch,s.clock]:=by
 obtain⟨⟨k1,k2,k3,k4,k5,k6⟩,h1,h2,h3,h4,h5,h6,h7,h8⟩:=h
 have p4:(256:Nat)^4=4294967296:=rfl
 have p8:(256:Nat)^8=18446744073709551616:=rfl
 have e:jk s=beBytes 8 s.gen.toNat++(beBytes 4 s.tail.toNat++(beBytes 4 s.epoch.toNat++(beBytes 8 s.clock.toNat++[]))):=by unfold jk;simp
 rw[e,dW (by decide) (by decide) (by omega) (by omega),dW (by decide) (by decide) (by omega) (by omega),dW (by decide) (by decide) (by omega) (by omega),dW (by decide) (by decide) (by omega) (by omega),oy]
 simp only[Option.map_some]
 rw[show((s.gen.toNat:Nat):Int)=s.gen by omega,show((s.tail.toNat:Nat):Int)=s.tail by omega,show((s.epoch.toNat:Nat):Int)=s.epoch by omega,show((s.clock.toNat:Nat):Int)=s.clock by omega]
theorem AS {block:ByteArray} {s:aE} (ht:aj block (eb s)):block.extract 0 9=⟨#[107,101,101,112,115,97,107,101,49]⟩:=by
 obtain⟨t,h⟩:=pN s
 rw[h]at ht
 exact((ht.extract 0 9).cast (by rw[List.drop_zero,jh (show jX.length=9 from rfl)])).eq (show aj (⟨#[107,101,101,112,115,97,107,101,49]⟩:ByteArray) jX from rfl)
theorem AV {block:ByteArray} {s:aE} (ht:aj block (eb s)):∃t,aj (block.extract 9 4096) (jk s++(iZ s.geo++t)):=by
 obtain⟨t,h⟩:=pN s
 have hl:(eb s).length=4096:=lB s
 refine⟨t,(ht.extract 9 4096).cast ?_⟩
 rw[List.take_of_length_le (by rw[hl];exact Nat.le_refl _),h,jj (show jX.length=9 from rfl)]
theorem qO (w:World):
  Calls Tryz.prog 405 #[.string (⟨(List.replicate 4096 0).toArray⟩:ByteArray)] w fun e w'=>e= .returned (.tuple #[aE.zero.v, .int .i64 3])∧Below w.heap.size w w':=by
 obtain⟨z,hz⟩:∃z,(⟨(List.replicate 4096 0).toArray⟩:ByteArray)=z:=⟨_,rfl⟩
 have hsz:z.size=4096:=by rw[←hz];simp[ByteArray.size]
 have hsi:(z.size:Int)=4096:=by omega
 have hm:(z.extract 0 9)≠⟨#[107,101,101,112,115,97,107,101,49]⟩:=by
  intro h
  have h1:=congrArg (fun b:ByteArray=>b.data.toList) h
  have h2:aj (z.extract 0 9) (List.replicate 9 0):=((show aj z (List.replicate 4096 0) by rw[←hz];exact aj.mk _).extract 0 9).cast (by decide)
  rw[show(z.extract 0 9).data.toList= _ from h2]at h1
  exact absurd h1 (by decide)
 have hm2:((z.extract 0 9).toList==([107,101,101,112,115,97,107,101,49]:List UInt8))=false:=by
  rw[beq_eq_false_iff_ne]
  intro h
  refine hm (ByteArray.ext (Array.toList_inj.1 ?_))
  rw[←Lib.toList_data]
  exact h
 rw[hz]
 clear hz hm
 go_enter Tryz.func405,Tryz.ntmps405
 go_wp2_with (first
  |((with_reducible refine ai 130 _ dT (some 2) ?hgd ?ho ?hd ?_);(case hgd|ho|hd=>rfl);(intro b2 w1 l1 B1 e1 z1))
  |((with_reducible refine af 130 (.tmp 2) (.tmp 23) b2 aE.zero.cells aE.zero.cells 130 B1 rfl aY (dH _) ?hgd ?ho ?hx ?hy ?_);(case hgd|ho|hx|hy=>rfl);(intro w9 B9 o9))
  |fail)
 (try simp only[Exit.inBlock,Exit.then]);refine bodyPost_ret (bQ rfl _ _ B9.range rfl Tryz.underlying130 rfl aY) rfl ⟨rfl,o9.below (e1.mono l1) l1⟩
theorem Fz:(([8,4,4,8]:List Nat).map (fun(a:Nat)=>(a:Int)))=dt:=rfl
theorem uj (s:aE) (block:ByteArray) (w:World) (ht:aj block (eb s)) (hs:fS s):
  Calls Tryz.prog 405 #[.string block] w fun e w'=>e= .returned (.tuple #[s.v, .int .i64 0])∧Below w.heap.size w w':=by
 have hsz:block.size=4096:=by rw[ht.size,lB]
 have hsi:(block.size:Int)=4096:=by omega
 have hm:=AS ht
 have hm2:((block.extract 0 9).toList==([107,101,101,112,115,97,107,101,49]:List UInt8))=true:=by
  rw[hm,Lib.toList_data];decide
 clear hm
 obtain⟨tl,htl⟩:=AV ht
 have HN:=Lib.hid (ui hs)
 have HT:=Lib.hid ht
 have HS:=Lib.hid hs
 obtain⟨rest,eI⟩:∃r,block.extract 9 4096=r:=⟨_,rfl⟩
 rw[eI]at htl
 have hrs:rest.size=4087:=by rw[←eI,ByteArray.size_extract,hsz];decide
 have hrsi:(rest.size:Int)=4087:=by omega
 have ht1:aj (rest.extract 0 24) (jk s):=(htl.extract 0 24).cast (by rw[List.drop_zero,jh (kh s)])
 have ht2:aj (rest.extract 24 36) (iZ s.geo):=(htl.extract 24 36).cast (by
  rw[show(36:Nat)=24+12 from rfl,List.drop_take,show 24+12-24=12 from rfl,jj (kh s),jh (gR s.geo)])
 have HT1:=Lib.hid ht1
 have HT2:=Lib.hid ht2
 have HR:=Lib.hid eI
 clear ht hs htl ht1 ht2 eI
 go_enter Tryz.func405,Tryz.ntmps405
 go_wp2_with (first
  |((with_reducible refine ai 130 _ dT (some 2) ?hgd ?ho ?hd ?_);(case hgd|ho|hd=>rfl);(intro b2 w1 l1 B1 e1 z1))
  |fail)
 refine(gm _).mono ?_
 rintro e w2 ⟨⟨v2,rfl,hv2⟩,hb2⟩
 have HB2:=Lib.hid (B1.below hb2 z1)
 have HW2:=Lib.hid ((e1.mono l1).trans (hb2.mono (Nat.le_trans l1 (Nat.le_of_lt z1))))
 have HL:=Lib.hid l1
 clear B1 e1 z1 hb2 l1
 obtain⟨g3,o3,c3,rfl,hg3,hc3⟩:=hv2.at (by decide)
 rw[show dt.length=4 from rfl]
 have HC3:=Lib.hid hc3
 clear hc3 hv2
 go_wp2_with fail
 go_loop [4,26] (fun x i=>∃k:Nat,k≤4∧i= .int .i64 k∧x= .int .i64 ((sumTo [8,4,4,8] k:Nat):Int)) (fun _ i=>4-(intOf i).toNat)
 case atStart=>exact⟨0,by omega,rfl,rfl⟩
 case round=>
  obtain⟨k,hk,rfl,rfl⟩:=hrel
  obtain⟨x,hx⟩:∃x,x=sumTo [8,4,4,8] k:=⟨_,rfl⟩
  rw[←hx]
  have hx8:x≤24:=by have:=sumTo_le [8,4,4,8] k;rw[←hx]at this;exact this
  have HX:=Lib.hid hx
  clear hx
  by_cases hlt:k<4
  ·have hlt':(k:Int)<4:=by omega
   have h00:(0:Int)≤(k:Int):=by omega
   obtain⟨a,ha⟩:∃a,([8,4,4,8]:List Nat)[k]?=some a:=⟨_,List.getElem?_eq_getElem (by exact hlt)⟩
   have hca:w2.cell? ⟨g3,o3+k,none⟩=some (.int .i64 (a:Int)):=HC3.out k a (by rw[←Fz,List.getElem?_map,ha];rfl)
   have hsu:=eO ha
   rw[←HX.out]at hsu
   have HSU:=Lib.hid hsu
   have ha8:a≤8:=by
    have:∀(k a:Nat),([8,4,4,8]:List Nat)[k]?=some a→a≤8:=by
     intro k a h
     match k,h with
     |0,h=>simp at h;omega
     |1,h=>simp at h;omega
     |2,h=>simp at h;omega
     |3,h=>simp at h;omega
     |k+4,h=>simp at h
    exact this k a ha
   clear hsu ha
   go_wp2_with fail
   go_round
   case rel=>exact⟨k+1,by omega,by go_num,by rw[HSU.out];go_num⟩
   case measure=>simp[intOf];omega
  ·obtain rfl:k=4:=by omega
   obtain rfl:x=24:=HX.out
   clear HX hx8 hlt
   go_wp2_with fail
   rw[HR.out]
   go_region_with ((first
    |(go_at_call 312;refine(gm _).mono ?_;rintro e wA ⟨⟨vA,rfl,hvA⟩,hbA⟩)
    |(go_at_call 298;refine(ln vA [8,4,4,8] (rest.extract 0 24) _ hvA (by intro k a h;match k,h with|0,h=>simp at h;omega|1,h=>simp at h;omega|2,h=>simp at h;omega|3,h=>simp at h;omega|k+4,h=>simp at h) (by rw[HT1.out.size,kh];rfl) (by decide) (by decide)).mono ?_;rintro e wB ⟨he,hbB⟩;obtain⟨vo,rfl,hown⟩:=yO he (by rw[show(rest.extract 0 24).data.toList= _ from HT1.out];exact HN.out);clear he)
    |fail))
   have hbAB:Below w2.heap.size w2 wB:=((Below.refl w2.heap.size w2).drew.trans hbA).trans (hbB.mono hbA.size)
   have HBB:=Lib.hid (HB2.out.below hbAB HB2.out.lt)
   have HWB:=Lib.hid (HW2.out.trans (hbAB.mono HW2.out.size))
   obtain⟨gr,cap,z,rfl,hcap,hgg,hblk⟩:=cY hown (by simp)
   have HBLK:=Lib.hid hblk
   rw[show[s.gen,s.tail,s.epoch,s.clock].length=4 from rfl]
   clear hbAB hbA hbB hvA hown hcap hgg hblk
   go_wp2_with fail
   refine(su s.geo (rest.extract 24 36) _ HT2.out HS.out.geo).mono ?_
   rintro e wC ⟨rfl,hbC⟩
   have HBC:=Lib.hid (HBB.out.below hbC HBB.out.lt)
   have HWC:=Lib.hid (HWB.out.trans (hbC.mono HWB.out.size))
   have HLC:=Lib.hid (HBLK.out.below hbC HBLK.out.lt)
   clear hbC
   obtain⟨gen,tail,epoch,clock,⟨blocks,lbas,first⟩⟩:=s
   go_wp2_with (first
    |((with_reducible refine ai 69 _ yl (some 10) ?hgd ?ho ?hd ?_);(case hgd|ho|hd=>rfl);(intro b10 wD lD BD eD zD))
    |((with_reducible refine af 69 (.tmp 10) (.tmp 51) b10 ay.zero.cells (ay.cells ⟨blocks,lbas,first⟩) 69 BD rfl bu (yL _) ?hgd ?ho ?hx ?hy ?_);(case hgd|ho|hx|hy=>rfl);(intro wE BE oE))
    |fail)
   have hbE:Below wC.heap.size wC wE:=oE.below (eD.mono lD) lD
   have HBE:=Lib.hid (HBC.out.below hbE HBC.out.lt)
   have HWE:=Lib.hid (HWC.out.trans (hbE.mono HWC.out.size))
   have hle:=HLC.out.below hbE HLC.out.lt
   have i0:wE.cell? ⟨gr,0,none⟩=some (.int .i64 gen):=hle.cell (i:=0) rfl
   have i1:wE.cell? ⟨gr,1,none⟩=some (.int .i64 tail):=hle.cell (i:=1) rfl
   have i2:wE.cell? ⟨gr,2,none⟩=some (.int .i64 epoch):=hle.cell (i:=2) rfl
   have i3:wE.cell? ⟨gr,3,none⟩=some (.int .i64 clock):=hle.cell (i:=3) rfl
   have j0:wE.cell? ⟨b10,0,none⟩=some (.int .i64 blocks):=BE.cell (i:=0) rfl
   have j1:wE.cell? ⟨b10,1,none⟩=some (.int .i64 lbas):=BE.cell (i:=1) rfl
   have j2:wE.cell? ⟨b10,2,none⟩=some (.int .i64 first):=BE.cell (i:=2) rfl
   have hgD:gr<wE.heap.size:=hle.lt
   have hgE:b10<wE.heap.size:=BE.lt
   clear hbE hle BD eD zD lD oE BE
   go_region_held3 (fun w'=>w'.cell? ⟨gr,0,none⟩=some (.int .i64 gen)∧w'.cell? ⟨gr,1,none⟩=some (.int .i64 tail)∧w'.cell? ⟨gr,2,none⟩=some (.int .i64 epoch)∧w'.cell? ⟨gr,3,none⟩=some (.int .i64 clock)∧w'.cell? ⟨b10,0,none⟩=some (.int .i64 blocks)∧w'.cell? ⟨b10,1,none⟩=some (.int .i64 lbas)∧w'.cell? ⟨b10,2,none⟩=some (.int .i64 first)) (go_keep) (fail)
   all_goals
    have B12:ab (wE.alloc (Obj.cells #[.int .i64 gen, .int .i64 tail, .int .i64 epoch, .int .i64 clock, .int .i64 blocks, .int .i64 lbas, .int .i64 first] 130)).drew wE.heap.size (aE.cells ⟨gen,tail,epoch,clock,⟨blocks,lbas,first⟩⟩) 130:=ab.new wE (aE.cells ⟨gen,tail,epoch,clock,⟨blocks,lbas,first⟩⟩) 130
    have hbF:Below wE.heap.size wE (wE.alloc (Obj.cells #[.int .i64 gen, .int .i64 tail, .int .i64 epoch, .int .i64 clock, .int .i64 blocks, .int .i64 lbas, .int .i64 first] 130)).drew:=((Below.refl _ _).alloc (Nat.le_refl _) _).drew
    obtain⟨wF,hwF⟩:∃W,(wE.alloc (Obj.cells #[.int .i64 gen, .int .i64 tail, .int .i64 epoch, .int .i64 clock, .int .i64 blocks, .int .i64 lbas, .int .i64 first] 130)).drew=W:=⟨_,rfl⟩
    rw[hwF]at B12 hbF ⊢
    have HBF:=Lib.hid (HBE.out.below hbF HBE.out.lt)
    have HWF:=Lib.hid (HWE.out.trans (hbF.mono HWE.out.size))
    have H12:=Lib.hid B12
    clear hwF B12 hbF i0 i1 i2 i3 j0 j1 j2 hgD hgE
    go_wp2_with ((with_reducible refine ar 130 (.tmp 12) wE.heap.size (aE.cells ⟨gen,tail,epoch,clock,⟨blocks,lbas,first⟩⟩) 130 _ H12.out Tryz.underlying130 rfl aY ?hgd ?ho ?hx ?_);(case hgd|ho|hx=>rfl))
    refine(ov ⟨gen,tail,epoch,clock,⟨blocks,lbas,first⟩⟩ _ HS.out).mono ?_
    rintro e wG ⟨r,rfl,tr,hbG⟩
    obtain rfl:r=block:=tr.eq HT.out
    have HBG:=Lib.hid (HBF.out.below hbG HBF.out.lt)
    have HWG:=Lib.hid (HWF.out.trans (hbG.mono HWF.out.size))
    have HG12:=Lib.hid (H12.out.below hbG H12.out.lt)
    clear hbG tr
    go_wp2_with (first
     |((with_reducible refine ar 130 (.tmp 12) wE.heap.size (aE.cells ⟨gen,tail,epoch,clock,⟨blocks,lbas,first⟩⟩) 130 _ HG12.out Tryz.underlying130 rfl aY ?hgd ?ho ?hx ?_);(case hgd|ho|hx=>rfl))
     |((with_reducible refine af 130 (.tmp 2) (.tmp 87) b2 aE.zero.cells (aE.cells ⟨gen,tail,epoch,clock,⟨blocks,lbas,first⟩⟩) 130 HBG.out rfl aY (dH _) ?hgd ?ho ?hx ?hy ?_);(case hgd|ho|hx|hy=>rfl);(intro w9 B9 o9))
     |fail)
    (try simp only[Exit.inBlock,Exit.then]);refine bodyPost_ret (bQ rfl _ _ B9.range rfl Tryz.underlying130 rfl aY) rfl ⟨rfl,o9.below HWG.out HL.out⟩
theorem m9 {fn:Func} {p u v:Tmp} {ty:TypeId} (h:fn.results=#[.cell p ty, .tmp u, .tmp v]) (tmps:Array Value) (P:Program) (w:World):
  (results fn tmps).run P w=((asAddr (tmps.getD p undef)).run P w).andThen fun a w₁=>((loadVar ty a).run P w₁).andThen fun x w₂=> .ok (.tuple #[x,tmps.getD u undef,tmps.getD v undef]) w₂:=by
 simp only[results,h]
 simp[Sem.run_bind,Result.andThen]
theorem lH {fn:Func} {p u v:Tmp} {ty:TypeId} {cs:List Value} {d:TypeDesc} (h:fn.results=#[.cell p ty, .tmp u, .tmp v]) (tmps:Array Value) (w:World) {b:Nat} (hb:w.rangeAt b 0 cs) (hp:tmps.getD p undef= .pointer (some ⟨b,0,none⟩))
  (hu:Tryz.prog.underlying ty=some d) (hd:d.isRow=true) (hi:(Tryz.prog.info? ty).map (·.size)=some cs.length):
  (results fn tmps).run Tryz.prog w= .ok (.tuple #[.agg cs.toArray,tmps.getD u undef,tmps.getD v undef]) w:=by
 have e:=run_loadVar_mid (P:=Tryz.prog) w b 0 ty cs _ hb hu hd hi
 rw[m9 h,hp]
 simp only[asAddr,Sem.run_pure,Result.andThen_ok,e]
theorem qP (s:aE) (b:ByteArray) (w:World) (hb:aj b (eb s)) (hs:fS s):
  Calls Tryz.prog 376 #[.string (⟨(List.replicate 4096 0).toArray⟩:ByteArray), .string b] w fun e w'=>e= .returned (.tuple #[s.v, .int .i64 1, .int .i64 0])∧Below w.heap.size w w':=by
 go_enter Tryz.func376,Tryz.ntmps376
 go_wp2_with (first
  |((with_reducible refine ai 130 _ dT (some 4) ?hgd ?ho ?hd ?_);(case hgd|ho|hd=>rfl);(intro b4 w1 l1 B1 e1 z1))
  |fail)
 refine(qO _).mono ?_
 rintro e w2 ⟨rfl,hb2⟩
 have HB2:=Lib.hid (B1.below hb2 z1)
 have HW2:=Lib.hid ((e1.mono l1).trans (hb2.mono (Nat.le_trans l1 (Nat.le_of_lt z1))))
 have HL:=Lib.hid l1
 clear B1 e1 z1 l1 hb2
 go_wp2_with (first
  |((with_reducible refine ai 130 _ dT (some 7) ?hgd ?ho ?hd ?_);(case hgd|ho|hd=>rfl);(intro b7 w3 l3 B3 e3 z3))
  |((with_reducible refine af 130 (.tmp 7) (.tmp 14) b7 aE.zero.cells aE.zero.cells 130 B3 rfl aY (dH _) ?hgd ?ho ?hx ?hy ?_);(case hgd|ho|hx|hy=>rfl);(intro w4 B4 o4))
  |fail)
 have hb4:Below w2.heap.size w2 w4:=o4.below (e3.mono l3) l3
 have HB4:=Lib.hid (HB2.out.below hb4 HB2.out.lt)
 have HW4:=Lib.hid (HW2.out.trans (hb4.mono HW2.out.size))
 clear B3 e3 z3 l3 B4 o4 hb4
 refine(uj s b _ hb hs).mono ?_
 rintro e w5 ⟨rfl,hb5⟩
 have HB5:=Lib.hid (HB4.out.below hb5 HB4.out.lt)
 have HW5:=Lib.hid (HW4.out.trans (hb5.mono HW4.out.size))
 clear hb5
 go_wp2_with (first
  |((with_reducible refine ai 130 _ dT (some 9) ?hgd ?ho ?hd ?_);(case hgd|ho|hd=>rfl);(intro b9 w6 l6 B6 e6 z6))
  |((with_reducible refine af 130 (.tmp 9) (.tmp 19) b9 aE.zero.cells s.cells 130 B6 rfl aY (dH _) ?hgd ?ho ?hx ?hy ?_);(case hgd|ho|hx|hy=>rfl);(intro w7 B7 o7);(have hb7:Below w5.heap.size w5 w7:=o7.below (e6.mono l6) l6);(have B47:=HB5.out.below hb7 HB5.out.lt))
  |((with_reducible refine ar 130 (.tmp 9) b9 s.cells 130 _ B7 Tryz.underlying130 rfl aY ?hgd ?ho ?hx ?_);(case hgd|ho|hx=>rfl))
  |((with_reducible refine af 130 (.tmp 4) (.tmp 43) b4 aE.zero.cells s.cells 130 B47 rfl aY (dH _) ?hgd ?ho ?hx ?hy ?_);(case hgd|ho|hx|hy=>rfl);(intro w8 B8 o8))
  |fail)
 (try simp only[Exit.inBlock,Exit.then]);refine bodyPost_ret (lH rfl _ _ B8.range rfl Tryz.underlying130 rfl aY) rfl ⟨rfl,o8.below (HW5.out.trans (hb7.mono HW5.out.size)) HL.out⟩
theorem DU (w:World):Sem.run Tryz.prog (zeroValue 411) w= .ok (.agg ([.string (⟨#[]⟩:ByteArray), .string (⟨#[]⟩:ByteArray), .string (⟨#[]⟩:ByteArray), .string (⟨#[]⟩:ByteArray)]:List Value).toArray) w:=by kernel_rfl
theorem yP (db:Nat) (d:ao) (s:aE) (n:Nat) (key:ByteArray) (w:World) (h:aD w db d) (hd:d.down=false) (hc:d.cs.length≤4096) (hb:d.bs.length≤1024) (h4:4≤d.bs.length)
  (hs:fS s) (hn:s.epoch=(n:Int)) (hg:s.geo.blocks=(d.bs.length:Int)) (h0:d.shown 0=(⟨(List.replicate 4096 0).toArray⟩:ByteArray)) (h1:aj (d.shown 1) (eb s)) (hkl:key.size=32) (eK:aj (if n % 2=0 then d.shown 2 else d.shown 3) (eX n key.data.toList)):
  Calls Tryz.prog 314 #[.pointer (some ⟨db,0,none⟩)] w fun e w'=>e= .returned (.tuple #[s.v, .string key, .int .i64 0])∧Below w.heap.size w w':=by
 have HH:=Lib.hid h
 have HD:=Lib.hid hd
 have HC:=Lib.hid hc
 have HB:=Lib.hid hb
 have H4:=Lib.hid h4
 have HS:=Lib.hid hs
 clear h hd hc hb h4 hs
 go_enter Tryz.func314,Tryz.ntmps314
 go_wp2_with (first
  |((with_reducible refine ai 130 _ dT (some 2) ?hgd ?ho ?hd ?_);(case hgd|ho|hd=>rfl);(intro b2 w1 l1 B1 e1 z1))
  |((with_reducible refine ai 411 _ DU (some 5) ?hgd ?ho ?hd ?_);(case hgd|ho|hd=>rfl);(intro b5 w2 l2 B2 e2 z2))
  |fail)
 have HL2:=Lib.hid l1
 have HL5:=Lib.hid (show w.heap.size≤b5 from Nat.le_trans l1 (Nat.le_of_lt (Nat.lt_of_lt_of_le z1 l2)))
 have HN5:=Lib.hid (show b2≠b5 by omega)
 have hbel:=(e1.mono l1).trans (e2.mono HL5.out)
 have hB1:=B1.below e2 (Nat.lt_of_lt_of_le z1 l2)
 clear e1 e2 z1 z2 l1 l2 B1
 go_loopw [13] (fun v wr=>∃k:Nat,k≤4∧v= .int .i64 k∧((k=0→ab wr b5 [.string (⟨#[]⟩:ByteArray), .string (⟨#[]⟩:ByteArray), .string (⟨#[]⟩:ByteArray), .string (⟨#[]⟩:ByteArray)] 411)∧(k=1→ab wr b5 [.string (d.shown 0), .string (⟨#[]⟩:ByteArray), .string (⟨#[]⟩:ByteArray), .string (⟨#[]⟩:ByteArray)] 411)∧(k=2→ab wr b5 [.string (d.shown 0), .string (d.shown 1), .string (⟨#[]⟩:ByteArray), .string (⟨#[]⟩:ByteArray)] 411)∧(k=3→ab wr b5 [.string (d.shown 0), .string (d.shown 1), .string (d.shown 2), .string (⟨#[]⟩:ByteArray)] 411)∧(k=4→ab wr b5 [.string (d.shown 0), .string (d.shown 1), .string (d.shown 2), .string (d.shown 3)] 411))∧ab wr b2 aE.zero.cells 130∧Below w.heap.size w wr) (fun v _=>4-(intOf v).toNat)
 case atStart=>exact⟨0,by omega,rfl,⟨fun _=>B2,fun h=>(by cases h),fun h=>(by cases h),fun h=>(by cases h),fun h=>(by cases h)⟩,hB1,hbel⟩
 case round=>
  clear B2 hB1 hbel
  obtain⟨k,hk,rfl,hsg,hb2,hbel⟩:=hrel
  have HSG:=Lib.hid hsg
  have HB2:=Lib.hid hb2
  have HBE:=Lib.hid hbel
  have HDr:=Lib.hid (HH.out.below hbel)
  clear hsg hb2 hbel
  match k,hk with
  |0,hk=>
   have hB:=HSG.out.1 (by trivial)
   have g0:=hB.cell (i:=0) rfl
   have f0:=hB.free 0
   go_wp2_with fail
   refine(eV db d _ HDr.out HD.out 0 (by have:=H4.out;omega) HC.out HB.out).mono ?_
   rintro e w' ⟨rfl,rfl⟩
   obtain⟨sh,hsh⟩:∃s,d.shown ((0:Nat):Int)=s:=⟨_,rfl⟩
   rw[hsh]
   go_wp2_with fail
   have hB2:=hB.set 0 (.string sh)
   have hB2':=hB2.ext (show _=[.string (d.shown 0), .string (⟨#[]⟩:ByteArray), .string (⟨#[]⟩:ByteArray), .string (⟨#[]⟩:ByteArray)] by rw[←hsh];rfl)
   have hbe:=HBE.out.setCell (p:=⟨b5,0,none⟩) (by exact HL5.out) (.string sh)
   have h22:=HB2.out.set_other (a:=⟨b5,0,none⟩) HN5.out (.string sh)
   go_roundw
   case rel=>exact⟨1,by omega,rfl,⟨fun h=>(by cases h),fun _=>hB2',fun h=>(by cases h),fun h=>(by cases h),fun h=>(by cases h)⟩,h22,hbe⟩
   case measure=>simp[intOf]
  |1,hk=>
   have hB:=HSG.out.2.1 (by trivial)
   have g1:=hB.cell (i:=1) rfl
   have f1:=hB.free 1
   go_wp2_with fail
   refine(eV db d _ HDr.out HD.out 1 (by have:=H4.out;omega) HC.out HB.out).mono ?_
   rintro e w' ⟨rfl,rfl⟩
   obtain⟨sh,hsh⟩:∃s,d.shown ((1:Nat):Int)=s:=⟨_,rfl⟩
   rw[hsh]
   go_wp2_with fail
   have hB2:=hB.set 1 (.string sh)
   have hB2':=hB2.ext (show _=[.string (d.shown 0), .string (d.shown 1), .string (⟨#[]⟩:ByteArray), .string (⟨#[]⟩:ByteArray)] by rw[←hsh];rfl)
   have hbe:=HBE.out.setCell (p:=⟨b5,1,none⟩) (by exact HL5.out) (.string sh)
   have h22:=HB2.out.set_other (a:=⟨b5,1,none⟩) HN5.out (.string sh)
   go_roundw
   case rel=>exact⟨2,by omega,rfl,⟨fun h=>(by cases h),fun h=>(by cases h),fun _=>hB2',fun h=>(by cases h),fun h=>(by cases h)⟩,h22,hbe⟩
   case measure=>simp[intOf]
  |2,hk=>
   have hB:=HSG.out.2.2.1 (by trivial)
   have g2:=hB.cell (i:=2) rfl
   have f2:=hB.free 2
   go_wp2_with fail
   refine(eV db d _ HDr.out HD.out 2 (by have:=H4.out;omega) HC.out HB.out).mono ?_
   rintro e w' ⟨rfl,rfl⟩
   obtain⟨sh,hsh⟩:∃s,d.shown ((2:Nat):Int)=s:=⟨_,rfl⟩
   rw[hsh]
   go_wp2_with fail
   have hB2:=hB.set 2 (.string sh)
   have hB2':=hB2.ext (show _=[.string (d.shown 0), .string (d.shown 1), .string (d.shown 2), .string (⟨#[]⟩:ByteArray)] by rw[←hsh];rfl)
   have hbe:=HBE.out.setCell (p:=⟨b5,2,none⟩) (by exact HL5.out) (.string sh)
   have h22:=HB2.out.set_other (a:=⟨b5,2,none⟩) HN5.out (.string sh)
   go_roundw
   case rel=>exact⟨3,by omega,rfl,⟨fun h=>(by cases h),fun h=>(by cases h),fun h=>(by cases h),fun _=>hB2',fun h=>(by cases h)⟩,h22,hbe⟩
   case measure=>simp[intOf]
  |3,hk=>
   have hB:=HSG.out.2.2.2.1 (by trivial)
   have g3:=hB.cell (i:=3) rfl
   have f3:=hB.free 3
   go_wp2_with fail
   refine(eV db d _ HDr.out HD.out 3 (by have:=H4.out;omega) HC.out HB.out).mono ?_
   rintro e w' ⟨rfl,rfl⟩
   obtain⟨sh,hsh⟩:∃s,d.shown ((3:Nat):Int)=s:=⟨_,rfl⟩
   rw[hsh]
   go_wp2_with fail
   have hB2:=hB.set 3 (.string sh)
   have hB2':=hB2.ext (show _=[.string (d.shown 0), .string (d.shown 1), .string (d.shown 2), .string (d.shown 3)] by rw[←hsh];rfl)
   have hbe:=HBE.out.setCell (p:=⟨b5,3,none⟩) (by exact HL5.out) (.string sh)
   have h22:=HB2.out.set_other (a:=⟨b5,3,none⟩) HN5.out (.string sh)
   go_roundw
   case rel=>exact⟨4,by omega,rfl,⟨fun h=>(by cases h),fun h=>(by cases h),fun h=>(by cases h),fun h=>(by cases h),fun _=>hB2'⟩,h22,hbe⟩
   case measure=>simp[intOf]
  |4,hk=>
   have hB:=HSG.out.2.2.2.2 (by trivial)
   obtain⟨nb,hnb⟩:∃nb,(⟨(List.replicate 4096 0).toArray⟩:ByteArray)=nb:=⟨_,rfl⟩
   have hch:∀wx:World,Calls Tryz.prog 376 #[.string nb, .string (d.shown 1)] wx fun e w'=>e= .returned (.tuple #[s.v, .int .i64 1, .int .i64 0])∧Below wx.heap.size wx w':=fun wx=>by rw[←hnb];exact qP s (d.shown 1) wx h1 HS.out
   have g0:=hB.cell (i:=0) rfl
   rw[h0,hnb]at g0
   have g1:=hB.cell (i:=1) rfl
   have HHB:=Lib.hid hB
   have HCH:=Lib.hid hch
   clear hB hch hnb h0 h1
   go_wp2_with fail
   refine(HCH.out _).mono ?_
   rintro e w4 ⟨rfl,hb4⟩
   have HB4:=Lib.hid (HHB.out.below hb4 HHB.out.lt)
   have HR4:=Lib.hid (HB2.out.below hb4 HB2.out.lt)
   have HD4:=Lib.hid (HDr.out.below hb4)
   have HBE4:=Lib.hid (HBE.out.trans (hb4.mono HBE.out.size))
   clear hb4 g0 g1
   go_wp2_with (first
    |((with_reducible refine ai 130 _ dT (some 9) ?hgd ?ho ?hd ?_);(case hgd|ho|hd=>rfl);(intro b9 w6 l6 B6 e6 z6))
    |((with_reducible refine af 130 (.tmp 9) (.tmp 36) b9 aE.zero.cells s.cells 130 B6 rfl aY (dH _) ?hgd ?ho ?hx ?hy ?_);(case hgd|ho|hx|hy=>rfl);(intro w7 B7 o7))
    |fail)
   have hb7:Below w4.heap.size w4 w7:=o7.below (e6.mono l6) l6
   have HBX:=Lib.hid (HB4.out.below hb7 HB4.out.lt)
   have HRX:=Lib.hid (HR4.out.below hb7 HR4.out.lt)
   have HDX:=Lib.hid (HD4.out.below hb7)
   have HBEX:=Lib.hid (HBE4.out.trans (hb7.mono HBE4.out.size))
   have HSX:=Lib.hid B7
   have HGG:=Lib.hid hg
   clear hb7 B6 e6 l6 z6 o7 B7 hg
   refine wp_region_held_drew (S:=fun wx=>wx.cell? ⟨b9,4,none⟩=some (.int .i64 s.geo.blocks)) (by kernel_rfl) (HSX.out.drew.cell (i:=4) rfl) (fun hHeld=> ?_)
   refine hp 0 ?_
   refine hp 1 ?_
   refine hp 2 ?_
   refine hp 3 ?_
   refine wpAnyH_ready (rs:=[4]) (by kernel_rfl) (by simp) ?_
   refine AllReadyH.cons rfl (fun K hK=> ?_) AllReadyH.nil
   go_simp
   refine(mN db d _ (HDX.out.below (Below.refl _ _).drew)).mono ?_
   rintro e w' ⟨rfl,rfl⟩
   rw[←HGG.out]
   (try go_wp2_with fail)
   refine hK.out _ _ (HSX.out.drew.cell (i:=4) rfl) (fun hHeld2=> ?_)
   clear hK K hHeld
   have hHeld:=hHeld2
   clear hHeld2
   (try go_frame)
   refine hp 5 ?_
   refine wpAnyH_done (by kernel_rfl) ?_ _
   have HBEY:=Lib.hid (HBEX.out.drew)
   have x2:=HBX.out.drew.cell (i:=2) rfl
   have x3:=HBX.out.drew.cell (i:=3) rfl
   have y2:=HSX.out.drew.cell (i:=2) rfl
   rw[hn]at y2
   have HSY:=Lib.hid HSX.out.drew
   have HRY:=Lib.hid HRX.out.drew
   obtain⟨wy,hwy⟩:∃wy,w7.drew=wy:=⟨_,rfl⟩
   rw[hwy]at HBEY x2 x3 y2 HSY HRY ⊢
   clear hwy
   go_wp2_with fail
   refine(qN n key (d.shown 2) (d.shown 3) _ (by have:=HS.out.e1;omega) hkl eK).mono ?_
   rintro e w8 ⟨rfl,hb8⟩
   have HS8:=Lib.hid (HSY.out.below hb8 HSY.out.lt)
   have HR8:=Lib.hid (HRY.out.below hb8 HRY.out.lt)
   have HBE8:=Lib.hid (HBEY.out.trans (hb8.mono HBEY.out.size))
   clear hb8 x2 x3 y2
   go_wp2_with (first
    |((with_reducible refine ar 130 (.tmp 9) b9 s.cells 130 _ HS8.out Tryz.underlying130 rfl aY ?hgd ?ho ?hx ?_);(case hgd|ho|hx=>rfl))
    |((with_reducible refine af 130 (.tmp 2) (.tmp 60) b2 aE.zero.cells s.cells 130 HR8.out rfl aY (dH _) ?hgd ?ho ?hx ?hy ?_);(case hgd|ho|hx|hy=>rfl);(intro w9 B9 o9))
    |fail)
   (try simp only[Exit.inBlock,Exit.then]);refine bodyPost_ret (lH rfl _ _ B9.range rfl Tryz.underlying130 rfl aY) rfl ⟨rfl,o9.below HBE8.out HL2.out⟩
end Go.Proofs.YtgimkmclgjfddaaGreat
