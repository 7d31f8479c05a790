/- The documents' model does a call (chapter 24): an epoch is closed in which nothing was written. The documents' volume (chapter 26): its state, where it lies, and what becomes of it where some blocks turn. Walk of the documents' At (chapter 18). -/
import Derived.Test.YtgimkmclgjfddaaGreatQ21
import Derived.Test.YtgimkmclgjfddaaGreatQ16
import Derived.Test.YtgimkmclgjfddaaGreatQ9
import Derived.Test.YtgimkmclgjfddaaGreatQ13
import Derived.Test.YtgimkmclgjfddaaGreatQ17
set_option linter.unusedSimpArgs false
set_option linter.unusedVariables false
set_option maxRecDepth 100000
set_option maxHeartbeats 4000000
namespace Go.Proofs.YtgimkmclgjfddaaGreat
open Go Go.RowKit
theorem BU (n:Int) (s:ByteArray):Tryz.prog.built 25 [(0, .int .i64 1),(3, .int .i64 n),(6, .string s)]=some (Rec.cells ⟨1,0,0,n,0,0,s,⟨#[]⟩⟩).toArray:=by kernel_rfl
theorem ra {w:World} {mb:Nat} {g:ay} {used clock first:Int} {lv vv:Value} {t:TypeId} (h:ab w mb (dO g used clock first lv vv) t):w.rangeAt mb 0 g.cells:=by
 intro j v hv
 match j,hv with
 |0,hv=>simp[ay.cells]at hv;subst hv;exact h.cell (i:=0) rfl
 |1,hv=>simp[ay.cells]at hv;subst hv;exact h.cell (i:=1) rfl
 |2,hv=>simp[ay.cells]at hv;subst hv;exact h.cell (i:=2) rfl
 |j+3,hv=>simp[ay.cells]at hv
def jE (first:Int) (l:List Rec) (clock:Int) (z:ByteArray):Rec:=⟨1,bh first l,clock,0,0,0,z,⟨#[]⟩⟩
theorem yx {first:Int} {l:List Rec} {clock:Int} {z:ByteArray} (h0:0≤first) (h1:bh first l<4294967295) (t0:0≤clock) (t1:clock≤1099511627776) (hz:z.size=32):am (jE first l clock z)=true:=by
 have h2:=(kR first l).1
 have h3:0≤bh first l:=by omega
 have h5:bh first l≤4294967295:=by omega
 have h6:ByteArray.size (⟨#[]⟩:ByteArray)=0:=rfl
 simp[am,au,jE,hz,h3,h5,h6,t0,t1]
theorem BV (mb:Nat) (g:ay) (used clock first:Int) (lv vv:Value) (l:List Rec) (c:dU) (w:World) (h:eY w mb g used clock first lv vv l []) (hg:cM g) (hk:c.kind=5) (f0:0≤first) (f1:first≤4294967295) (hn:l.length≤1048575) (he:bh first l<4294967295) (hu:used<g.blocks-4) (u0:0≤used) (ht:iG l≤clock) (t0:0≤clock) (t1:clock≤1099511627776):
  Calls Tryz.prog 70 #[.pointer (some ⟨mb,0,none⟩),c.v] w fun e w'=>e= .returned (.agg (eF 0).toArray)∧∃lv' z,aj z (List.replicate 32 0)∧eY w' mb g (used+1) clock first lv' vv (l++[jE first l clock z]) []∧aa (mb::lv.ownBlock.toList) w w'∧dY w lv.ownBlock lv'.ownBlock:=by
 obtain⟨kind,lba,epoch,time,data,name,kp,kn,kc⟩:=c
 simp only at hk
 subst hk
 have H0:=Lib.hid h
 have HG:=Lib.hid hg
 obtain⟨E,hE⟩:∃E,bh first l=E:=⟨_,rfl⟩
 have HEP:=Lib.hid (fun(wx:World) (hx:dy wx mb first lv l)=>show Calls Tryz.prog 71 #[.pointer (some ⟨mb,5,none⟩)] wx fun e w'=>e= .returned (.int .i64 E)∧wx=w' from by rw[←hE];exact jp mb first lv l wx hx f0 f1 (by omega))
 have HDA:=Lib.hid (fun(wx:World)=>zw g wx hg)
 have HPL:=Lib.hid (fun(wx:World) (hx:eY wx mb g used clock first lv vv l [])=>sL mb g used clock first lv vv l E wx hx (by have:=hg.l0;omega) hg.l1)
 have HREC:=Lib.hid (fun(wx:World) (z:ByteArray) (hz:z.size=32) (hx:eY wx mb g used clock first lv vv l [])=>sM mb g used clock first lv vv l [] ⟨1,0,0,0,0,0,z,⟨#[]⟩⟩ 1 wx hx f0 f1 hn (yx f0 he t0 t1 hz) rfl ht (by decide) u0 (by have:=hg.b1;omega))
 have he':E<4294967295:=by omega
 obtain⟨D,hD⟩:∃D,g.blocks-4=D:=⟨_,rfl⟩
 rw[hD]at hu
 have HDD:=Lib.hid hD
 clear h hg f0 f1 hn he u0 ht t0 t1 hE hD
 go_enter Tryz.func70,Tryz.ntmps70
 go_upto_region 2 with(first
  |((with_reducible refine ag 72 (.tmp 1) (dU.cells ⟨5,lba,epoch,time,data,name,kp,kn,kc⟩) (some 3) ?hgd ?ho ?hd ?hx ?_);(case hgd|ho|hd|hx=>rfl);(intro b3 w1 l1 B1 e1 z1))
  |((with_reducible refine ai 101 _ lR (some 4) ?hgd ?ho ?hd ?_);(case hgd|ho|hd=>rfl);(intro b4 w2 l2 B2 e2 z2))
  |fail)
 have HX3:=Lib.hid (B1.below e2 (Nat.lt_of_lt_of_le z1 l2))
 have HX4:=Lib.hid B2
 have HL4:=Lib.hid (Nat.le_trans l1 (Nat.le_trans (Nat.le_of_lt z1) l2))
 have HBE2:=Lib.hid ((e1.mono l1).trans (e2.mono HL4.out))
 have H2:=Lib.hid (H0.out.below HBE2.out)
 clear B1 B2 e1 e2 l1 l2 z1 z2
 have q0:=HX3.out.cell (i:=0) rfl
 go_upto_region 13 with fail
 clear q0
 refine hb (fun wx=>wx.rangeAt mb 0 g.cells∧wx.cell? ⟨mb,3,none⟩=some (.int .i64 used)) (⟨ra H2.out.blk.drew,H2.out.blk.drew.cell (i:=3) rfl⟩) fun hHeld=> ?_
 obtain⟨wd,hdr⟩:∃wz,wz=w2.drew:=⟨_,rfl⟩
 have hbz:Below w2.heap.size w2 wd:=by rw[hdr];exact(Below.refl _ _).drew
 have HXd:=Lib.hid (HX4.out.below hbz HX4.out.lt)
 have HBE3:=Lib.hid (HBE2.out.trans (hbz.mono HBE2.out.size))
 have H3:=Lib.hid (H2.out.below hbz)
 rw[←hdr]
 rw[←hdr]at hHeld
 clear hdr hbz
 refine hp 0 ?_
 refine hp 1 ?_
 refine hp 2 ?_
 refine hc 3 fun K hK=> ?_
 go_simp
 refine(HEP.out _ H3.out.book).mono ?_
 rintro e w' ⟨rfl,rfl⟩
 (try go_wp2_with fail)
 refine hK.out _ _ (⟨ra H3.out.blk,H3.out.blk.cell (i:=3) rfl⟩) fun _=> ?_
 clear hK K hHeld
 rename_i hHeld
 (try go_frame)
 refine hp 4 ?_
 refine hp 5 ?_
 refine hp 6 ?_
 refine hp 7 ?_
 refine hp 8 ?_
 refine hp 9 ?_
 refine hp 10 ?_
 refine hp 11 ?_
 refine hp 12 ?_
 refine hl 13 69 mb 0 (g.cells) (fun w h=>h.1) Tryz.underlying69 bu ?_
 refine hc 14 fun K hK=> ?_
 go_simp
 refine(HDA.out _).mono ?_
 rintro e wf ⟨rfl,hbf⟩
 rw[HDD.out]
 have HXf:=Lib.hid (HXd.out.below hbf HXd.out.lt)
 have HBE4:=Lib.hid (HBE3.out.trans (hbf.mono HBE3.out.size))
 have H4:=Lib.hid (H3.out.below hbf)
 clear hbf
 (try go_wp2_with fail)
 refine hK.out _ _ (⟨ra H4.out.blk,H4.out.blk.cell (i:=3) rfl⟩) fun _=> ?_
 clear hK K hHeld
 rename_i hHeld
 (try go_frame)
 refine hp 15 ?_
 refine hp 16 ?_
 refine hd ?_
 clear hHeld
 go_wp2_with fail
 refine(HEP.out _ H4.out.book).mono ?_
 rintro e w' ⟨rfl,rfl⟩
 go_wp2_with fail
 refine(HPL.out _ H4.out).mono ?_
 rintro e w5 ⟨rfl,hb5⟩
 have HX5:=Lib.hid (HXf.out.below hb5 HXf.out.lt)
 have HBE5:=Lib.hid (HBE4.out.trans (hb5.mono HBE4.out.size))
 have H5:=Lib.hid (H4.out.below hb5)
 clear hb5
 go_wp2_with fail
 refine(gd 32 _ (by decide) (by decide)).mono ?_
 rintro e w6 ⟨z,rfl,tz,hb6⟩
 have HTZ:=Lib.hid tz
 have HX6:=Lib.hid (HX5.out.below hb6 HX5.out.lt)
 have HBE6:=Lib.hid (HBE5.out.trans (hb6.mono HBE5.out.size))
 have H6:=Lib.hid (H5.out.below hb6)
 clear hb6 tz
 go_wp2_with (first
  |((with_reducible refine aw 25 ?partsr (Rec.cells ⟨1,0,0,0,0,0,z,⟨#[]⟩⟩) ?hg ?ho ?hf ?_);(case hg|ho=>rfl);(case hf=>exact BU _ _))
  |fail)
 refine(HREC.out _ z (by rw[HTZ.out.size];rfl) H6.out).mono ?_
 rintro e w7 ⟨rfl,lv',hm7,ht7,hn7⟩
 have HM7:=Lib.hid hm7
 have HT7:=Lib.hid ((aa.of_below HBE6.out (Nat.le_refl _)).trans ht7)
 have HN7:=Lib.hid (hn7.back HBE6.out.size)
 have HX7:=Lib.hid (ht7.blk HX6.out (fun hm=>by
  rcases List.mem_cons.1 hm with e|hm
  ·have:=H0.out.blk.lt;have:=HL4.out;omega
  ·have h1:=(ap H0.out.recs (show lv.ownBlock=some b4 from by simpa using hm)).lt
   have:=HL4.out
   omega))
 clear hm7 ht7 hn7
 go_wp2_with (first
  |((with_reducible refine aw 101 ?partsa (eF 0) ?hg ?ho ?hf ?_);(case hg|ho=>rfl);(case hf=>exact rI 0))
  |((with_reducible refine af 101 (.tmp 4) (.tmp 82) b4 (eF 0) (eF 0) 101 HX7.out rfl fD (lS 0) ?hgd ?ho ?hx ?hy ?_);(case hgd|ho|hx|hy=>rfl);(intro w8 B8 o8))
  |fail)
 (try simp only[Exit.inBlock,Exit.then]);refine bodyPost_ret (gG rfl _ _ B8.range rfl Tryz.underlying101 rfl fD) rfl ⟨rfl,lv',z,HTZ.out,⟨o8.blk HM7.out.blk (fun e=>by have:=H0.out.blk.lt;have:=HL4.out;omega), ?_, ?_⟩, ?_,HN7.out⟩
 ·exact ak HM7.out.recs (o8.turned (S:=[b4]) (by simp)) (fun k hk hm=>by simp at hm;subst hm;exact absurd ((ap HM7.out.recs hk).eq HX7.out.ty) (by decide))
 ·exact ak HM7.out.vers (o8.turned (S:=[b4]) (by simp)) (fun k hk hm=>by simp at hm;subst hm;exact absurd ((ap HM7.out.vers hk).eq HX7.out.ty) (by decide))
 ·exact HT7.out.on (o8.turned (S:=[b4]) (by simp)) (fun x hx=>by simp at hx;subst hx;exact .inr HL4.out)
structure dj where
 geo:ay
 used:Int
 clock:Int
 first:Int
 recs:List Rec
 vers:List nv
 root:ByteArray
 cells:List dq
 sealed:List aH
 held:List Int
 sup:aE
 keys:List ByteArray
 all:List dq
structure bY where
 rb:Nat
 mb:Nat
 lv:Value
 vv:Value
 cv:Value
 sv:Value
 hv:Value
 kv:Value
 av:Value
def dk (i:bY) (root:ByteArray) (s:aE):List Value:=[.pointer (some ⟨i.mb,0,none⟩), .string root,i.cv,i.sv,i.hv, .int .i64 s.gen, .int .i64 s.tail, .int .i64 s.epoch, .int .i64 s.clock, .int .i64 s.geo.blocks, .int .i64 s.geo.lbas, .int .i64 s.geo.first,i.kv,i.av]
structure bN (w:World) (i:bY) (r:dj):Prop where
 blk:ab w i.rb (dk i r.root r.sup) 133
 mdl:eY w i.mb r.geo r.used r.clock r.first i.lv i.vv r.recs r.vers
 cells:w.ownsRow 0 162 5 i.cv r.cells.length (r.cells.flatMap dq.cells)
 sealed:w.ownsRow 0 27 9 i.sv r.sealed.length (gV r.sealed)
 held:w.ownsRow 0 3 1 i.hv r.held.length (r.held.map (.int .i64))
 keys:w.ownsRow 0 9 1 i.kv r.keys.length (r.keys.map .string)
 all:w.ownsRow 0 162 5 i.av r.all.length (r.all.flatMap dq.cells)
 ne:∀k,i.cv.ownBlock=some k→i.av.ownBlock≠some k
def bY.foot (i:bY):List Nat:=[i.rb,i.mb]++(i.lv.ownBlock.toList++(i.vv.ownBlock.toList++(i.cv.ownBlock.toList++(i.sv.ownBlock.toList++(i.hv.ownBlock.toList++(i.kv.ownBlock.toList++i.av.ownBlock.toList))))))
theorem bY.mem (i:bY) (x:Nat):x∈i.foot↔x=i.rb∨x=i.mb∨i.lv.ownBlock=some x∨i.vv.ownBlock=some x∨i.cv.ownBlock=some x∨i.sv.ownBlock=some x∨i.hv.ownBlock=some x∨i.kv.ownBlock=some x∨i.av.ownBlock=some x:=by
 simp only[bY.foot,List.mem_append,List.mem_cons,List.not_mem_nil,or_false,Option.mem_toList,Option.mem_def,or_assoc]
theorem bN.away {w w':World} {i:bY} {r:dj} {S:List Nat} (h:bN w i r) (t:aa S w w') (hS:∀x,x∈i.foot→x∉S):bN w' i r:=by
 have m:=fun x hx=>hS x ((i.mem x).2 hx)
 exact⟨t.blk h.blk (m _ (.inl rfl)),⟨t.blk h.mdl.blk (m _ (.inr (.inl rfl))),ak h.mdl.recs t (fun k hk=>m k (.inr (.inr (.inl hk)))),ak h.mdl.vers t (fun k hk=>m k (.inr (.inr (.inr (.inl hk)))))⟩,
  ak h.cells t (fun k hk=>m k (.inr (.inr (.inr (.inr (.inl hk)))))),ak h.sealed t (fun k hk=>m k (.inr (.inr (.inr (.inr (.inr (.inl hk))))))),ak h.held t (fun k hk=>m k (.inr (.inr (.inr (.inr (.inr (.inr (.inl hk)))))))),
  ak h.keys t (fun k hk=>m k (.inr (.inr (.inr (.inr (.inr (.inr (.inr (.inl hk))))))))),ak h.all t (fun k hk=>m k (.inr (.inr (.inr (.inr (.inr (.inr (.inr (.inr hk))))))))),h.ne⟩
theorem bN.foot_lt {w:World} {i:bY} {r:dj} (h:bN w i r):∀x,x∈i.foot→x<w.heap.size:=by
 intro x hx
 rcases(i.mem x).1 hx with rfl|rfl|hx|hx|hx|hx|hx|hx|hx
 ·exact h.blk.lt
 ·exact h.mdl.blk.lt
 ·exact(ap h.mdl.recs hx).lt
 ·exact(ap h.mdl.vers hx).lt
 ·exact(ap h.cells hx).lt
 ·exact(ap h.sealed hx).lt
 ·exact(ap h.held hx).lt
 ·exact(ap h.keys hx).lt
 ·exact(ap h.all hx).lt
theorem bN.below {w w':World} {i:bY} {r:dj} (h:bN w i r) (hb:Below w.heap.size w w'):bN w' i r:=h.away (aa.of_below (S:=[]) hb (Nat.le_refl _)) (fun _ _ hx=>by cases hx)
structure cS (w w':World) (i:bY) (i':bY) (r':dj):Prop where
 at':bN w' i' r'
 turned:aa i.foot w w'
 foot:∀x,x∈i'.foot→x∈i.foot∨w.heap.size≤x
theorem cS.refl {w:World} {i:bY} {r:dj} (h:bN w i r):cS w w i i r:=⟨h,aa.refl _ _,fun _ hx=> .inl hx⟩
theorem cS.trans {w1 w2 w3:World} {i i' i'':bY} {r' r'':dj} (h:cS w1 w2 i i' r') (k:cS w2 w3 i' i'' r''):cS w1 w3 i i'' r'':=
 ⟨k.at',h.turned.on k.turned h.foot,fun x hx=>(k.foot x hx).elim (fun h1=>h.foot x h1) (fun h1=> .inr (Nat.le_trans h.turned.size h1))⟩
theorem cS.below {w1 w2 w3:World} {i i':bY} {r':dj} (h:cS w1 w2 i i' r') (hb:Below w2.heap.size w2 w3):cS w1 w3 i i' r':=
 ⟨h.at'.below hb,h.turned.trans (aa.of_below hb (Nat.le_refl _)),h.foot⟩
theorem cS.ahead {w1 w2 w3:World} {i i':bY} {r':dj} (hb:Below w1.heap.size w1 w2) (h:cS w2 w3 i i' r'):cS w1 w3 i i' r':=
 ⟨h.at',(aa.of_below hb (Nat.le_refl _)).trans h.turned,fun x hx=>(h.foot x hx).elim .inl (fun h1=> .inr (Nat.le_trans hb.size h1))⟩
theorem bN.fresh {w0:World} {i:bY} {r:dj} {b:Nat} (h:bN w0 i r) (hb:w0.heap.size≤b):b∉i.foot:=fun hm=>by
 have:=h.foot_lt b hm
 omega
theorem bN.notype {w:World} {i:bY} {r:dj} {b:Nat} {t:TypeId} (h:bN w i r) (hb:Ty w b t) (ht:t∉[133,158,25,331,162,27,3,9]):b∉i.foot:=by
 intro hx
 simp only[List.mem_cons,List.not_mem_nil,or_false,not_or]at ht
 obtain⟨t1,t2,t3,t4,t5,t6,t7,t8⟩:=ht
 rcases(i.mem b).1 hx with rfl|rfl|hx|hx|hx|hx|hx|hx|hx
 ·exact t1 (hb.eq h.blk.ty)
 ·exact t2 (hb.eq h.mdl.blk.ty)
 ·exact t3 (hb.eq (ap h.mdl.recs hx))
 ·exact t4 (hb.eq (ap h.mdl.vers hx))
 ·exact t5 (hb.eq (ap h.cells hx))
 ·exact t6 (hb.eq (ap h.sealed hx))
 ·exact t7 (hb.eq (ap h.held hx))
 ·exact t8 (hb.eq (ap h.keys hx))
 ·exact t5 (hb.eq (ap h.all hx))
theorem bN.put_cells {w w':World} {i:bY} {r:dj} {l:List dq} (h:bN w i r) (hp:fc w w' i.rb 2 (dk i r.root r.sup) 133 162 5 i.cv l.length (l.flatMap dq.cells)):∃x,cS w w' i {i with cv:=x} {r with cells:=l}:=by
 obtain⟨x,h1,h2,t,h4⟩:=hp.ex
 have hS:=bC.cons h.blk.ty (bC.own h.cells)
 refine⟨x,⟨h2,⟨t.blk h.mdl.blk (h.mdl.blk.ty.notin hS (by decide)),ak h.mdl.recs t (fun k hk=>(ap h.mdl.recs hk).notin hS (by decide)),ak h.mdl.vers t (fun k hk=>(ap h.mdl.vers hk).notin hS (by decide))⟩,h1,ak h.sealed t (fun k hk=>(ap h.sealed hk).notin hS (by decide)),ak h.held t (fun k hk=>(ap h.held hk).notin hS (by decide)),ak h.keys t (fun k hk=>(ap h.keys hk).notin hS (by decide)),ak h.all t (fun k hk hm=>by
   rcases List.mem_cons.1 hm with e|hm
   ·subst e
    exact absurd ((ap h.all hk).eq h.blk.ty) (by decide)
   ·exact h.ne k (by simpa using hm) hk),fun k hk ha=>((h4.or k hk).elim (fun hc=>h.ne k hc ha) (fun hl=>by have:=(ap h.all ha).lt;omega))⟩,t.mono (fun y hy=> ?_),fun y hy=> ?_⟩
 ·rw[i.mem]
  rcases List.mem_cons.1 hy with e|hy
  ·exact .inl e
  ·have hy:i.cv.ownBlock=some y:=by simpa using hy
   simp[hy]
 ·rw[bY.mem]at hy ⊢
  simp only at hy
  have h5:=h4.or y
  rcases hy with e|e|e|e|e|e|e|e|e<;>first|(exact .inl (by simp[e]))|exact(h5 e).imp (fun e=>by simp[e]) id
theorem bN.put_sealed {w w':World} {i:bY} {r:dj} {l:List aH} (h:bN w i r) (hp:fc w w' i.rb 3 (dk i r.root r.sup) 133 27 9 i.sv l.length (gV l)):∃x,cS w w' i {i with sv:=x} {r with sealed:=l}:=by
 obtain⟨x,h1,h2,t,h4⟩:=hp.ex
 have hS:=bC.cons h.blk.ty (bC.own h.sealed)
 refine⟨x,⟨h2,⟨t.blk h.mdl.blk (h.mdl.blk.ty.notin hS (by decide)),ak h.mdl.recs t (fun k hk=>(ap h.mdl.recs hk).notin hS (by decide)),ak h.mdl.vers t (fun k hk=>(ap h.mdl.vers hk).notin hS (by decide))⟩,ak h.cells t (fun k hk=>(ap h.cells hk).notin hS (by decide)),h1,ak h.held t (fun k hk=>(ap h.held hk).notin hS (by decide)),ak h.keys t (fun k hk=>(ap h.keys hk).notin hS (by decide)),ak h.all t (fun k hk=>(ap h.all hk).notin hS (by decide)),h.ne⟩,t.mono (fun y hy=> ?_),fun y hy=> ?_⟩
 ·rw[i.mem]
  rcases List.mem_cons.1 hy with e|hy
  ·exact .inl e
  ·have hy:i.sv.ownBlock=some y:=by simpa using hy
   simp[hy]
 ·rw[bY.mem]at hy ⊢
  simp only at hy
  have h5:=h4.or y
  rcases hy with e|e|e|e|e|e|e|e|e<;>first|(exact .inl (by simp[e]))|exact(h5 e).imp (fun e=>by simp[e]) id
theorem bN.put_held {w w':World} {i:bY} {r:dj} {l:List Int} (h:bN w i r) (hp:fc w w' i.rb 4 (dk i r.root r.sup) 133 3 1 i.hv l.length (l.map (.int .i64))):∃x,cS w w' i {i with hv:=x} {r with held:=l}:=by
 obtain⟨x,h1,h2,t,h4⟩:=hp.ex
 have hS:=bC.cons h.blk.ty (bC.own h.held)
 refine⟨x,⟨h2,⟨t.blk h.mdl.blk (h.mdl.blk.ty.notin hS (by decide)),ak h.mdl.recs t (fun k hk=>(ap h.mdl.recs hk).notin hS (by decide)),ak h.mdl.vers t (fun k hk=>(ap h.mdl.vers hk).notin hS (by decide))⟩,ak h.cells t (fun k hk=>(ap h.cells hk).notin hS (by decide)),ak h.sealed t (fun k hk=>(ap h.sealed hk).notin hS (by decide)),h1,ak h.keys t (fun k hk=>(ap h.keys hk).notin hS (by decide)),ak h.all t (fun k hk=>(ap h.all hk).notin hS (by decide)),h.ne⟩,t.mono (fun y hy=> ?_),fun y hy=> ?_⟩
 ·rw[i.mem]
  rcases List.mem_cons.1 hy with e|hy
  ·exact .inl e
  ·have hy:i.hv.ownBlock=some y:=by simpa using hy
   simp[hy]
 ·rw[bY.mem]at hy ⊢
  simp only at hy
  have h5:=h4.or y
  rcases hy with e|e|e|e|e|e|e|e|e<;>first|(exact .inl (by simp[e]))|exact(h5 e).imp (fun e=>by simp[e]) id
theorem bN.put_keys {w w':World} {i:bY} {r:dj} {l:List ByteArray} (h:bN w i r) (hp:fc w w' i.rb 12 (dk i r.root r.sup) 133 9 1 i.kv l.length (l.map .string)):∃x,cS w w' i {i with kv:=x} {r with keys:=l}:=by
 obtain⟨x,h1,h2,t,h4⟩:=hp.ex
 have hS:=bC.cons h.blk.ty (bC.own h.keys)
 refine⟨x,⟨h2,⟨t.blk h.mdl.blk (h.mdl.blk.ty.notin hS (by decide)),ak h.mdl.recs t (fun k hk=>(ap h.mdl.recs hk).notin hS (by decide)),ak h.mdl.vers t (fun k hk=>(ap h.mdl.vers hk).notin hS (by decide))⟩,ak h.cells t (fun k hk=>(ap h.cells hk).notin hS (by decide)),ak h.sealed t (fun k hk=>(ap h.sealed hk).notin hS (by decide)),ak h.held t (fun k hk=>(ap h.held hk).notin hS (by decide)),h1,ak h.all t (fun k hk=>(ap h.all hk).notin hS (by decide)),h.ne⟩,t.mono (fun y hy=> ?_),fun y hy=> ?_⟩
 ·rw[i.mem]
  rcases List.mem_cons.1 hy with e|hy
  ·exact .inl e
  ·have hy:i.kv.ownBlock=some y:=by simpa using hy
   simp[hy]
 ·rw[bY.mem]at hy ⊢
  simp only at hy
  have h5:=h4.or y
  rcases hy with e|e|e|e|e|e|e|e|e<;>first|(exact .inl (by simp[e]))|exact(h5 e).imp (fun e=>by simp[e]) id
theorem bN.put_sup {w w':World} {i:bY} {r:dj} {s:aE} (h:bN w i r) (t:aa [i.rb] w w') (hb:ab w' i.rb (dk i r.root s) 133):cS w w' i i {r with sup:=s}:=by
 have hS:=bC.one h.blk.ty
 exact⟨⟨hb,⟨t.blk h.mdl.blk (h.mdl.blk.ty.notin hS (by decide)),ak h.mdl.recs t (fun k hk=>(ap h.mdl.recs hk).notin hS (by decide)),ak h.mdl.vers t (fun k hk=>(ap h.mdl.vers hk).notin hS (by decide))⟩,ak h.cells t (fun k hk=>(ap h.cells hk).notin hS (by decide)),ak h.sealed t (fun k hk=>(ap h.sealed hk).notin hS (by decide)),ak h.held t (fun k hk=>(ap h.held hk).notin hS (by decide)),ak h.keys t (fun k hk=>(ap h.keys hk).notin hS (by decide)),ak h.all t (fun k hk=>(ap h.all hk).notin hS (by decide)),h.ne⟩,t.mono (fun y hy=>by simp at hy;rw[i.mem];exact .inl hy),fun y hy=> .inl hy⟩
theorem bN.put_mdl {w w':World} {i:bY} {r:dj} {used clock:Int} {lv:Value} {l:List Rec} (h:bN w i r) (t:aa (i.mb::i.lv.ownBlock.toList) w w') (hm:eY w' i.mb r.geo used clock r.first lv i.vv l r.vers) (hn:dY w i.lv.ownBlock lv.ownBlock):cS w w' i {i with lv:=lv} {r with used:=used,clock:=clock,recs:=l}:=by
 have hS:=bC.cons h.mdl.blk.ty (bC.own h.mdl.recs)
 refine⟨⟨t.blk h.blk (h.blk.ty.notin hS (by decide)),hm,ak h.cells t (fun k hk=>(ap h.cells hk).notin hS (by decide)),ak h.sealed t (fun k hk=>(ap h.sealed hk).notin hS (by decide)),ak h.held t (fun k hk=>(ap h.held hk).notin hS (by decide)),ak h.keys t (fun k hk=>(ap h.keys hk).notin hS (by decide)),ak h.all t (fun k hk=>(ap h.all hk).notin hS (by decide)),h.ne⟩,t.mono (fun y hy=> ?_),fun y hy=> ?_⟩
 ·rw[i.mem]
  rcases List.mem_cons.1 hy with e|hy
  ·exact .inr (.inl e)
  ·have hy:i.lv.ownBlock=some y:=by simpa using hy
   simp[hy]
 ·rw[bY.mem]at hy ⊢
  simp only at hy
  have h5:=hn.or y
  rcases hy with e|e|e|e|e|e|e|e|e<;>first|(exact .inl (by simp[e]))|exact(h5 e).imp (fun e=>by simp[e]) id
theorem kf.yes {key label:List UInt8} {xs:List Int} {e:Ending} (h:kf key label xs e) (h1:key.length=32) (h2:cB label xs=true):
  ∃r,e= .returned (.tuple #[.string r, .bool true])∧aj r (eJ key label (xs.map Int.toNat)):=by
 rcases h with⟨_,h⟩|⟨h,_⟩
 ·exact h
 ·exact absurd ⟨h1,h2⟩ h
theorem kf.no {key label:List UInt8} {xs:List Int} {e:Ending} (h:kf key label xs e) (h1:¬(key.length=32∧cB label xs=true)):
  e= .returned (.tuple #[.string ⟨#[]⟩, .bool false]):=by
 rcases h with⟨h,_⟩|⟨_,h⟩
 ·exact absurd h h1
 ·exact h
theorem Ei (root:ByteArray) (first epoch:Int) (w:World):
  Calls Tryz.prog 53 #[.string root, .int .i64 first, .int .i64 epoch] w fun e w'=>AtEnd root.data.toList first epoch e∧Below w.heap.size w w':=by
 by_cases c1:root.size=32
 rotate_left
 ·have d1:¬(root.size:Int)=32:=by omega
  go_enter Tryz.func53,Tryz.ntmps53
  go_wp2_with fail
  go_ret2
  have hrl:root.data.toList.length=root.size:=rfl
  exact⟨.inr (.inl ⟨by omega,rfl⟩),Below.refl _ _⟩
 have d1:(root.size:Int)=32:=by omega
 by_cases c2:first<0
 ·skip
  go_enter Tryz.func53,Tryz.ntmps53
  go_wp2_with fail
  go_ret2
  have hrl:root.data.toList.length=root.size:=rfl
  exact⟨.inr (.inl ⟨by omega,rfl⟩),Below.refl _ _⟩
 have d2:0≤first:=by omega
 by_cases c3:epoch<first
 ·skip
  go_enter Tryz.func53,Tryz.ntmps53
  go_wp2_with fail
  go_ret2
  have hrl:root.data.toList.length=root.size:=rfl
  exact⟨.inr (.inl ⟨by omega,rfl⟩),Below.refl _ _⟩
 have d3:first≤epoch:=by omega
 by_cases c4:4294967295<epoch
 ·skip
  go_enter Tryz.func53,Tryz.ntmps53
  go_wp2_with fail
  go_ret2
  have hrl:root.data.toList.length=root.size:=rfl
  exact⟨.inr (.inl ⟨by omega,rfl⟩),Below.refl _ _⟩
 have d4:epoch≤4294967295:=by omega
 by_cases c5:4096<epoch-first
 ·go_enter Tryz.func53,Tryz.ntmps53
  go_wp2_with fail
  go_ret2
  have hrl:root.data.toList.length=root.size:=rfl
  exact⟨.inr (.inr ⟨by omega,rfl⟩),Below.refl _ _⟩
 have d5:epoch-first≤4096:=by omega
 clear c2 c3 c4 c5
 obtain⟨f,rfl⟩:∃f:Nat,first=(f:Int):=⟨first.toNat,by omega⟩
 obtain⟨m,rfl⟩:∃m:Nat,epoch=((f+m:Nat):Int):=⟨(epoch-f).toNat,by omega⟩
 obtain⟨z,Hz⟩:∃z:Nat,Hid (z=f+m):=⟨_,rfl⟩
 rw[←Hz.out]at d3 d4 d5 ⊢
 go_enter Tryz.func53,Tryz.ntmps53
 go_wp2_with ((with_reducible refine aS 70 3 1 ?parts [.int .i64 (f:Int)] (.int .i64 0) 1 8 (some 34) Tryz.underlying70 yH (by omega) (by omega) ?hgd ?ho ?hd ?hf ?_);(case hgd|ho|hd=>rfl);(case hf=>kernel_rfl);(intro g w2 l2 B2 e2 z2))
 refine(jW root tK _ [(f:Int)] _ (bc.blk (xs:=[(f:Int)]) B2 rfl 1) ?_ (by simp)).mono ?_
 ·intro j x hx
  cases j with
  |zero=>simp at hx;omega
  |succ j=>simp at hx
 rintro e w3 ⟨he,hb3⟩
 obtain⟨r,rfl,tr⟩:=he.yes c1 (by simp[cB,tK])
 clear he
 have hbel:=(e2.mono l2).trans (hb3.mono (by omega))
 clear e2 l2 B2 z2 hb3
 go_wp2_with fail
 go_loopw [8,10] (fun key i wr=>∃(k t:Nat) (s:ByteArray),k≤m∧i= .int .i64 t∧t=f+k∧key= .string s∧aj s (yK root.data.toList f k)∧Below w.heap.size w wr) (fun key i _=>z-(intOf i).toNat)
 case atStart=>exact⟨0,f,r,by omega,rfl,rfl,rfl,tr,hbel⟩
 case round=>
  clear hbel tr
  obtain⟨k,t,s,hk,rfl,ht,rfl,ts,hbel⟩:=hrel
  have HT:=Lib.hid ht;clear ht
  have hs:s.size=32:=by rw[ts.size,qI]
  by_cases hlt:k<m
  ·have hlt':(t:Int)<z:=by have:=Hz.out;have:=HT.out;omega
   have ht2:(t:Int)<4294967295:=by omega
   go_wp2_with fail
   refine(jW s Ft _ [] _ (bc.nil _) (fun j x h=>by simp at h) (by simp)).mono ?_
   rintro e w3 ⟨he,hb3⟩
   obtain⟨q,rfl,tq⟩:=he.yes hs (by decide)
   clear he
   go_wp2_with fail
   go_roundw
   case rel=>
    have y:=hbel.size
    refine⟨k+1,t+1,q,by omega,by go_num,by have:=HT.out;omega,rfl, ?_,hbel.trans (hb3.mono y)⟩
    exact tq.cast (by rw[ts];rfl)
   case measure=>simp[intOf];omega
  ·obtain rfl:k=m:=by omega
   have hge:(z:Int)≤t:=by have:=Hz.out;have:=HT.out;omega
   go_wp2_with fail
   go_ret2
   have hrl:root.data.toList.length=root.size:=rfl
   have hz:=Hz.out
   exact⟨.inl ⟨by omega,s,rfl,ts.cast (by rw[show((f:Int)).toNat=f by omega,show((z:Int)-f).toNat=k by omega])⟩,hbel⟩
theorem zx (b l f:Int):Tryz.prog.built 130 [(0, .int .i64 1),(2, .int .i64 f),(4, .agg #[.int .i64 b, .int .i64 l, .int .i64 f])]=some (aE.cells ⟨1,0,f,0,⟨b,l,f⟩⟩).toArray:=by kernel_rfl
def mo (rb mb:Nat) (kv:Value):bY:=⟨rb,mb, .slice none 0 0, .slice none 0 0, .slice none 0 0, .slice none 0 0, .slice none 0 0,kv, .slice none 0 0⟩
def tD (g:ay) (root key:ByteArray):dj:=⟨g,0,0,g.first,[],[],root,[],[],[],⟨1,0,g.first,0,g⟩,[key],[]⟩
theorem zy (p kv:Value) (rb mb k:Nat) (root:ByteArray) (b l f:Int) (hp:p= .pointer (some ⟨mb,0,none⟩)) (hk:kv= .slice (some ⟨k,0,none⟩) 1 1):Tryz.prog.built 133 [(0,p),(1, .string root),(5, .agg (aE.cells ⟨1,0,f,0,⟨b,l,f⟩⟩).toArray),(6,kv)]=some (dk (mo rb mb kv) root ⟨1,0,f,0,⟨b,l,f⟩⟩).toArray:=by subst hp hk;kernel_rfl
theorem nw:(Tryz.prog.info? 9).map (fun i=>(i.zero,i.size,i.bytes))=some (some (.string ⟨#[]⟩),1,16):=by kernel_rfl
theorem xq (g:ay) (root:ByteArray) (w:World) (hg:cM g) (hr:root.size=32):
  Calls Tryz.prog 29 #[g.v, .string root] w fun e w'=>(∃rb mb kv key,e= .returned (.pointer (some ⟨rb,0,none⟩))∧aj key (yK root.data.toList g.first.toNat 0)∧bN w' (mo rb mb kv) (tD g root key)∧(∀x,x∈(mo rb mb kv).foot→w.heap.size≤x))∧Below w.heap.size w w':=by
 obtain⟨b,l,f⟩:=g
 have HG:=Lib.hid hg
 have hrs:(root.size:Int)=32:=by omega
 have HRS:=Lib.hid hr
 clear hg hr
 go_enter Tryz.func29,Tryz.ntmps29
 go_wp2_with (first
  |((with_reducible refine ag 69 (.tmp 0) (ay.cells ⟨b,l,f⟩) (some 2) ?hgd ?ho ?hd ?hx ?_);(case hgd|ho|hd|hx=>rfl);(intro b2 w1 l1 B1 e1 z1))
  |((with_reducible refine ae 69 (.tmp 2) b2 0 ((ay.cells ⟨b,l,f⟩)) _ (some 8) (B1.range) Tryz.underlying69 rfl bu ?hg ?ho ?hds ?hx ?_);(case ho|hg|hds|hx=>rfl))
  |fail)
 have HX1:=Lib.hid B1
 have HBE1:=Lib.hid (e1.mono l1)
 clear B1 e1 z1 l1
 refine(BR ⟨b,l,f⟩ _ HG.out).mono ?_
 rintro e w2 ⟨⟨mb,rfl,hm2,hl2⟩,hb2⟩
 have HX2:=Lib.hid (HX1.out.below hb2 HX1.out.lt)
 have HBE2:=Lib.hid (HBE1.out.trans (hb2.mono HBE1.out.size))
 have HM2:=Lib.hid hm2
 have HLM:=Lib.hid (Nat.le_trans HBE1.out.size hl2)
 clear hm2 hl2 hb2
 have x2:=HX2.out.cell (i:=2) rfl
 go_wp2_with fail
 refine(Ei root f f _).mono ?_
 rintro e w3 ⟨he,hb3⟩
 unfold AtEnd at he
 have hok:∃r,e= .returned (.tuple #[.string r, .int .i64 0])∧aj r (yK root.data.toList f.toNat 0):=by
  have h1:=HG.out.f0
  have h2:=HG.out.f1
  simp only at h1 h2
  have h3:root.data.toList.length=32:=by have:=HRS.out;exact this
  rcases he with⟨_,r,h4,h5⟩|⟨h4,_⟩|⟨h4,_⟩
  ·exact⟨r,h4,by rw[show(f-f).toNat=0 by omega]at h5;exact h5⟩
  ·exfalso;rcases h4 with h|h|h|h|h<;>first|omega|exact h h3
  ·exfalso;omega
 clear he
 obtain⟨key,rfl,tk⟩:=hok
 have HTK:=Lib.hid tk
 have HX3:=Lib.hid (HX2.out.below hb3 HX2.out.lt)
 have HBE3:=Lib.hid (HBE2.out.trans (hb3.mono HBE2.out.size))
 have HM3:=Lib.hid (HM2.out.below hb3)
 clear hb3 tk x2
 have x0:=HX3.out.cell (i:=0) rfl
 have x1:=HX3.out.cell (i:=1) rfl
 have x2:=HX3.out.cell (i:=2) rfl
 go_wp2_with (first
  |((with_reducible refine aw 130 ?partsu (aE.cells ⟨1,0,f,0,⟨b,l,f⟩⟩) ?hg ?ho ?hf ?_);(case hg|ho=>rfl);(case hf=>exact zx b l f))
  |((with_reducible refine aS 30 9 1 ?partss [.string key] (.string ⟨#[]⟩) 1 16 (some 33) Tryz.underlying30 nw (by omega) (by omega) ?hgd ?ho ?hd ?hf ?_);(case hgd|ho|hd=>rfl);(case hf=>kernel_rfl);(intro g4 w4 l4 B4 e4 z4))
  |((with_reducible refine aw 133 ?partsv (dk (mo w4.heap.size mb (.slice (some ⟨g4,0,none⟩) 1 1)) root ⟨1,0,f,0,⟨b,l,f⟩⟩) ?hg ?ho ?hf ?_);(case hg|ho=>rfl);(case hf=>(refine Eq.trans ?_ (zy (.pointer (some ⟨mb,0,none⟩)) (.slice (some ⟨g4,0,none⟩) 1 1) w4.heap.size mb g4 root b l f rfl rfl);kernel_rfl)))
  |((with_reducible refine ag 133 (.tmp 34) (dk (mo w4.heap.size mb (.slice (some ⟨g4,0,none⟩) 1 1)) root ⟨1,0,f,0,⟨b,l,f⟩⟩) (some 35) ?hgd ?ho ?hd ?hx ?_);(case hgd|ho|hd|hx=>rfl);(intro b35 w5 l5 B5 e5 z5))
  |fail)
 go_ret
 have hb4:Below w3.heap.size w3 w4:=e4.mono l4
 have hb5:Below w4.heap.size w4 w5:=e5.mono l5
 have h34:=hb4.size
 have h03:=HBE3.out.size
 refine⟨⟨b35,mb, .slice (some ⟨g4,0,none⟩) 1 1,key,rfl,HTK.out,⟨B5,(HM3.out.below hb4).below hb5,World.ownsRow_nil _ _ _ _,World.ownsRow_nil _ _ _ _,World.ownsRow_nil _ _ _ _, ?_,World.ownsRow_nil _ _ _ _,fun k hk=>by cases hk⟩,fun x hx=> ?_⟩,(HBE3.out.trans (hb4.mono h03)).trans (hb5.mono (by omega))⟩
 ·exact FO (n:=1) (m:=1) (cs:=[.string key]) (B4.below hb5 B4.lt) rfl (by decide)
 ·rw[bY.mem]at hx
  have h1:=HLM.out
  simp only[mo,Value.ownBlock]at hx
  rcases hx with rfl|rfl|hx|hx|hx|hx|hx|hx|hx<;>first|omega|(cases hx;done)|(injection hx with hx;omega)
def lT (r:dj):aE:=⟨r.sup.gen+1,r.cells.length,bh r.first r.recs,r.clock,r.sup.geo⟩
theorem re (i:bY) (r:dj) (w:World) (h:bN w i r) (f0:0≤r.first) (f1:r.first≤4294967295) (hn:r.recs.length≤1048576) (g0:0≤r.sup.gen) (g1:r.sup.gen≤1099511627776):
  Calls Tryz.prog 74 #[.pointer (some ⟨i.rb,0,none⟩)] w fun e w'=>e= .returned (.tuple #[])∧cS w w' i i {r with sup:=lT r}∧aa [i.rb] w w':=by
 have H0:=Lib.hid h
 obtain⟨E,hE⟩:∃E,bh r.first r.recs=E:=⟨_,rfl⟩
 have HEP:=Lib.hid (fun(wx:World) (hx:dy wx i.mb r.first i.lv r.recs)=>show Calls Tryz.prog 71 #[.pointer (some ⟨i.mb,5,none⟩)] wx fun e w'=>e= .returned (.int .i64 E)∧wx=w' from by rw[←hE];exact jp i.mb r.first i.lv r.recs wx hx f0 f1 hn)
 obtain⟨p,c,hcv⟩:=aT h.cells
 obtain⟨n,hnl⟩:∃n,r.cells.length=n:=⟨_,rfl⟩
 rw[hnl]at hcv
 obtain⟨⟨gen,tail,epoch,clock,⟨gb,gl,gf⟩⟩,hs⟩:∃s,r.sup=s:=⟨_,rfl⟩
 rw[hs]at g0 g1
 simp only at g0 g1
 have hwg:IntKind.i64.wrap (gen+1)=gen+1:=IntWalk.i64_in _ (by omega)
 have HFI:=Lib.hid (show lT r=⟨gen+1,n,E,r.clock,⟨gb,gl,gf⟩⟩from by unfold lT;rw[hs,hnl,hE])
 have HB0:=Lib.hid (show ab w i.rb [.pointer (some ⟨i.mb,0,none⟩), .string r.root, .slice p n c,i.sv,i.hv, .int .i64 gen, .int .i64 tail, .int .i64 epoch, .int .i64 clock, .int .i64 gb, .int .i64 gl, .int .i64 gf,i.kv,i.av] 133 from by have:=h.blk;rw[hs]at this;unfold dk at this;rw[hcv]at this;exact this)
 have HCV:=Lib.hid hcv
 clear h f0 f1 hn hE hcv hnl hs g0 g1
 go_enter Tryz.func74,Tryz.ntmps74
 have c5:=HB0.out.cell (i:=5) rfl
 have f5:=HB0.out.free 5
 go_upto_region 1 with fail
 obtain⟨w1,hw1⟩:∃wz,wz=w.setCell ⟨i.rb,5,none⟩ (.int .i64 (gen+1)):=⟨_,rfl⟩
 have HB1:=Lib.hid (show ab w1 i.rb _ 133 from by rw[hw1];exact HB0.out.set 5 (.int .i64 (gen+1)))
 have HT1:=Lib.hid (show aa [i.rb] w w1 from by rw[hw1];exact(aa.refl [i.rb] w).setCell (b:=i.rb) (.inl (by simp)) 5 _)
 rw[←hw1]
 clear hw1 c5 f5
 have c2:=HB1.out.cell (i:=2) rfl
 have f6:=HB1.out.free 6
 have c6:=HB1.out.cell (i:=6) rfl
 go_upto_region 2 with fail
 obtain⟨w2,hw2⟩:∃wz,wz=w1.setCell ⟨i.rb,6,none⟩ (.int .i64 n):=⟨_,rfl⟩
 have HB2:=Lib.hid (show ab w2 i.rb _ 133 from by rw[hw2];exact HB1.out.set 6 (.int .i64 n))
 have HT2:=Lib.hid (show aa [i.rb] w w2 from by rw[hw2];exact HT1.out.setCell (b:=i.rb) (.inl (by simp)) 6 _)
 rw[←hw2]
 clear hw2 c2 f6 c6
 have c0:=HB2.out.cell (i:=0) rfl
 have HA2:=Lib.hid (H0.out.mdl.book.turned HT2.out (fun e=>absurd (e ▸ H0.out.mdl.blk.ty|>.eq H0.out.blk.ty) (by decide)) (fun k hk e=>absurd ((ap H0.out.mdl.recs hk).eq (e ▸ H0.out.blk.ty)) (by decide)))
 go_wp2_with fail
 refine(HEP.out _ HA2.out).mono ?_
 rintro e w' ⟨rfl,rfl⟩
 clear c0
 have f7:=HB2.out.free 7
 have c7:=HB2.out.cell (i:=7) rfl
 go_upto_region 3 with fail
 obtain⟨w3,hw3⟩:∃wz,wz=w2.setCell ⟨i.rb,7,none⟩ (.int .i64 E):=⟨_,rfl⟩
 have HB3:=Lib.hid (show ab w3 i.rb _ 133 from by rw[hw3];exact HB2.out.set 7 (.int .i64 E))
 have HT3:=Lib.hid (show aa [i.rb] w w3 from by rw[hw3];exact HT2.out.setCell (b:=i.rb) (.inl (by simp)) 7 _)
 rw[←hw3]
 clear hw3 f7 c7
 have c0:=HB3.out.cell (i:=0) rfl
 have f8:=HB3.out.free 8
 have c8:=HB3.out.cell (i:=8) rfl
 have c4:=(HT3.out.blk H0.out.mdl.blk (fun hm=>by simp at hm;exact absurd ((hm ▸ H0.out.mdl.blk.ty).eq H0.out.blk.ty) (by decide))).cell (i:=4) rfl
 go_wp2_with fail
 obtain⟨w4,hw4⟩:∃wz,wz=w3.setCell ⟨i.rb,8,none⟩ (.int .i64 r.clock):=⟨_,rfl⟩
 have HB4:=Lib.hid (show ab w4 i.rb _ 133 from by rw[hw4];exact HB3.out.set 8 (.int .i64 r.clock))
 have HT4:=Lib.hid (show aa [i.rb] w w4 from by rw[hw4];exact HT3.out.setCell (b:=i.rb) (.inl (by simp)) 8 _)
 rw[←hw4]
 clear hw4 c0 f8 c8 c4
 (try simp only[Exit.inBlock,Exit.then]);refine bodyPost_end (results_none rfl _ _ _) rfl ⟨rfl, ?_,HT4.out⟩
 refine H0.out.put_sup HT4.out ?_
 rw[HFI.out]
 unfold dk
 rw[HCV.out]
 exact HB4.out
theorem zz (n:Int):Tryz.prog.built 340 [(0, .int .i64 n)]=some ([.int .i64 n, .slice none 0 0]:List Value).toArray:=by kernel_rfl
theorem Ej (c:dq):c.cells.length=5:=rfl
theorem qj (i:bY) (r:dj) (epoch:Int) (w:World) (h:bN w i r) (hc:∀x,x∈r.cells→x.slot<0) (hn:r.cells.length≤1048576):
  Calls Tryz.prog 166 #[.pointer (some ⟨i.rb,0,none⟩), .int .i64 epoch] w fun e w'=>e= .returned (.slice none 0 0)∧Below w.heap.size w w':=by
 have H0:=Lib.hid h
 have HC:=Lib.hid hc
 obtain⟨p,c,hcv⟩:=aT h.cells
 obtain⟨n,hnl⟩:∃n,r.cells.length=n:=⟨_,rfl⟩
 rw[hnl]at hcv
 have hnb:n≤1048576:=by omega
 have HCV:=Lib.hid hcv
 have HN:=Lib.hid hnl
 clear h hc hn hcv hnl
 go_enter Tryz.func166,Tryz.ntmps166
 go_wp2_with (first
  |((with_reducible refine aw 340 ?parts [.int .i64 epoch, .slice none 0 0] ?hg ?ho ?hf ?_);(case hg|ho=>rfl);(case hf=>exact zz epoch))
  |((with_reducible refine ag 340 (.tmp 9) [.int .i64 epoch, .slice none 0 0] (some 10) ?hgd ?ho ?hd ?hx ?_);(case hgd|ho|hd|hx=>rfl);(intro b10 w1 l1 B1 e1 z1))
  |fail)
 have HX1:=Lib.hid B1
 have HBE1:=Lib.hid (e1.mono l1)
 clear B1 e1 z1 l1
 go_loopw [6] (fun vi wr=>∃k:Nat,k≤n∧vi= .int .i64 k∧Hid (Below w1.heap.size w1 wr)) (fun vi _=>n-(intOf vi).toNat)
 case atStart=>exact⟨0,Nat.zero_le _,rfl,Lib.hid (Below.refl _ _)⟩
 case round=>
  obtain⟨k,hk,rfl,HB⟩:=hrel
  have HH:=Lib.hid ((H0.out.below HBE1.out).below HB.out)
  have c2:wr.cell? ⟨i.rb,2,none⟩=some (.slice p n c):=by rw[←HCV.out];exact HH.out.blk.cell (i:=2) rfl
  by_cases hlt:k<n
  ·have hlt':(k:Int)<(n:Int):=by omega
   obtain⟨x,hx⟩:∃x,r.cells[k]?=some x:=⟨_,List.getElem?_eq_getElem (by have:=HN.out;omega)⟩
   obtain⟨g,cap,he,hgl,hr⟩:=kz Ej HH.out.cells hx (by have:=HN.out;omega)
   rw[HCV.out,HN.out]at he
   injection he with he _ hcc
   subst he hcc
   have HR:=Lib.hid hr
   have hxs:¬0≤x.slot:=by have:=HC.out x (List.mem_of_getElem? hx);omega
   clear hr hx hgl
   go_wp2_with (first
    |((with_reducible refine ae 162 (.tmp 25) g (k*5) (x.cells) _ (some 26) (HR.out) Tryz.underlying162 rfl uB ?hg ?ho ?hds ?hx ?_);(case ho|hg|hds|hx=>rfl))
    |((with_reducible refine ai 162 _ zeroCell (some 7) ?hgd ?ho ?hd ?_);(case hgd|ho|hd=>rfl);(intro b7 w2 l2 B2 e2 z2))
    |((with_reducible refine af 162 (.tmp 7) (.tmp 26) b7 E8 x.cells 162 B2 rfl uB (uD _) ?hgd ?ho ?hx ?hy ?_);(case hgd|ho|hx|hy=>rfl);(intro w3 B3 o3;have y1:=B3.cell (i:=1) rfl))
    |fail)
   go_roundw
   case rel=>exact⟨k+1,by omega,by go_num,Lib.hid (HB.out.trans ((o3.below (e2.mono l2) l2).mono HB.out.size))⟩
   case measure=>simp[intOf];omega
  ·obtain rfl:k=n:=by omega
   have y1:wr.cell? ⟨b10,1,none⟩=some (.slice none 0 0):=(HX1.out.below HB.out HX1.out.lt).cell (i:=1) rfl
   go_wp2_with fail
   go_ret
   exact⟨rfl,HBE1.out.trans (HB.out.mono HBE1.out.size)⟩
theorem qk (w:World):
  Calls Tryz.prog 168 #[.slice none 0 0] w fun e w'=>e= .returned (.slice none 0 0)∧w=w':=by
 go_enter Tryz.func168,Tryz.ntmps168
 go_wp2_with fail
 go_loopw [3,4] (fun vo vi wr=>vo= .slice none 0 0∧vi= .int .i64 0∧wr=w) (fun _ _ _=>0)
 case atStart=>exact⟨rfl,rfl,rfl⟩
 case round=>
  obtain⟨rfl,rfl,rfl⟩:=hrel
  go_wp2_with fail
  go_ret
  exact⟨rfl,rfl⟩
theorem sN (w:World):
  Calls Tryz.prog 167 #[.slice none 0 0] w fun e w'=>∃s,e= .returned (.string s)∧aj s (dm [])∧Below w.heap.size w w':=by
 go_enter Tryz.func167,Tryz.ntmps167
 go_wp2_with fail
 refine(kZ ⟨#[]⟩ _ (by decide)).mono ?_
 rintro e w1 ⟨s,rfl,ts,hb⟩
 have HTS:=Lib.hid ts
 have HB:=Lib.hid hb
 clear ts hb
 go_wp2_with fail
 go_ret
 exact⟨s,rfl,HTS.out,HB.out⟩
end Go.Proofs.YtgimkmclgjfddaaGreat
