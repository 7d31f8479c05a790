/- What is read is of machine size (chapter 27). No program in sight. What a volume answers a hello; the example of chapter 29. Walk of the documents' bare of a message (chapter 27): what its kind says alone. -/
import Derived.Test.YtgimkmclgjfddaaGreatQ30
import Derived.Test.YtgimkmclgjfddaaGreatQ29
import Derived.Test.YtgimkmclgjfddaaGreatQ24
import Derived.Test.YtgimkmclgjfddaaGreatQ16
import Derived.Laws.EntriesVeiled
import Derived.Defers
import Derived.Recover
import Derived.Deep.RegionHeld3
import Derived.Deep.MidRow
import Derived.Test.YtgimkmclgjfddaaGreatQ9
set_option linter.unusedSimpArgs false
set_option linter.unusedVariables false
set_option maxRecDepth 100000
set_option maxHeartbeats 4000000
namespace Go.Proofs.YtgimkmclgjfddaaGreat
open Go
theorem EG {y x:ByteArray} {s s':List UInt8} (h:cH true y s=some (x,s')):x.size≤32:=by
 unfold cH at h
 rw[if_pos rfl]at h
 split at h
 ·cases h
 ·simp only[Option.some.injEq,Prod.mk.injEq]at h
  rw[←h.1]
  show(s.take 32).toArray.size≤32
  rw[List.size_toArray,List.length_take];omega
theorem qw {y x:aM} {s s':List UInt8} (h:dh true y s=some (x,s')) (hy:y.hash.size≤32):x.hash.size≤32:=by
 unfold dh at h
 cases h1:dr true (decide (y≠aM.zero)) s with
 |none=>rw[h1]at h;cases h
 |some p=>
  obtain⟨a,s1⟩:=p
  rw[h1]at h
  cases a with
  |false=>simp only[Option.some.injEq,Prod.mk.injEq]at h;rw[←h.1];exact hy
  |true=>
   simp only at h
   cases h2:bq true 2 y.lba s1 with
   |none=>rw[h2]at h;cases h
   |some p=>
    obtain⟨b,s2⟩:=p
    rw[h2]at h
    simp only at h
    cases h3:cH true y.hash s2 with
    |none=>rw[h3]at h;cases h
    |some p=>
     obtain⟨c,s3⟩:=p
     rw[h3]at h
     simp only[Option.some.injEq,Prod.mk.injEq]at h
     rw[←h.1]
     exact EG h3
structure ii (t:ax):Prop where
 up:t.up.length≤256
 left:t.left.length≤256
 here:t.here.hash.size≤32
 ahead:t.ahead.hash.size≤32
theorem xE {t t':ax} {s s':List UInt8} (h:eQ true t s=some (t',s')) (ht:ii t):ii t':=by
 unfold eQ at h
 cases h1:bq true 4 t.slot s with
 |none=>rw[h1]at h;cases h
 |some p=>
 obtain⟨a1,s1⟩:=p
 rw[h1]at h;simp only at h
 cases h2:textF true t.cipher s1 with
 |none=>rw[h2]at h;cases h
 |some p=>
 obtain⟨a2,s2⟩:=p
 rw[h2]at h;simp only at h
 cases h3:dr true t.found s2 with
 |none=>rw[h3]at h;cases h
 |some p=>
 obtain⟨a3,s3⟩:=p
 rw[h3]at h;simp only at h
 cases h4:bq true 4 t.at_ s3 with
 |none=>rw[h4]at h;cases h
 |some p=>
 obtain⟨a4,s4⟩:=p
 rw[h4]at h;simp only at h
 cases h5:dh true t.here s4 with
 |none=>rw[h5]at h;cases h
 |some p=>
 obtain⟨a5,s5⟩:=p
 rw[h5]at h;simp only at h
 cases h6:dh true t.ahead s5 with
 |none=>rw[h6]at h;cases h
 |some p=>
 obtain⟨a6,s6⟩:=p
 rw[h6]at h;simp only at h
 cases h7:eH true t.up s6 with
 |none=>rw[h7]at h;cases h
 |some p=>
 obtain⟨a7,s7⟩:=p
 rw[h7]at h;simp only at h
 cases h8:eH true t.left s7 with
 |none=>rw[h8]at h;cases h
 |some p=>
 obtain⟨a8,s8⟩:=p
 rw[h8]at h
 simp only[Option.some.injEq,Prod.mk.injEq]at h
 rw[←h.1]
 exact⟨(fX h7 (fun e=>by cases e) (fun e=>by cases e)).2,(fX h8 (fun e=>by cases e) (fun e=>by cases e)).2,qw h5 ht.here,qw h6 ht.ahead⟩
theorem zW {t t':ax} {s s':List UInt8} (h:dA true t s=some (t',s')) (ht:ii t):ii t':=by
 unfold dA at h
 cases h1:fN true t.askE t.askL s with
 |none=>rw[h1]at h;cases h
 |some p=>
 obtain⟨⟨e,l⟩,s1⟩:=p
 rw[h1]at h;simp only at h
 cases h2:dr true t.gone s1 with
 |none=>rw[h2]at h;cases h
 |some p=>
 obtain⟨g,s2⟩:=p
 rw[h2]at h
 cases g with
 |true=>simp only[Option.some.injEq,Prod.mk.injEq]at h;rw[←h.1];exact⟨ht.up,ht.left,ht.here,ht.ahead⟩
 |false=>exact xE h ⟨ht.up,ht.left,ht.here,ht.ahead⟩
theorem bZ.of {m m':ac} (h:bZ m) (h1:m'.told=m.told) (h2:m'.sld.r=m.sld.r) (h3:m'.rcp=m.rcp):bZ m':=
 ⟨h1 ▸ h.up,h1 ▸ h.left,h1 ▸ h.here,h1 ▸ h.ahead,h2 ▸ h.sroot,h2 ▸ h.sname,h2 ▸ h.sepoch,h3 ▸ h.rroot,h3 ▸ h.rname,h3 ▸ h.repoch,h3 ▸ h.rseq⟩
theorem zX {m m':ac} {s s':List UInt8} (h:bI true m s=some (m',s')) (hm:bZ m) (ht:ii m.told):bZ m':=by
 unfold bI at h
 split at h
 ·cases h1:bq true 4 m.epoch s with
  |none=>rw[h1]at h;cases h
  |some p=>rw[h1]at h;simp only[Option.some.injEq,Prod.mk.injEq]at h;rw[←h.1];exact hm.of rfl rfl rfl
 split at h
 ·cases h1:bq true 4 m.epoch s with
  |none=>rw[h1]at h;cases h
  |some p=>
  rw[h1]at h;simp only at h
  cases h2:bq true 4 m.seq p.2 with
  |none=>rw[h2]at h;cases h
  |some p2=>
  rw[h2]at h;simp only at h
  cases h3:cH true m.last p2.2 with
  |none=>rw[h3]at h;cases h
  |some p3=>rw[h3]at h;simp only[Option.some.injEq,Prod.mk.injEq]at h;rw[←h.1];exact hm.of rfl rfl rfl
 split at h
 ·cases h1:bq true 4 m.seq s with
  |none=>rw[h1]at h;cases h
  |some p=>rw[h1]at h;simp only[Option.some.injEq,Prod.mk.injEq]at h;rw[←h.1];exact hm.of rfl rfl rfl
 split at h
 ·cases h1:bq true 4 m.seq s with
  |none=>rw[h1]at h;cases h
  |some p=>
  rw[h1]at h;simp only at h
  cases h2:mx true m.sld.r p.2 with
  |none=>rw[h2]at h;cases h
  |some p2=>
  rw[h2]at h;simp only at h
  cases h3:cH true m.sld.tag p2.2 with
  |none=>rw[h3]at h;cases h
  |some p3=>
   rw[h3]at h
   simp only[Option.some.injEq,Prod.mk.injEq]at h
   have hr:bL p.2=some (p2.1,p2.2):=by simpa[mx]using h2
   have hf:=dd (iI hr).2
   rw[←h.1]
   exact⟨hm.up,hm.left,hm.here,hm.ahead,by show p2.1.root.size≤_;omega,by show p2.1.name.size≤_;omega,by show Fits p2.1.epoch;exact⟨by omega,by omega⟩,hm.rroot,hm.rname,hm.repoch,hm.rseq⟩
 split at h
 ·cases h1:fN true m.askE m.askL s with
  |none=>rw[h1]at h;cases h
  |some p=>rw[h1]at h;simp only[Option.some.injEq,Prod.mk.injEq]at h;rw[←h.1];exact hm.of rfl rfl rfl
 split at h
 ·cases h1:dA true m.told s with
  |none=>rw[h1]at h;cases h
  |some p=>
   rw[h1]at h
   have:=zW h1 ht
   simp only[Option.some.injEq,Prod.mk.injEq]at h
   rw[←h.1]
   exact⟨by have:=this.up;show p.1.up.length≤_;omega,by have:=this.left;show p.1.left.length≤_;omega,by have:=this.here;show p.1.here.hash.size≤_;omega,by have:=this.ahead;show p.1.ahead.hash.size≤_;omega,hm.sroot,hm.sname,hm.sepoch,hm.rroot,hm.rname,hm.repoch,hm.rseq⟩
 split at h
 ·cases h1:my true m.rcp s with
  |none=>rw[h1]at h;cases h
  |some p=>
   rw[h1]at h
   have hr:cT s=some (p.1,p.2):=by simpa[my]using h1
   have hok:=(nz hr).2
   have hf:=dd (kS hok).1
   simp only[cD,Bool.and_eq_true,decide_eq_true_eq]at hok
   simp only[Option.some.injEq,Prod.mk.injEq]at h
   rw[←h.1]
   exact⟨hm.up,hm.left,hm.here,hm.ahead,hm.sroot,hm.sname,hm.sepoch,by show p.1.r.root.size≤_;omega,by show p.1.r.name.size≤_;omega,by show Fits p.1.r.epoch;exact⟨by omega,by omega⟩,by show Fits p.1.seq;exact⟨by omega,by omega⟩⟩
 ·simp only[Option.some.injEq,Prod.mk.injEq]at h
  rw[←h.1];exact hm
theorem rO:bZ ac.zero:=⟨by decide,by decide,by decide,by decide,by decide,by decide,by unfold Fits;decide,by decide,by decide,by unfold Fits;decide,by unfold Fits;decide⟩
theorem EH (k:Int):bZ {ac.zero with kind:=k}:=rO.of rfl rfl rfl
theorem CV:ii ax.zero:=⟨by decide,by decide,by decide,by decide⟩
theorem zY {s s':List UInt8} {m:ac} (h:iR s=some (m,s')):bZ m:=by
 unfold iR at h
 cases h1:bq true 1 0 s with
 |none=>rw[h1]at h;cases h
 |some p=>
 obtain⟨k,s1⟩:=p
 rw[h1]at h;simp only at h
 unfold aB at h
 have hz:=EH k
 have hzt:ii ({ac.zero with kind:=k}:ac).told:=CV
 cases h2:bi true {ac.zero with kind:=k} s1 with
 |none=>rw[h2]at h;cases h
 |some p=>
 obtain⟨m1,s2⟩:=p
 rw[h2]at h;simp only at h
 have hm1:m1.told=({ac.zero with kind:=k}:ac).told∧m1.sld.r=({ac.zero with kind:=k}:ac).sld.r∧m1.rcp=({ac.zero with kind:=k}:ac).rcp:=by
  unfold bi at h2
  split at h2
  ·simp only[Option.some.injEq,Prod.mk.injEq]at h2;rw[←h2.1];exact⟨rfl,rfl,rfl⟩
  ·cases h3:cH true ({ac.zero with kind:=k}:ac).nonce s1 with
   |none=>rw[h3]at h2;cases h2
   |some p=>rw[h3]at h2;simp only[Option.some.injEq,Prod.mk.injEq]at h2;rw[←h2.1];exact⟨rfl,rfl,rfl⟩
 have t1:=hz.of hm1.1 hm1.2.1 hm1.2.2
 cases h4:bI true m1 s2 with
 |none=>rw[h4]at h;cases h
 |some p=>
 obtain⟨m2,s3⟩:=p
 rw[h4]at h;simp only at h
 have t2:=zX h4 t1 (by rw[hm1.1];exact hzt)
 unfold cI at h
 split at h
 ·cases h5:cH true m2.tag s3 with
  |none=>rw[h5]at h;cases h
  |some p=>rw[h5]at h;simp only[Option.some.injEq,Prod.mk.injEq]at h;rw[←h.1];exact t2.of rfl rfl rfl
 ·simp only[Option.some.injEq,Prod.mk.injEq]at h;rw[←h.1];exact t2
open Go.RowKit
def dM (nonce:ByteArray):ac:={ac.zero with kind:=1,nonce:=nonce}
def pE (epoch:Int) (nonce:ByteArray):ac:={ac.zero with kind:=2,epoch:=epoch,nonce:=nonce}
theorem vF (nonce:ByteArray):bZ (dM nonce):=by
 obtain⟨a,b,c,d,e,f,g,h,i,j,k⟩:=rO
 exact⟨a,b,c,d,e,f,g,h,i,j,k⟩
theorem zZ {nonce:ByteArray} (h:nonce.size=32):dP (dM nonce)=true:=by
 have h1:aX (dM nonce)=true:=by unfold aX;rfl
 have h2:mq (aP (dM nonce))=true:=by
  have:aP (dM nonce)={ac.zero with kind:=1,nonce:=nonce}:=rfl
  rw[this]
  unfold mq
  simp[ac.zero,az]
 unfold dP
 rw[h1,h2]
 simp[dM,az,h]
theorem Aa (s:ByteArray):Tryz.prog.built 39 [(0, .int .i64 1),(3, .string s)]=some ((dM s).cells (.slice none 0 0) (.slice none 0 0)).toArray:=by kernel_rfl
theorem Gm (n:Int) (s:ByteArray):Tryz.prog.built 39 [(0, .int .i64 2),(3, .string s),(1, .int .i64 n)]=some ((pE n s).cells (.slice none 0 0) (.slice none 0 0)).toArray:=by kernel_rfl
theorem xF (vb:Nat) (epoch:Int) (key:ByteArray):Tryz.prog.built 78 [(0, .pointer (some ⟨vb,0,none⟩)),(1, .int .i64 epoch),(2, .string key)]=some ([.pointer (some ⟨vb,0,none⟩), .int .i64 epoch, .string key]:List Value).toArray:=by kernel_rfl
theorem eS (w:World):(zeroValue 39).run Tryz.prog w= .ok (.agg (ac.cells ac.zero (.slice none 0 0) (.slice none 0 0)).toArray) w:=by kernel_rfl
theorem Ab (w:World):(zeroValue 78).run Tryz.prog w= .ok (.agg ([.pointer none, .int .i64 0, .string ⟨#[]⟩]:List Value).toArray) w:=by kernel_rfl
theorem mE {a b c:Value}:(Tryz.prog.info? 78).map (·.size)=some ([a,b,c]:List Value).length:=by kernel_rfl
theorem CW (vb:Nat) (epoch:Int) (key:ByteArray):∀x∈([.pointer (some ⟨vb,0,none⟩), .int .i64 epoch, .string key]:List Value),x.oneCell'=true:=by
 intro x hx;simp only[List.mem_cons,List.mem_nil_iff,or_false]at hx;rcases hx with rfl|rfl|rfl<;>rfl
theorem fZ (m:ac):∀x∈m.cells (.slice none 0 0) (.slice none 0 0),x.oneCell'=true:=by
 intro x hx
 simp only[ac.cells,List.mem_cons,List.mem_nil_iff,or_false]at hx
 rcases hx with rfl|rfl|rfl|rfl|rfl|rfl|rfl|rfl|rfl|rfl|rfl|rfl|rfl|rfl|rfl|rfl|rfl|rfl|rfl|rfl|rfl|rfl|rfl|rfl|rfl|rfl|rfl|rfl|rfl|rfl|rfl|rfl|rfl|rfl|rfl|rfl|rfl|rfl|rfl|rfl|rfl<;>rfl
theorem sW (i:aV) (v:bk) (w:World) (h:bA w i v):
  Calls Tryz.prog 15 #[.pointer (some ⟨i.vb,0,none⟩)] w fun e w'=>e= .returned (.tuple #[.int .i64 v.epoch, .string v.key, .string v.data])∧w'=w.drew:=
 wR i.vb i.jb i.bb i.c2 i.m1 i.m2 i.m3 v.first v.epoch v.key v.data _ _ _ _ w h.vol h.book
theorem EI (vb:Nat) (epoch:Int) (key nonce:ByteArray) (w:World):
  Calls Tryz.prog 18 #[.agg ([.pointer (some ⟨vb,0,none⟩), .int .i64 epoch, .string key]:List Value).toArray,(dM nonce).v (.slice none 0 0) (.slice none 0 0)] w fun e w'=>e= .returned (.tuple #[(pE epoch nonce).v (.slice none 0 0) (.slice none 0 0), .bool true])∧Below w.heap.size w w':=by
 go_enter Tryz.func18,Tryz.ntmps18
 go_upto_region 1 with(first
  |((with_reducible refine ag 78 (.tmp 0) [.pointer (some ⟨vb,0,none⟩), .int .i64 epoch, .string key] (some 2) ?hgd ?ho ?hd ?hx ?_);(case hgd|ho|hd|hx=>rfl);(intro b2 w1 l1 B1 e1 z1))
  |((with_reducible refine ag 39 (.tmp 1) (ac.cells (dM nonce) (.slice none 0 0) (.slice none 0 0)) (some 3) ?hgd ?ho ?hd ?hx ?_);(case hgd|ho|hd|hx=>rfl);(intro b3 w2 l2 B2 e2 z2))
  |((with_reducible refine ai 39 _ eS (some 4) ?hgd ?ho ?hd ?_);(case hgd|ho|hd=>rfl);(intro b4 w3 l3 B3 e3 z3))
  |fail)
 have L2:w.heap.size≤b3:=Nat.le_trans l1 (Nat.le_trans (Nat.le_of_lt z1) l2)
 have L3:w.heap.size≤b4:=Nat.le_trans L2 (Nat.le_trans (Nat.le_of_lt z2) l3)
 have HX2:=Lib.hid ((B1.below e2 (Nat.lt_of_lt_of_le z1 l2)).below e3 (Nat.lt_of_lt_of_le z1 (Nat.le_trans l2 (Nat.le_trans (Nat.le_of_lt z2) l3))))
 have HX3:=Lib.hid (B2.below e3 (Nat.lt_of_lt_of_le z2 l3))
 have HX4:=Lib.hid B3
 have HB3:=Lib.hid (show Below w.heap.size w w3 from((e1.mono l1).trans (e2.mono L2)).trans (e3.mono L3))
 have HL4:=Lib.hid L3
 clear L2 L3 B1 B2 B3 e1 e2 e3 z1 z2 z3 l1 l2 l3
 have x3:=HX3.out.cell (i:=3) rfl
 have x1:=HX2.out.cell (i:=1) rfl
 go_wp2_with (first
  |((with_reducible refine aw 39 ?parts (ac.cells (pE epoch nonce) (.slice none 0 0) (.slice none 0 0)) ?hg ?ho ?hf ?_);(case hg|ho=>rfl);(case hf=>exact(Gm epoch nonce)))
  |((with_reducible refine af 39 (.tmp 4) (.tmp 10) b4 (ac.cells ac.zero (.slice none 0 0) (.slice none 0 0)) (ac.cells (pE epoch nonce) (.slice none 0 0) (.slice none 0 0)) 39 HX4.out rfl bn (fZ _) ?hgd ?ho ?hx ?hy ?_);(case hgd|ho|hx|hy=>rfl);(intro w4 B4 o4))
  |fail)
 (try simp only[Exit.inBlock,Exit.then]);refine bodyPost_ret (bQ rfl _ _ B4.range rfl Tryz.underlying39 rfl bn) rfl ⟨rfl,o4.below HB3.out HL4.out⟩
theorem sX (i:aV) (v:bk) (nonce:ByteArray) (w:World) (h:bA w i v) (hk:v.key.size=32) (hn:nonce.size=32):
  Calls Tryz.prog 6 #[.pointer (some ⟨i.vb,0,none⟩),(dM nonce).v (.slice none 0 0) (.slice none 0 0)] w fun e w'=>e= .returned (.tuple #[(pE v.epoch nonce).v (.slice none 0 0) (.slice none 0 0), .bool true])∧Below w.heap.size w w':=by
 have H0:=Lib.hid h
 have HN:=Lib.hid hn
 have hmk:∀(fn:Fn) (first cap:Array Value) (w:World),(Instr.makeFunc fn first cap).run Tryz.prog w= .ok (.func fn first cap) w:=fun _ _ _ _=>rfl
 have ek:(v.key.toList==([]:List UInt8))=false:=by
  rw[zN];exact decide_eq_false (fun e=>by rw[e]at hk;cases hk)
 clear h hn hk
 go_enter Tryz.func6,Tryz.ntmps6
 go_wp2_with (first
  |((with_reducible refine ag 39 (.tmp 1) (ac.cells (dM nonce) (.slice none 0 0) (.slice none 0 0)) (some 3) ?hgd ?ho ?hd ?hx ?_);(case hgd|ho|hd|hx=>rfl);(intro b3 w1 l1 B1 e1 z1))
  |((with_reducible refine ai 39 _ eS (some 4) ?hgd ?ho ?hd ?_);(case hgd|ho|hd=>rfl);(intro b4 w2 l2 B2 e2 z2))
  |fail)
 have L2:w.heap.size≤b4:=Nat.le_trans l1 (Nat.le_trans (Nat.le_of_lt z1) l2)
 have HX3:=Lib.hid (B1.below e2 (Nat.lt_of_lt_of_le z1 l2))
 have HX4:=Lib.hid B2
 have HL4:=Lib.hid L2
 have HB2:=Lib.hid ((e1.mono l1).trans (e2.mono L2))
 have HV2:=Lib.hid (H0.out.below HB2.out)
 clear B1 B2 e1 e2 z1 z2 l1 l2 L2
 refine(sW i v _ HV2.out).mono ?_
 rintro e w3 ⟨rfl,hw3⟩
 have hb3:Below w2.heap.size w2 w3:=by rw[hw3];exact(Below.refl _ _).drew
 clear hw3
 have HX3w:=Lib.hid (HX3.out.below hb3 HX3.out.lt)
 have HX4w:=Lib.hid (HX4.out.below hb3 HX4.out.lt)
 have HB3:=Lib.hid (HB2.out.trans (hb3.mono HB2.out.size))
 clear hb3
 go_wp2_with (first
  |((with_reducible refine ae 39 (.tmp 3) b3 0 ((ac.cells (dM nonce) (.slice none 0 0) (.slice none 0 0))) _ (some 20) (HX3w.out.range) Tryz.underlying39 rfl bn ?hg ?ho ?hds ?hx ?_);(case ho|hg|hds|hx=>rfl))
  |fail)
 refine(iQ (dM nonce) _ _ _ (aJ.nil _ _) (aJ.nil _ _) (vF nonce)).mono ?_
 rintro e w5 ⟨he,hb5⟩
 rw[pC (zZ HN.out)]at he
 subst he
 have HX3v:=Lib.hid (HX3w.out.below hb5 HX3w.out.lt)
 have HX4v:=Lib.hid (HX4w.out.below hb5 HX4w.out.lt)
 have HB5:=Lib.hid (HB3.out.trans (hb5.mono HB3.out.size))
 clear hb5
 go_upto_region 5 with(first
  |((with_reducible refine aw 78 ?parts ([.pointer (some ⟨i.vb,0,none⟩), .int .i64 v.epoch, .string v.key]:List Value) ?hg ?ho ?hf ?_);(case hg|ho=>rfl);(case hf=>exact(xF i.vb v.epoch v.key)))
  |((with_reducible refine ai 78 _ Ab (some 9) ?hgd ?ho ?hd ?_);(case hgd|ho|hd=>rfl);(intro b9 w6 l6 B6 e6 z6))
  |((with_reducible refine af 78 (.tmp 9) (.tmp 28) b9 [.pointer none, .int .i64 0, .string ⟨#[]⟩] [.pointer (some ⟨i.vb,0,none⟩), .int .i64 v.epoch, .string v.key] 78 B6 rfl mE (CW _ _ _) ?hgd ?ho ?hx ?hy ?_);(case hgd|ho|hx|hy=>rfl);(intro w7 B7 o7))
  |fail)
 have hb7:Below w5.heap.size w5 w7:=o7.below (e6.mono l6) l6
 have HX9:=Lib.hid B7
 have HX3u:=Lib.hid (HX3v.out.below hb7 HX3v.out.lt)
 have HX4u:=Lib.hid (HX4v.out.below hb7 HX4v.out.lt)
 have HB7:=Lib.hid (HB5.out.trans (hb7.mono HB5.out.size))
 have x0:=HX3u.out.cell (i:=0) rfl
 clear B6 e6 z6 l6 o7 B7 hb7
 go_wp2_with (first
  |((with_reducible refine ae 78 (.tmp 9) b9 0 ([.pointer (some ⟨i.vb,0,none⟩), .int .i64 v.epoch, .string v.key]) _ (some 29) (HX9.out.range) Tryz.underlying78 rfl mE ?hg ?ho ?hds ?hx ?_);(case ho|hg|hds|hx=>rfl))
  |((with_reducible refine ae 78 (.tmp 9) b9 0 ([.pointer (some ⟨i.vb,0,none⟩), .int .i64 v.epoch, .string v.key]) _ (some 35) (HX9.out.range) Tryz.underlying78 rfl mE ?hg ?ho ?hds ?hx ?_);(case ho|hg|hds|hx=>rfl))
  |((with_reducible refine ae 39 (.tmp 3) b3 0 ((ac.cells (dM nonce) (.slice none 0 0) (.slice none 0 0))) _ (some 50) (HX3u.out.range) Tryz.underlying39 rfl bn ?hg ?ho ?hds ?hx ?_);(case ho|hg|hds|hx=>rfl))
  |fail)
 refine(EI i.vb v.epoch v.key nonce _).mono ?_
 rintro e w8 ⟨rfl,hb8⟩
 have HX4z:=Lib.hid (HX4u.out.below hb8 HX4u.out.lt)
 have HB8:=Lib.hid (HB7.out.trans (hb8.mono HB7.out.size))
 clear hb8 x0
 go_wp2_with (first
  |((with_reducible refine af 39 (.tmp 4) (.tmp 52) b4 (ac.cells ac.zero (.slice none 0 0) (.slice none 0 0)) (ac.cells (pE v.epoch nonce) (.slice none 0 0) (.slice none 0 0)) 39 HX4z.out rfl bn (fZ _) ?hgd ?ho ?hx ?hy ?_);(case hgd|ho|hx|hy=>rfl);(intro w9 B9 o9))
  |fail)
 (try simp only[Exit.inBlock,Exit.then]);refine bodyPost_ret (bQ rfl _ _ B9.range rfl Tryz.underlying39 rfl bn) rfl ⟨rfl,o9.below HB8.out HL4.out⟩
theorem Ac:Tryz.prog.built 69 [(0, .int .i64 12),(1, .int .i64 1)]=some (ay.cells (⟨12,1,0⟩:ay)).toArray:=by kernel_rfl
theorem Ad:(Tryz.prog.info? 72).map (fun i=>(i.zero,i.size,i.bytes))=some (some (.agg tG.cells.toArray),7,88):=by kernel_rfl
theorem xG:Tryz.prog.built 72 [(0, .int .i64 5)]=some dn.cells.toArray:=by kernel_rfl
theorem rm (w:World):
  Calls Tryz.prog 5 #[] w fun e w'=>e= .returned (.bool true)∧Below w.heap.size w w':=by
 have eqs:(((⟨#[48,49,50,51,52,53,54,55,56,57,97,98,99,100,101,102,48,49,50,51,52,53,54,55,56,57,97,98,99,100,101,102]⟩:ByteArray)).toList==([48,49,50,51,52,53,54,55,56,57,97,98,99,100,101,102,48,49,50,51,52,53,54,55,56,57,97,98,99,100,101,102]:List UInt8))=true:=by rw[Lib.toList_data];decide
 go_enter Tryz.func5,Tryz.ntmps5
 go_wp2_with (first
  |((with_reducible refine aw 69 ?pg (ay.cells (⟨12,1,0⟩:ay)) ?hg ?ho ?hf ?_);(case hg|ho=>rfl);(case hf=>exact Ac))
  |((with_reducible refine aw 72 ?pc dn.cells ?hg ?ho ?hf ?_);(case hg|ho=>rfl);(case hf=>exact xG))
  |((with_reducible refine aS 73 72 2 ?ps (dn.cells++dn.cells) (.agg tG.cells.toArray) 7 88 (some 9) Tryz.underlying73 Ad (by omega) (by omega) ?hgd ?ho ?hd ?hf ?_);(case hgd|ho|hd=>rfl);(case hf=>kernel_rfl);(intro g w1 l1 B1 e1 z1))
  |fail)
 have HB1:=Lib.hid (e1.mono l1)
 have HC1:=Lib.hid B1
 clear B1 e1 l1 z1
 refine(vf g _ HC1.out).mono ?_
 rintro e w2 ⟨vb,rb,rfl,hal⟩
 obtain⟨i,v,i',r,KY,hvb,hrb,hv,hr,hdis,hcl,hrv,hvers,hep,hks,hu,hgeo,hsl,hgen,ru,rg,rep,rn1,rn2,rn3,rn4,rn5,rg2,hbe,hfv,hfr⟩:=hal.ex
 subst hvb
 have HV:=Lib.hid hv
 have HK:=Lib.hid hks
 have HE:=Lib.hid (show v.epoch=2 from hep)
 have HB2:=Lib.hid (HB1.out.trans (hbe.mono HB1.out.size))
 clear hal hrb hv hr hdis hcl hrv hvers hep hks hu hgeo hsl hgen ru rg rep rn1 rn2 rn3 rn4 rn5 rg2 hbe hfv hfr
 go_wp2_with (first
  |((with_reducible refine aw 39 ?parts (ac.cells (dM (⟨#[48,49,50,51,52,53,54,55,56,57,97,98,99,100,101,102,48,49,50,51,52,53,54,55,56,57,97,98,99,100,101,102]⟩:ByteArray)) (.slice none 0 0) (.slice none 0 0)) ?hg ?ho ?hf ?_);(case hg|ho=>rfl);(case hf=>exact(Aa (⟨#[48,49,50,51,52,53,54,55,56,57,97,98,99,100,101,102,48,49,50,51,52,53,54,55,56,57,97,98,99,100,101,102]⟩:ByteArray))))
  |fail)
 refine(sX i v (⟨#[48,49,50,51,52,53,54,55,56,57,97,98,99,100,101,102,48,49,50,51,52,53,54,55,56,57,97,98,99,100,101,102]⟩:ByteArray) _ HV.out HK.out rfl).mono ?_
 rintro e w3 ⟨he,hb3⟩
 rw[HE.out]at he
 subst he
 have HB3:=Lib.hid (HB2.out.trans (hb3.mono HB2.out.size))
 clear hb3
 go_upto_region 3 with(first
  |((with_reducible refine ai 39 _ eS (some 3) ?hgd ?ho ?hd ?_);(case hgd|ho|hd=>rfl);(intro b3 w4 l4 B4 e4 z4))
  |((with_reducible refine af 39 (.tmp 3) (.tmp 17) b3 (ac.cells ac.zero (.slice none 0 0) (.slice none 0 0)) (ac.cells (pE 2 (⟨#[48,49,50,51,52,53,54,55,56,57,97,98,99,100,101,102,48,49,50,51,52,53,54,55,56,57,97,98,99,100,101,102]⟩:ByteArray)) (.slice none 0 0) (.slice none 0 0)) 39 B4 rfl bn (fZ _) ?hgd ?ho ?hx ?hy ?_);(case hgd|ho|hx|hy=>rfl);(intro w5 B5 o5))
  |fail)
 have HB5:=Lib.hid (HB3.out.trans ((o5.below (e4.mono l4) l4).mono HB3.out.size))
 have x0:=B5.cell (i:=0) rfl
 have x1:=B5.cell (i:=1) rfl
 have x3:=B5.cell (i:=3) rfl
 clear B4 e4 z4 l4 o5
 go_wp2_with fail
 go_ret
 exact⟨by show Ending.returned (.bool (((⟨#[48,49,50,51,52,53,54,55,56,57,97,98,99,100,101,102,48,49,50,51,52,53,54,55,56,57,97,98,99,100,101,102]⟩:ByteArray)).toList==([48,49,50,51,52,53,54,55,56,57,97,98,99,100,101,102,48,49,50,51,52,53,54,55,56,57,97,98,99,100,101,102]:List UInt8)))= _;rw[eqs],HB5.out⟩
def di:List Value:=ac.zero.cells (.slice none 0 0) (.slice none 0 0)
theorem mF (w:World):Sem.run Tryz.prog (zeroValue 39) w= .ok (.agg di.toArray) w:=by kernel_rfl
theorem qx {m:ac} {u l:Value} {n k:Nat} (hu:∃(p:Option Addr) (c:Nat),u= .slice p n c) (hl:∃(p:Option Addr) (c:Nat),l= .slice p k c):∀v∈m.cells u l,v.oneCell'=true:=by
 obtain⟨p,c,rfl⟩:=hu
 obtain⟨p',c',rfl⟩:=hl
 intro v hv
 simp only[ac.cells,List.mem_cons,List.mem_nil_iff,or_false]at hv
 rcases hv with rfl|rfl|rfl|rfl|rfl|rfl|rfl|rfl|rfl|rfl|rfl|rfl|rfl|rfl|rfl|rfl|rfl|rfl|rfl|rfl|rfl|rfl|rfl|rfl|rfl|rfl|rfl|rfl|rfl|rfl|rfl|rfl|rfl|rfl|rfl|rfl|rfl|rfl|rfl|rfl|rfl<;>rfl
def yD (m:ac) (u l:Value) (e:Ending) (w':World):Prop:=∃u' l',e= .returned ((tJ m).v u' l')∧aN w' u' (tJ m).told.up∧aN w' l' (tJ m).told.left
theorem yD.nil {m y:ac} {u l:Value} {e:Ending} {w':World} (h:e= .returned (y.v (.slice none 0 0) (.slice none 0 0))) (hy:tJ m=y) (h1:y.told.up=[]) (h2:y.told.left=[]):yD m u l e w':=by
 subst hy
 exact⟨_,_,h,h1 ▸ aJ.nil _ _,h2 ▸ aJ.nil _ _⟩
structure Ja (n:Int) (k:Nat):Prop where
 lo:0≤n
 hi:n.toNat<256^k
 fits:n<9223372036854775808
theorem lV:(Tryz.prog.info? 39).map (·.size)=some di.length:=by kernel_rfl
theorem iu:∀v∈di,v.oneCell'=true:=by decide
theorem nI (bm bo:Nat) (cs:List Value) (x:Bool) (w:World) (hl:cs.length=41) (HM:ab w bm cs 39) (HO:ab w bo [.bool x] 4) (hne:bm≠bo):
  CallsD Tryz.prog 104 #[.pointer (some ⟨bm,0,none⟩), .pointer (some ⟨bo,0,none⟩)] (.panicking jx) w fun e u' w'=>
   e= .returned (.tuple #[])∧u'= .panicking [{v:= .iface 265 (.agg #[]),recovered:=true}]∧ab w' bm di 39∧ab w' bo [.bool false] 4∧aa [bm,bo] w w':=by
 have hl2:di.length=cs.length:=by rw[hl];rfl
 refine callsD_of_wpS Tryz.func104 rfl fun c₀ cs' hu=> ?_
 apply wpS_seq
 apply wpS_region
 simp[wpOpsS,go_sem,recoverD,hu,jx,Tryz.ntmps104,Exit.thenS]
 apply wpS_seq
 apply wpS_region
 simp[wpOpsS,go_sem,Exit.thenS]
 refine wpS_cond (t:=true) (by simp[Act.eval,Array.replicate]) ?_
 simp only[if_true]
 refine wpS_of_wp ?_
 go_wp2_with (first
  |((with_reducible refine aw 39 ?parts di ?hg ?ho ?hf ?_);(case hg|ho=>rfl);(case hf=>kernel_rfl))
  |((with_reducible refine af 39 (.tmp 0) (.tmp 6) bm cs di 39 HM hl2 lV iu ?hgd ?ho ?hx ?hy ?_);(case hgd|ho|hx|hy=>rfl);(intro w1 B1 o1);have O1:=o1.blk HO hne.symm)
  |((with_reducible refine al 4 (.tmp 1) (.const (.bool false)) bo 0 (.bool false) _ _ O1 (by simp) (by kernel_rfl) rfl ?hgd ?ho ?hx ?hy ?_);(case hgd|ho|hx|hy=>rfl);(intro w2 B2 o2);have M2:=o2.blk B1 hne)
  |fail)
 simp[bodyPostS,results,Tryz.results104]
 exact⟨M2,B2,only2 o1 o2⟩
theorem vG (bm bo:Nat) (w:World):
  CallsD Tryz.prog 104 #[.pointer (some ⟨bm,0,none⟩), .pointer (some ⟨bo,0,none⟩)] .returning w fun e u' w'=>e= .returned (.tuple #[])∧u'= .returning∧w'=w:=by
 refine callsD_of_wpS Tryz.func104 rfl fun c₀ cs' hu=> ?_
 apply wpS_seq
 apply wpS_region
 simp[wpOpsS,go_sem,recoverD,hu,Tryz.ntmps104,Exit.thenS]
 apply wpS_seq
 apply wpS_region
 simp[wpOpsS,go_sem,Exit.thenS]
 refine wpS_cond (t:=false) (by simp[Act.eval,Array.replicate]) ?_
 simp only[Bool.false_eq_true,if_false]
 refine wpS_of_wp (wp_skip ?_)
 cases c₀
 simp_all [bodyPostS,results,Tryz.results104]
def Gn (F:List Nat) (s:List UInt8) (e:Ending) (w':World):Prop:=
 (∃m u l,iR s=some (m,[])∧e= .returned (.tuple #[m.v u l, .bool true])∧aJ F w' u m.told.up∧aJ F w' l m.told.left)∨
 (∃cs,(∀m,iR s≠some (m,[]))∧e= .returned (.tuple #[.agg cs, .bool false])∧cs.size=41∧∀v∈cs.toList,v.oneCell'=true)
theorem aa.trans' {S T:List Nat} {u v w:World} (h:aa S u v) (k:aa T v w):aa (S++T) u w:=(h.mono (fun x hx=>List.mem_append_left _ hx)).trans (k.mono (fun x hx=>List.mem_append_right _ hx))
theorem mG {fn:Func} {p q:Tmp} (h:fn.results=#[.cell p 39, .cell q 4]) (tmps:Array Value) (w:World) {bm bo:Nat} {cs:List Value} {x:Bool} (hM:ab w bm cs 39) (hO:ab w bo [.bool x] 4)
  (hl:some 41=some cs.length) (hp:tmps.getD p undef= .pointer (some ⟨bm,0,none⟩)) (hq:tmps.getD q undef= .pointer (some ⟨bo,0,none⟩)):
  (results fn tmps).run Tryz.prog w= .ok (.tuple #[.agg cs.toArray, .bool x]) w:=by
 have hi:(Tryz.prog.info? 39).map (·.size)=some cs.length:=by rw[←hl];kernel_rfl
 have e:=run_loadVar_mid (P:=Tryz.prog) w bm 0 39 cs _ hM.range Tryz.underlying39 rfl hi
 have c0:=hO.cell (i:=0) rfl
 have e2:(loadVar 4 ⟨bo,0,none⟩).run Tryz.prog w= .ok (.bool x) w:=by
  simp[go_sem,loadVar,Tryz.underlying4,c0]
 have e0:(results fn tmps).run Tryz.prog w=((asAddr (tmps.getD p undef)).run Tryz.prog w).andThen fun a w₁=>((loadVar 39 a).run Tryz.prog w₁).andThen fun y w₂=>((asAddr (tmps.getD q undef)).run Tryz.prog w₂).andThen fun a' w₃=>((loadVar 4 a').run Tryz.prog w₃).andThen fun z w₄=> .ok (.tuple #[y,z]) w₄:=by
  simp only[results,h]
  simp[Sem.run_bind]
 rw[e0,hp,hq]
 simp only[asAddr,Sem.run_pure,Result.andThen_ok,e,e2]
theorem CX (F:List Nat) (s:ByteArray) (w:World) (hs:s.size≤1000000) (hF:∀x∈F,x<w.heap.size):
  Calls Tryz.prog 47 #[.string s] w fun e w'=>Gn F s.data.toList e w'∧Below w.heap.size w w':=by
 have HFF:=Lib.hid hF;clear hF
 have hmf:=fe
 go_enter_defers Tryz.func47,Tryz.ntmps47
 go_wp2_with (first
  |((with_reducible refine ai 39 di mF (some 2) ?hgd ?ho ?hd ?_);(case hgd|ho|hd=>rfl);(intro bm w1 l1 B1 e1 z1))
  |((with_reducible refine aF 4 (.bool false) (by intro w;kernel_rfl) rfl (some 3) ?hgd ?ho ?hd ?_);(case hgd|ho|hd=>rfl);(intro bo w2 l2 B2 e2 z2);have M2:=B1.below e2 (Nat.lt_of_lt_of_le B1.lt l2))
  |((with_reducible refine ag 115 (.tmp 7) [.string s, .bool true, .bool false] (some 8) ?hgd ?ho ?hd ?hx ?_);(case hgd|ho|hd|hx=>rfl);(intro q w3 l3 P3 e3 z3);have M3:=M2.below e3 (Nat.lt_of_lt_of_le M2.lt l3);have O3:=B2.below e3 (Nat.lt_of_lt_of_le B2.lt l3))
  |fail)
 have hmo:bm≠bo:=by have:=B1.lt;omega
 have hmq:bm≠q:=by have:=M2.lt;omega
 have hoq:bo≠q:=by have:=B2.lt;omega
 have f1:w.heap.size≤bm:=l1
 have f2:w.heap.size≤bo:=by have:=e1.size;omega
 have f3:w.heap.size≤q:=by have:=e1.size;have:=e2.size;omega
 have HB3:=Lib.hid (show Below w.heap.size w w3 from((e1.mono l1).trans (e2.mono f2)).trans (e3.mono f3))
 have T0:aa [q,bm] w3 w3:=aa.refl _ _
 clear B1 B2 M2 e1 e2 e3 l1 l2 l3 z1 z2 z3
 have O3':=Lib.hid O3
 clear O3
 refine(bV q s true false bm 0 1 0 di 39 w3 P3 M3 rfl hmq (by omega) (by omega) (fun h=>by cases h) (by omega)).mono ?_
 rintro e w4 he
 cases hn:bq true 1 0 s.data.toList with
 |none=>
  have HF:Hid (∀m,iR s.data.toList≠some (m,[])):=Lib.hid (fun m h=>by unfold iR at h;rw[hn]at h;cases h)
  rw[hn]at he
  obtain⟨rfl,hbad⟩:=he
  obtain⟨⟨cs',hcl,HMb⟩,hbt⟩:=hbad
  have O4:=hbt.blk O3'.out (by simp[hmo.symm,hoq])
  have HBAD:=Lib.hid (show cs'.length=41∧ab w4 bm cs' 39∧ab w4 bo [.bool false] 4∧aa [q,bm] w3 w4 from⟨hcl,HMb,O4,hbt⟩)
  clear hn hbt O4 HMb hcl
  go_wp2_with fail
  refine leaves_cons (f:=104) (args:=#[.pointer (some ⟨bm,0,none⟩), .pointer (some ⟨bo,0,none⟩)]) (by simp) (by simp[go_sem]) ?_
  refine(nI bm bo _ _ _ HBAD.out.1 HBAD.out.2.1 HBAD.out.2.2.1 hmo).mono ?_
  rintro e u' w9 ⟨rfl,rfl,M9,O9,T9⟩
  refine⟨_,mG rfl _ w9 M9 O9 rfl rfl rfl, .inr ⟨_,HF.out,rfl,rfl,by simpa using iu⟩, ?_⟩
  exact(HBAD.out.2.2.2.trans' T9).below HB3.out (fun x hx=>by have:=List.mem_append.1 hx;simp only[List.mem_cons,List.mem_nil_iff,or_false]at this;omega) HB3.out.size
 |some p=>
  obtain⟨k,s1⟩:=p
  rw[hn]at he
  obtain⟨rfl,hdn⟩:=he
  obtain⟨p1,tp1,P4⟩:=hdn.part
  have M4:ab w4 bm (({ac.zero with kind:=k}:ac).cells (.slice none 0 0) (.slice none 0 0)) 39:=hdn.blk
  have O4:=Lib.hid (hdn.turned.blk O3'.out (by simp[hmo.symm,hoq]))
  have HT4:=Lib.hid hdn.turned
  have hp1:p1.size≤1000000:=by
   rw[tp1.size]
   have:=cq hn
   unfold bq at hn
   rw[if_pos rfl]at hn
   split at hn
   ·cases hn
   ·simp only[Option.some.injEq,Prod.mk.injEq]at hn
    rw[←hn.2,List.length_drop]
    have:s.data.toList.length=s.size:=rfl
    omega
  have hrd:iR s.data.toList=aB true false {ac.zero with kind:=k} p1.data.toList:=by
   unfold iR
   rw[hn,show p1.data.toList=s1 from tp1]
  have HRD:=Lib.hid hrd
  clear hrd hn hdn tp1 O3' M3 P3
  go_wp2_with fail
  refine(rJ (bo::F) q p1 true false bm {ac.zero with kind:=k} (.slice none 0 0) (.slice none 0 0) w4 P4 M4 hmq (fun _ x hx=>by rcases List.mem_cons.1 hx with e|hx;rw[e];exact O4.out.lt;have:=HFF.out x hx;have:=HB3.out.size;have:=HT4.out.size;omega) (aJ.nil _ _) (aJ.nil _ _) (fun _=>⟨⟨rfl,rfl⟩,⟨rfl,rfl⟩⟩) (fun h=>by cases h) hp1).mono ?_
  rintro e w5 he
  cases hn:aB true false {ac.zero with kind:=k} p1.data.toList with
  |none=>
   have HF:Hid (∀m,iR s.data.toList≠some (m,[])):=Lib.hid (fun m h=>by rw[HRD.out,hn]at h;cases h)
   rw[hn]at he
   obtain⟨rfl,hbad⟩:=he
   obtain⟨⟨cs',hcl,HMb⟩,hbt⟩:=hbad
   have O5:=hbt.blk O4.out (by simp[hmo.symm,hoq])
   have HBAD:=Lib.hid (show cs'.length=41∧ab w5 bm cs' 39∧ab w5 bo [.bool false] 4∧aa [q,bm] w3 w5 from⟨hcl,HMb,O5,HT4.out.trans hbt⟩)
   clear hn hbt O5 HMb hcl M4 P4
   go_wp2_with fail
   refine leaves_cons (f:=104) (args:=#[.pointer (some ⟨bm,0,none⟩), .pointer (some ⟨bo,0,none⟩)]) (by simp) (by simp[go_sem]) ?_
   refine(nI bm bo _ _ _ HBAD.out.1 HBAD.out.2.1 HBAD.out.2.2.1 hmo).mono ?_
   rintro e u' w9 ⟨rfl,rfl,M9,O9,T9⟩
   refine⟨_,mG rfl _ w9 M9 O9 rfl rfl rfl, .inr ⟨_,HF.out,rfl,rfl,by simpa using iu⟩, ?_⟩
   exact(HBAD.out.2.2.2.trans' T9).below HB3.out (fun x hx=>by have:=List.mem_append.1 hx;simp only[List.mem_cons,List.mem_nil_iff,or_false]at this;omega) HB3.out.size
  |some pr=>
   obtain⟨m,s2⟩:=pr
   rw[hn]at he
   obtain⟨rfl,u,l,hdn,hu,hl⟩:=he
   obtain⟨p2,tp2,P5⟩:=hdn.part
   have M5:ab w5 bm (m.cells u l) 39:=hdn.blk
   have O5:=Lib.hid (hdn.turned.blk O4.out (by simp[hmo.symm,hoq]))
   have HT5:=Lib.hid (HT4.out.trans hdn.turned)
   have HU:=Lib.hid (show aJ (q::bm::bo::F) w5 u m.told.up∧aJ (q::bm::bo::F) w5 l m.told.left from⟨hu,hl⟩)
   have hr2:iR s.data.toList=some (m,s2):=by rw[HRD.out,hn]
   have HRD2:=Lib.hid hr2
   have TP2:=Lib.hid tp2
   have HM5:=Lib.hid M5.drew
   have HP5:=Lib.hid (show aL w5.drew q p2 true false from ab.drew P5)
   clear hn hdn hr2 tp2 M4 P4 hu hl O4 HT4 M5 P5
   go_wp2_with fail
   have hS0:(fun w'=>w'.rangeAt bm 0 (m.cells u l)∧w'.cell? ⟨q,0,none⟩=some (.string p2)) w5.drew:=⟨HM5.out.range,HP5.out.c0⟩
   refine wp_region_noPanic ?_
   refine wp_region_held_drew (S:=fun w'=>w'.rangeAt bm 0 (m.cells u l)∧w'.cell? ⟨q,0,none⟩=some (.string p2)) (by kernel_rfl) (hS0) (fun hHeld=> ?_)
   clear hS0
   refine wpAnyH_take (i:=0) (v:= .agg (m.cells u l).toArray) rfl (by kernel_rfl) (by kernel_rfl) (by kernel_rfl) (fun _ _ _ h=>h) (yieldsIf_load_mid (by rfl) 39 (.tmp 2) rfl bm 0 rfl (m.cells u l) _ (fun w h=>h.1) Tryz.underlying39 rfl bn) (by assumption) ?_
   (try go_frame)
   refine hp 1 ?_
   refine hp 2 ?_
   refine hp 3 ?_
   refine hp 4 ?_
   refine hp 5 ?_
   obtain⟨ua,uc,hue⟩:=aJ.shape HU.out.1
   obtain⟨la,lc,hle⟩:=aJ.shape HU.out.2
   have one6:∀v∈m.cells u l,v.oneCell'=true:=qx ⟨ua,uc,hue⟩ ⟨la,lc,hle⟩
   have A6:ab (w5.drew.setCells bm 0 (m.cells u l).toArray.toList) bm (m.cells u l) 39:=by simpa using HM5.out.setAll (m.cells u l) rfl
   have A7:cz bm w5.drew (w5.drew.setCells bm 0 (m.cells u l).toArray.toList):=by simpa using(cz.refl bm w5.drew).setCells (m.cells u l) 0
   refine wpAnyH_ready (rs:=[6]) (by kernel_rfl) (by simp) ?_
   refine AllReadyH.cons rfl (fun K hK=> ?_) AllReadyH.nil
   rw[if_pos (by rfl)]
   refine wp_store_mid 39 (.tmp 2) (.tmp 14) rfl bm 0 (m.cells u l).toArray rfl rfl (qF HM5.out (by simp)) (by simpa using bn) (all_oneCell_toArray one6) ?_
   generalize(w5.drew.setCells bm 0 (m.cells u l).toArray.toList)=w6 at A6 A7 ⊢
   have P6:aL w6 q p2 true false:=A7.blk HP5.out hmq.symm
   have O6:ab w6 bo [.bool false] 4:=A7.blk O5.out.drew hmo.symm
   refine hK.out _ _ ⟨A6.range,P6.c0⟩ (fun hHeld2=> ?_)
   clear hK K hHeld
   have hHeld:=hHeld2
   clear hHeld2
   (try go_frame)
   have c0:=O6.cell (i:=0) rfl
   have z0:=ab.free O6 0
   refine wpAnyH_ready (rs:=[7]) (by kernel_rfl) (by simp) ?_
   refine AllReadyH.cons rfl (fun K hK=> ?_) AllReadyH.nil
   go_simp
   have A8:=O6.set 0 (.bool p2.toList.isEmpty)
   have A9:cz bo w6 (w6.setCell ⟨bo,0,none⟩ (.bool p2.toList.isEmpty)):=(cz.refl bo w6).setCell 0 _
   clear c0 z0
   generalize(w6.setCell ⟨bo,0,none⟩ (.bool p2.toList.isEmpty))=w7 at A8 A9 ⊢
   have M7:=A9.blk A6 hmo
   have P7:aL w7 q p2 true false:=A9.blk P6 hoq.symm
   refine hK.out _ _ ⟨M7.range,P7.c0⟩ (fun hHeld2=> ?_)
   clear hK K hHeld
   have hHeld:=hHeld2
   clear hHeld2
   (try go_frame)
   refine wpAnyH_done (by kernel_rfl) ?_ _
   refine NoPanic.normal ?_
   clear hHeld
   have HT7:aa [q,bm,bo] w3 w7:=⟨by rw[A9.os,A7.os];exact HT5.out.os,by rw[A9.tape,A7.tape];exact HT5.out.tape,by rw[A9.output,A7.output];exact HT5.out.output,by rw[A9.size,A7.size];exact HT5.out.size,fun i hi hn=>by
    simp only[List.mem_cons,List.mem_nil_iff,or_false,not_or]at hn
    rw[A9.block i hn.2.2,A7.block i hn.2.1]
    exact HT5.out.block i hi (by simp only[List.mem_cons,List.mem_nil_iff,or_false,not_or];exact⟨hn.1,hn.2.1⟩)⟩
   have HB7:=HT7.below HB3.out (fun x hx=>by simp only[List.mem_cons,List.mem_nil_iff,or_false]at hx;omega) HB3.out.size
   have HM7:=Lib.hid M7
   have HO7:=Lib.hid A8
   have HT57:aa [bo,q,bm] w5 w7:=⟨by rw[A9.os,A7.os];rfl,by rw[A9.tape,A7.tape];rfl,by rw[A9.output,A7.output];rfl,by rw[A9.size,A7.size];exact Nat.le_refl _,fun i hi hn=>by
    simp only[List.mem_cons,List.mem_nil_iff,or_false,not_or]at hn
    rw[A9.block i hn.1,A7.block i hn.2.2];rfl⟩
   have HT58:aa (q::bm::bo::F) w5 w7:=HT57.mono (by intro x hx;simp only[List.mem_cons,List.mem_nil_iff,or_false]at hx ⊢;rcases hx with h|h|h<;>simp[h])
   have HPU:aJ F w7 u m.told.up:=(HU.out.1.turned HT58).sub (fun x hx=>by simp[hx])
   have HPL:aJ F w7 l m.told.left:=(HU.out.2.turned HT58).sub (fun x hx=>by simp[hx])
   clear HT58
   have HPP:=Lib.hid (And.intro HPU HPL)
   have HBB:=Lib.hid HB7
   have HONE:=Lib.hid one6
   clear HPU HPL HB7 HT57 HT7 A6 A7 A8 A9 M7 P7 P6 O6 one6
   go_wp2_with fail
   refine leaves_cons (f:=104) (args:=#[.pointer (some ⟨bm,0,none⟩), .pointer (some ⟨bo,0,none⟩)]) (by simp) (by simp[go_sem]) ?_
   refine(vG bm bo _).mono ?_
   rintro e u' w9 ⟨rfl,rfl,rfl⟩
   refine⟨_,mG rfl _ _ HM7.out HO7.out rfl rfl rfl, ?_,HBB.out⟩
   cases hs2:p2.toList.isEmpty with
   |true=>
    have e2:s2=[]:=by
     rw[←show p2.data.toList=s2 from TP2.out]
     have:=List.isEmpty_iff.1 hs2
     rw[Lib.toList_data]at this
     exact this
    exact .inl ⟨m,u,l,by rw[HRD2.out,e2],rfl,HPP.out.1,HPP.out.2⟩
   |false=>
    refine .inr ⟨_,fun m' h=> ?_,rfl,rfl,by simpa using HONE.out⟩
    rw[HRD2.out]at h
    injection h with h
    injection h with _ h
    have h3:p2.data.toList=[]:=(show p2.data.toList=s2 from TP2.out).trans h
    rw[←Lib.toList_data]at h3
    rw[h3]at hs2
    cases hs2
theorem jS {fn:Func} {p q:Tmp} (h:fn.results=#[.cell p 39, .tmp q]) (tmps:Array Value) (w:World) {bm:Nat} {cs:List Value} (hM:ab w bm cs 39)
  (hl:some 41=some cs.length) (hp:tmps.getD p undef= .pointer (some ⟨bm,0,none⟩)):
  (results fn tmps).run Tryz.prog w= .ok (.tuple #[.agg cs.toArray,tmps.getD q undef]) w:=by
 have hi:(Tryz.prog.info? 39).map (·.size)=some cs.length:=by rw[←hl];kernel_rfl
 have e:=run_loadVar_mid (P:=Tryz.prog) w bm 0 39 cs _ hM.range Tryz.underlying39 rfl hi
 rw[results_cell_tmp h,hp]
 simp only[asAddr,Sem.run_pure,Result.andThen_ok,e]
def lW (s:List UInt8) (m:ac):Prop:=iR s=some (m,[])∧dP m=true∧kx m=s
def Gp (s:List UInt8) (e:Ending) (w':World):Prop:=
 (∃m u l,lW s m∧e= .returned (.tuple #[m.v u l, .int .i64 0])∧aN w' u m.told.up∧aN w' l m.told.left)∨
 ((∀m,¬lW s m)∧e= .returned (.tuple #[ac.zero.v (.slice none 0 0) (.slice none 0 0), .int .i64 3]))
theorem xH (s:ByteArray) (w:World) (hs:s.size≤1000000):
  Calls Tryz.prog 23 #[.string s] w fun e w'=>Gp s.data.toList e w'∧Below w.heap.size w w':=by
 go_enter Tryz.func23,Tryz.ntmps23
 go_wp2_with (first|((with_reducible refine ai 39 di mF (some 2) ?hgd ?ho ?hd ?_);(case hgd|ho|hd=>rfl);(intro b1 w1 l1 B1 e1 z1))|fail)
 refine(CX [b1] s _ hs (fun x hx=>by rw[List.mem_singleton.1 hx];exact B1.lt)).mono ?_
 rintro e w2 ⟨hr,hb2⟩
 have R2:=B1.below hb2 B1.lt
 have HB2:=Lib.hid (show Below w.heap.size w w2 from(e1.mono l1).trans (hb2.mono (by have:=e1.size;omega)))
 have f1:w.heap.size≤b1:=l1
 clear e1 l1 z1 B1 hb2
 rcases hr with⟨m,u,l,hrd,rfl,hu,hl⟩|⟨cs,hno,rfl,hcs,hone⟩
 ·have HRD:=Lib.hid hrd
  have HT:=Lib.hid (zY hrd)
  have hsu:=hu.shape
  have hsl:=hl.shape
  have one6:∀v∈m.cells u l,v.oneCell'=true:=qx hsu hsl
  have HU:=Lib.hid (And.intro hu hl)
  clear hrd hu hl hsu hsl
  go_upto_region 2 with(first
   |((with_reducible refine ai 39 di mF (some 4) ?hgd ?ho ?hd ?_);(case hgd|ho|hd=>rfl);(intro b3 w3 l3 B3 e3 z3);have R3:=R2.below e3 (Nat.lt_of_lt_of_le R2.lt l3);have hne:b1≠b3:=(by have:=R2.lt;omega);have f3:w.heap.size≤b3:=Nat.le_trans HB2.out.size l3)
   |((with_reducible refine af 39 (.tmp 4) (.tmp 9) b3 di (m.cells u l) 39 B3 rfl bn one6 ?hgd ?ho ?hx ?hy ?_);(case hgd|ho|hx|hy=>rfl);(intro w4 B4 o4))
   |fail)
  have R4:=o4.blk R3 hne
  have HB4:=Lib.hid (o4.below (HB2.out.trans (e3.mono f3)) f3)
  have hb24:Below w2.heap.size w2 w4:=o4.below (e3.mono l3) l3
  have PV:=Lib.hid (show aJ [b1] w4 u m.told.up∧aJ [b1] w4 l m.told.left from⟨HU.out.1.turned (aa.of_below hb24 (Nat.le_refl _)),HU.out.2.turned (aa.of_below hb24 (Nat.le_refl _))⟩)
  have PU:=Lib.hid (show aN w4 u m.told.up∧aN w4 l m.told.left from⟨PV.out.1.sub (fun x hx=>(List.not_mem_nil hx).elim),PV.out.2.sub (fun x hx=>(List.not_mem_nil hx).elim)⟩)
  clear HU R2 R3 B3 o4 e3 l3 z3 HB2 hb24
  cases hok:dP m with
  |false=>
   have HNO:=Lib.hid (show ∀m',¬lW s.data.toList m' from fun m' h=>by
    have h1:=h.1
    rw[HRD.out]at h1
    injection h1 with h1
    injection h1 with h1 _
    have h2:=h.2.1
    rw[←h1,hok]at h2
    cases h2)
   have HC:=Lib.hid (yC hok)
   clear hok
   go_wp2_with (first
    |((with_reducible refine ae 39 (.tmp 4) b3 0 (m.cells u l) _ (some 14) (B4).range Tryz.underlying39 rfl bn ?hg ?ho ?hds ?hx ?_);(case ho|hg|hds|hx=>rfl))
    |(go_at_call 16;refine(iQ m u l _ PU.out.1 PU.out.2 HT.out).mono ?_;rintro e w5 ⟨he,hb5⟩;rw[HC.out]at he;subst he;have R:=R4.below hb5 R4.lt;have HB5:=Lib.hid (HB4.out.trans (hb5.mono HB4.out.size)))
    |((with_reducible refine aw 39 ?parts di ?hg ?ho ?hf ?_);(case hg|ho=>rfl);(case hf=>kernel_rfl))
    |((with_reducible refine af 39 (.tmp 2) (.tmp 24) b1 di di 39 R rfl lV iu ?hgd ?ho ?hx ?hy ?_);(case hgd|ho|hx|hy=>rfl);(intro w9 B9 o9))
    |fail)
   (try simp only[Exit.inBlock,Exit.then])
   refine bodyPost_ret (jS rfl _ _ B9 rfl rfl) rfl ⟨.inr ⟨HNO.out,rfl⟩,o9.below HB5.out f1⟩
  |true=>
   have HC:=Lib.hid (pC hok)
   have HOK:=Lib.hid hok
   clear hok
   go_upto_if 23 with(first
    |((with_reducible refine ae 39 (.tmp 4) b3 0 (m.cells u l) _ (some 14) (B4).range Tryz.underlying39 rfl bn ?hg ?ho ?hds ?hx ?_);(case ho|hg|hds|hx=>rfl))
    |(go_at_call 16;refine(iQ m u l _ PU.out.1 PU.out.2 HT.out).mono ?_;rintro e w5 ⟨he,hb5⟩;rw[HC.out]at he;subst he;have R:=R4.below hb5 R4.lt;have B5:=B4.below hb5 B4.lt;have HB5:=Lib.hid (HB4.out.trans (hb5.mono HB4.out.size));have PU5:=Lib.hid (show aN w5 u m.told.up∧aN w5 l m.told.left from⟨PU.out.1.below hb5 (Nat.le_refl _),PU.out.2.below hb5 (Nat.le_refl _)⟩);have PV5:=Lib.hid (show aJ [b1] w5 u m.told.up∧aJ [b1] w5 l m.told.left from⟨PV.out.1.turned (aa.of_below hb5 (Nat.le_refl _)),PV.out.2.turned (aa.of_below hb5 (Nat.le_refl _))⟩))
    |((with_reducible refine ae 39 (.tmp 4) b3 0 (m.cells u l) _ (some 19) (B5).range Tryz.underlying39 rfl bn ?hg ?ho ?hds ?hx ?_);(case ho|hg|hds|hx=>rfl))
    |fail)
   refine(nE m u l false _ PU5.out.1 PU5.out.2 HOK.out).mono ?_
   rintro e w6 ⟨r,rfl,tr,hb6⟩
   have R6:=R.below hb6 R.lt
   have B6:=B5.below hb6 B5.lt
   have HB6:=Lib.hid (HB5.out.trans (hb6.mono HB5.out.size))
   have PV6:=Lib.hid (show aJ [b1] w6 u m.told.up∧aJ [b1] w6 l m.told.left from⟨PV5.out.1.turned (aa.of_below hb6 (Nat.le_refl _)),PV5.out.2.turned (aa.of_below hb6 (Nat.le_refl _))⟩)
   have TR:=Lib.hid (show aj r (kx m)from tr)
   clear tr hb6 R4 B4 R B5 HB4 HB5 PU PU5
   by_cases hp:r=s
   ·have e1:(r.toList==s.toList)=true:=by rw[hp];simp
    have HPP:=Lib.hid hp
    clear hp
    go_wp2_with (first
     |((with_reducible refine ae 39 (.tmp 4) b3 0 (m.cells u l) _ (some 25) (B6).range Tryz.underlying39 rfl bn ?hg ?ho ?hds ?hx ?_);(case ho|hg|hds|hx=>rfl))
     |((with_reducible refine af 39 (.tmp 2) (.tmp 25) b1 di (m.cells u l) 39 R6 rfl bn one6 ?hgd ?ho ?hx ?hy ?_);(case hgd|ho|hx|hy=>rfl);(intro w9 B9 o9))
     |fail)
    (try simp only[Exit.inBlock,Exit.then])
    have PU9:aN w9 u m.told.up∧aN w9 l m.told.left:=⟨(PV6.out.1.turned (o9.turned (by simp))).sub (fun x hx=>(List.not_mem_nil hx).elim),(PV6.out.2.turned (o9.turned (by simp))).sub (fun x hx=>(List.not_mem_nil hx).elim)⟩
    refine bodyPost_ret (jS rfl _ _ B9 rfl rfl) rfl ⟨.inl ⟨m,u,l,⟨HRD.out,HOK.out, ?_⟩,rfl,PU9.1,PU9.2⟩,o9.below HB6.out f1⟩
    rw[←HPP.out];exact TR.out.symm
   ·have e1:(r.toList==s.toList)=false:=(aj.self r).other (aj.self s) (fun e=>hp (by
     have h1:=(aj.self r).of
     have h2:=(aj.self s).of
     rw[h1,h2,e]))
    have HNO:=Lib.hid (show ∀m',¬lW s.data.toList m' from fun m' h=>by
     have h1:=h.1
     rw[HRD.out]at h1
     injection h1 with h1
     injection h1 with h1 _
     have h2:=h.2.2
     rw[←h1]at h2
     exact hp (TR.out.eq (h2 ▸ aj.self s)))
    clear hp
    have R:=R6
    go_wp2_with (first
     |((with_reducible refine aw 39 ?parts di ?hg ?ho ?hf ?_);(case hg|ho=>rfl);(case hf=>kernel_rfl))
     |((with_reducible refine af 39 (.tmp 2) (.tmp 24) b1 di di 39 R rfl lV iu ?hgd ?ho ?hx ?hy ?_);(case hgd|ho|hx|hy=>rfl);(intro w9 B9 o9))
     |fail)
    (try simp only[Exit.inBlock,Exit.then])
    refine bodyPost_ret (jS rfl _ _ B9 rfl rfl) rfl ⟨.inr ⟨HNO.out,rfl⟩,o9.below HB6.out f1⟩
 ·have HNO:=Lib.hid (show ∀m',¬lW s.data.toList m' from fun m' h=>hno m' h.1)
  have hcl:cs.toList.length=di.length:=by rw[Array.length_toList,hcs];rfl
  have hci:(Tryz.prog.info? 39).map (·.size)=some cs.toList.length:=by rw[hcl];exact lV
  clear hno
  go_wp2_with (first
   |((with_reducible refine ai 39 di mF (some 4) ?hgd ?ho ?hd ?_);(case hgd|ho|hd=>rfl);(intro b3 w3 l3 B3 e3 z3);have R3:=R2.below e3 (Nat.lt_of_lt_of_le R2.lt l3);have hne:b1≠b3:=(by have:=R2.lt;omega);have f3:w.heap.size≤b3:=Nat.le_trans HB2.out.size l3)
   |((with_reducible refine af 39 (.tmp 4) (.tmp 9) b3 di cs.toList 39 B3 hcl hci hone ?hgd ?ho ?hx ?hy ?_);(case hgd|ho|hx|hy=>rfl);(intro w4 B4 o4);have R:=o4.blk R3 hne;have HB4:=Lib.hid (o4.below (HB2.out.trans (e3.mono f3)) f3))
   |((with_reducible refine aw 39 ?parts di ?hg ?ho ?hf ?_);(case hg|ho=>rfl);(case hf=>kernel_rfl))
   |((with_reducible refine af 39 (.tmp 2) (.tmp 24) b1 di di 39 R rfl lV iu ?hgd ?ho ?hx ?hy ?_);(case hgd|ho|hx|hy=>rfl);(intro w9 B9 o9))
   |fail)
  (try simp only[Exit.inBlock,Exit.then])
  refine bodyPost_ret (jS rfl _ _ B9 rfl rfl) rfl ⟨.inr ⟨HNO.out,rfl⟩,o9.below HB4.out f1⟩
end Go.Proofs.YtgimkmclgjfddaaGreat
