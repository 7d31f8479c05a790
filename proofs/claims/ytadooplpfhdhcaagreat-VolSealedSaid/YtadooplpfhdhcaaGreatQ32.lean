/- Do (chapter 26) of each kind of call, out of its method's contract. Do (chapter 26) of a read and of Stat. Do (chapter 26) of Stat. What a disk shows behind a closing (chapters 25, 26). No program in sight. -/
import Derived.Test.YtadooplpfhdhcaaGreatQ31
import Derived.Test.YtadooplpfhdhcaaGreatQ13
import Derived.Test.YtadooplpfhdhcaaGreatQ23
set_option linter.unusedSimpArgs false
set_option linter.unusedVariables false
set_option maxRecDepth 100000
set_option maxHeartbeats 4000000
namespace Go.Proofs.YtadooplpfhdhcaaGreat
open Go Go.RowKit Go.Maps Go.WideMaps
open Go.Lib (hid)
open Go.Proofs.Tryz
def Step (Φ:Int→ar→ak→Prop) (w:World) (i:ar) (v:ak) (e:Ending) (w':World):Prop:=∃k i' v',e= .returned (.int .i64 k)∧aK w w' i v i' v'∧Φ k i' v'
def MO (Φ:Int→ar→ak→Prop) (w:World) (i:ar) (v:ak) (e:Ending) (w':World):Prop:=∃(r:bR) (k:Int) (i':ar) (v':ak),e= .returned (.tuple #[r.v, .int .i64 k])∧aK w w' i v i' v'∧Φ k i' v'
def StepA (Φ:Int→ar→ak→Prop) (w:World) (i:ar) (v:ak) (e:Ending) (w':World):Prop:=∃k i' v',e= .returned (.agg (cG k).toArray)∧aK w w' i v i' v'∧Φ k i' v'
theorem aK.fresh {w e:World} {i a:ar} {v v':ak} (h:aK w e i v a v') {b:Nat} (hb:b∉i.foot v.d) (hl:b<w.heap.size):b∉a.foot v'.d:=fun c=>(h.foot b c).elim hb (fun f=>by omega)
theorem G8 (Φ:Int→ar→ak→Prop) (i:ar) (v:ak) (c:aP) (w:World) (h:am w i v) (H:c.kind=1) (z:∀A,am A i v→Calls prog 24 #[.pointer (some ⟨i.vb,0,none⟩), .int .i64 c.lba, .string c.data] A fun e w'=>Step Φ A i v e w'):
  Calls prog 9 #[.pointer (some ⟨i.vb,0,none⟩),c.v] w fun e w'=>StepA Φ w i v e w':=by
 obtain⟨I,lba,b,r,p,q,S,R,Q⟩:=c;simp only at H z;subst H;have O:∀(G:Fn) (first o:Array Value) (w:World),(Instr.makeFunc G first o).run prog w= .ok (.func G first o) w:=fun _ _ _ _=>rfl
 have D:=hid h;have L:=hid z;clear h z;go_enter func9,ntmps9
 go_wp2_with (first
  |((with_reducible refine ae 36 (.tmp 1) (aP.cells ⟨1,lba,b,r,p,q,S,R,Q⟩) (some 3) ?hgd ?ho ?hd ?hx ?_);(case hgd|ho|hd|hx=>rfl);(intro Y Z t B F x))
  |((with_reducible refine ab 40 _ eO (some 4) ?hgd ?ho ?hd ?_);(case hgd|ho|hd=>rfl);(intro N w2 u C y X))
  |fail)
 have d:Below w.heap.size w w2:=(F.mono t).trans (y.mono (Nat.le_trans t (Nat.le_trans (Nat.le_of_lt x) u)));have g:=hid (Nat.le_trans t (Nat.le_trans (Nat.le_of_lt x) u));have a:=hid (B.below y (Nat.lt_of_lt_of_le x u));have m:=hid C;have f:=hid d;have E:=hid (D.below d);have j:=hid (D.fresh g.out);clear B C F y t u x X d
 refine(aQ i v _ E.out).mono ?_
 rintro e w' ⟨rfl,rfl⟩;have U:=a.cell (i:=0) rfl;have V:=a.cell (i:=1) rfl;have W:=a.cell (i:=4) rfl;go_wp2_with fail
 refine(L.out _ E.out).mono ?_
 rintro e w3 ⟨k,P,v',rfl,s,hf⟩;have M:=hid (aK.ahead f.out s);have K:=hid hf;have n:=hid (s.turned.blk m.out j.out);have l:=hid (s.fresh j.out m.lt);clear s hf U V W
 go_wp2_with (first
  |((with_reducible refine av 40 ?parts (cG k) ?hg ?ho ?hf ?_);(case hg|ho=>rfl);(case hf=>exact fO k))
  |((with_reducible refine aa 40 (.tmp 4) (.tmp 87) N (cG 0) (cG k) 40 n.out rfl cP (jd k) ?hgd ?ho ?hx ?hy ?_);(case hgd|ho|hx|hy=>rfl);(intro w5 J T))
  |fail)
 (try simp only[Exit.inBlock,Exit.then])
 refine bodyPost_ret (aZ rfl _ _ J.range rfl underlying40 rfl cP) rfl ⟨k,P,v',rfl,M.away (T.turned (by simp)) l.out g.out,K.out⟩
theorem G9 (Φ:Int→ar→ak→Prop) (i:ar) (v:ak) (c:aP) (w:World) (h:am w i v) (H:c.kind=4) (z:∀A,am A i v→Calls prog 10 #[.pointer (some ⟨i.vb,0,none⟩)] A fun e w'=>Step Φ A i v e w'):
  Calls prog 9 #[.pointer (some ⟨i.vb,0,none⟩),c.v] w fun e w'=>StepA Φ w i v e w':=by
 obtain⟨I,lba,a,q,o,p,S,R,Q⟩:=c;simp only at H z;subst H;have O:∀(G:Fn) (first n:Array Value) (w:World),(Instr.makeFunc G first n).run prog w= .ok (.func G first n) w:=fun _ _ _ _=>rfl
 have D:=hid h;have L:=hid z;clear h z;go_enter func9,ntmps9
 go_wp2_with (first
  |((with_reducible refine ae 36 (.tmp 1) (aP.cells ⟨4,lba,a,q,o,p,S,R,Q⟩) (some 3) ?hgd ?ho ?hd ?hx ?_);(case hgd|ho|hd|hx=>rfl);(intro W X s B F u))
  |((with_reducible refine ab 40 _ eO (some 4) ?hgd ?ho ?hd ?_);(case hgd|ho|hd=>rfl);(intro N w2 t C y V))
  |fail)
 have b:Below w.heap.size w w2:=(F.mono s).trans (y.mono (Nat.le_trans s (Nat.le_trans (Nat.le_of_lt u) t)));have f:=hid (Nat.le_trans s (Nat.le_trans (Nat.le_of_lt u) t));have x:=hid (B.below y (Nat.lt_of_lt_of_le u t));have l:=hid C;have d:=hid b;have E:=hid (D.below b);have g:=hid (D.fresh f.out);clear B C F y s t u V b
 refine(aQ i v _ E.out).mono ?_
 rintro e w' ⟨rfl,rfl⟩;have U:=x.cell (i:=0) rfl;go_wp2_with fail
 refine(L.out _ E.out).mono ?_
 rintro e Y ⟨k,P,v',rfl,r,hf⟩;have M:=hid (aK.ahead d.out r);have K:=hid hf;have m:=hid (r.turned.blk l.out g.out);have j:=hid (r.fresh g.out l.lt);clear r hf U
 go_wp2_with (first
  |((with_reducible refine av 40 ?parts (cG k) ?hg ?ho ?hf ?_);(case hg|ho=>rfl);(case hf=>exact fO k))
  |((with_reducible refine aa 40 (.tmp 4) (.tmp 87) N (cG 0) (cG k) 40 m.out rfl cP (jd k) ?hgd ?ho ?hx ?hy ?_);(case hgd|ho|hx|hy=>rfl);(intro Z J T))
  |fail)
 (try simp only[Exit.inBlock,Exit.then])
 refine bodyPost_ret (aZ rfl _ _ J.range rfl underlying40 rfl cP) rfl ⟨k,P,v',rfl,M.away (T.turned (by simp)) j.out f.out,K.out⟩
theorem Hi (Φ:Int→ar→ak→Prop) (i:ar) (v:ak) (c:aP) (w:World) (h:am w i v) (J:c.kind=5) (A:∀B,am B i v→Calls prog 25 #[.pointer (some ⟨i.vb,0,none⟩)] B fun e w'=>MO Φ B i v e w'):
  Calls prog 9 #[.pointer (some ⟨i.vb,0,none⟩),c.v] w fun e w'=>StepA Φ w i v e w':=by
 obtain⟨K,lba,a,q,o,p,U,T,S⟩:=c;simp only at J A;subst J;have Q:∀(H:Fn) (first n:Array Value) (w:World),(Instr.makeFunc H first n).run prog w= .ok (.func H first n) w:=fun _ _ _ _=>rfl
 have E:=hid h;have N:=hid A;clear h A;go_enter func9,ntmps9
 go_wp2_with (first
  |((with_reducible refine ae 36 (.tmp 1) (aP.cells ⟨5,lba,a,q,o,p,U,T,S⟩) (some 3) ?hgd ?ho ?hd ?hx ?_);(case hgd|ho|hd|hx=>rfl);(intro Y Z t C G x))
  |((with_reducible refine ab 40 _ eO (some 4) ?hgd ?ho ?hd ?_);(case hgd|ho|hd=>rfl);(intro P w2 u D z X))
  |fail)
 have b:Below w.heap.size w w2:=(G.mono t).trans (z.mono (Nat.le_trans t (Nat.le_trans (Nat.le_of_lt x) u)));have f:=hid (Nat.le_trans t (Nat.le_trans (Nat.le_of_lt x) u));have y:=hid (C.below z (Nat.lt_of_lt_of_le x u));have l:=hid D;have d:=hid b;have F:=hid (E.below b);have g:=hid (E.fresh f.out);clear C D G z t u x X b
 refine(aQ i v _ F.out).mono ?_
 rintro e w' ⟨rfl,rfl⟩;have W:=y.cell (i:=0) rfl;go_wp2_with fail
 refine(N.out _ F.out).mono ?_
 rintro e w3 ⟨r,k,R,v',I,s,hf⟩;unfold bR.v at I;subst I;have O:=hid (aK.ahead d.out s);have M:=hid hf;have m:=hid (s.turned.blk l.out g.out);have j:=hid (s.fresh g.out l.lt);clear s hf W
 go_wp2_with (first
  |((with_reducible refine av 40 ?parts (cG k) ?hg ?ho ?hf ?_);(case hg|ho=>rfl);(case hf=>exact fO k))
  |((with_reducible refine aa 40 (.tmp 4) (.tmp 87) P (cG 0) (cG k) 40 m.out rfl cP (jd k) ?hgd ?ho ?hx ?hy ?_);(case hgd|ho|hx|hy=>rfl);(intro w5 L V))
  |fail)
 (try simp only[Exit.inBlock,Exit.then])
 refine bodyPost_ret (aZ rfl _ _ L.range rfl underlying40 rfl cP) rfl ⟨k,R,v',rfl,O.away (V.turned (by simp)) j.out f.out,M.out⟩
theorem Hj (Φ:Int→ar→ak→Prop) (i:ar) (v:ak) (c:aP) (w:World) (h:am w i v) (H:c.kind=6) (z:∀A,am A i v→Calls prog 35 #[.pointer (some ⟨i.vb,0,none⟩), .int .i64 c.epoch, .int .i64 c.time] A fun e w'=>Step Φ A i v e w'):
  Calls prog 9 #[.pointer (some ⟨i.vb,0,none⟩),c.v] w fun e w'=>StepA Φ w i v e w':=by
 obtain⟨I,lba,b,r,p,q,S,R,Q⟩:=c;simp only at H z;subst H;have O:∀(G:Fn) (first o:Array Value) (w:World),(Instr.makeFunc G first o).run prog w= .ok (.func G first o) w:=fun _ _ _ _=>rfl
 have D:=hid h;have L:=hid z;clear h z;go_enter func9,ntmps9
 go_wp2_with (first
  |((with_reducible refine ae 36 (.tmp 1) (aP.cells ⟨6,lba,b,r,p,q,S,R,Q⟩) (some 3) ?hgd ?ho ?hd ?hx ?_);(case hgd|ho|hd|hx=>rfl);(intro Y Z t B F x))
  |((with_reducible refine ab 40 _ eO (some 4) ?hgd ?ho ?hd ?_);(case hgd|ho|hd=>rfl);(intro N w2 u C y X))
  |fail)
 have d:Below w.heap.size w w2:=(F.mono t).trans (y.mono (Nat.le_trans t (Nat.le_trans (Nat.le_of_lt x) u)));have g:=hid (Nat.le_trans t (Nat.le_trans (Nat.le_of_lt x) u));have a:=hid (B.below y (Nat.lt_of_lt_of_le x u));have m:=hid C;have f:=hid d;have E:=hid (D.below d);have j:=hid (D.fresh g.out);clear B C F y t u x X d
 refine(aQ i v _ E.out).mono ?_
 rintro e w' ⟨rfl,rfl⟩;have U:=a.cell (i:=0) rfl;have V:=a.cell (i:=2) rfl;have W:=a.cell (i:=3) rfl;go_wp2_with fail
 refine(L.out _ E.out).mono ?_
 rintro e w3 ⟨k,P,v',rfl,s,hf⟩;have M:=hid (aK.ahead f.out s);have K:=hid hf;have n:=hid (s.turned.blk m.out j.out);have l:=hid (s.fresh j.out m.lt);clear s hf U V W
 go_wp2_with (first
  |((with_reducible refine av 40 ?parts (cG k) ?hg ?ho ?hf ?_);(case hg|ho=>rfl);(case hf=>exact fO k))
  |((with_reducible refine aa 40 (.tmp 4) (.tmp 87) N (cG 0) (cG k) 40 n.out rfl cP (jd k) ?hgd ?ho ?hx ?hy ?_);(case hgd|ho|hx|hy=>rfl);(intro w5 J T))
  |fail)
 (try simp only[Exit.inBlock,Exit.then])
 refine bodyPost_ret (aZ rfl _ _ J.range rfl underlying40 rfl cP) rfl ⟨k,P,v',rfl,M.away (T.turned (by simp)) l.out g.out,K.out⟩
theorem Ho (Φ:Int→ar→ak→Prop) (i:ar) (v:ak) (c:aP) (w:World) (h:am w i v) (H:c.kind=7) (z:∀A,am A i v→Calls prog 36 #[.pointer (some ⟨i.vb,0,none⟩), .int .i64 c.epoch, .string c.name] A fun e w'=>Step Φ A i v e w'):
  Calls prog 9 #[.pointer (some ⟨i.vb,0,none⟩),c.v] w fun e w'=>StepA Φ w i v e w':=by
 obtain⟨I,lba,b,r,p,q,S,R,Q⟩:=c;simp only at H z;subst H;have O:∀(G:Fn) (first o:Array Value) (w:World),(Instr.makeFunc G first o).run prog w= .ok (.func G first o) w:=fun _ _ _ _=>rfl
 have D:=hid h;have L:=hid z;clear h z;go_enter func9,ntmps9
 go_wp2_with (first
  |((with_reducible refine ae 36 (.tmp 1) (aP.cells ⟨7,lba,b,r,p,q,S,R,Q⟩) (some 3) ?hgd ?ho ?hd ?hx ?_);(case hgd|ho|hd|hx=>rfl);(intro Y Z t B F x))
  |((with_reducible refine ab 40 _ eO (some 4) ?hgd ?ho ?hd ?_);(case hgd|ho|hd=>rfl);(intro N w2 u C y X))
  |fail)
 have d:Below w.heap.size w w2:=(F.mono t).trans (y.mono (Nat.le_trans t (Nat.le_trans (Nat.le_of_lt x) u)));have g:=hid (Nat.le_trans t (Nat.le_trans (Nat.le_of_lt x) u));have a:=hid (B.below y (Nat.lt_of_lt_of_le x u));have m:=hid C;have f:=hid d;have E:=hid (D.below d);have j:=hid (D.fresh g.out);clear B C F y t u x X d
 refine(aQ i v _ E.out).mono ?_
 rintro e w' ⟨rfl,rfl⟩;have U:=a.cell (i:=0) rfl;have V:=a.cell (i:=2) rfl;have W:=a.cell (i:=5) rfl;go_wp2_with fail
 refine(L.out _ E.out).mono ?_
 rintro e w3 ⟨k,P,v',rfl,s,hf⟩;have M:=hid (aK.ahead f.out s);have K:=hid hf;have n:=hid (s.turned.blk m.out j.out);have l:=hid (s.fresh j.out m.lt);clear s hf U V W
 go_wp2_with (first
  |((with_reducible refine av 40 ?parts (cG k) ?hg ?ho ?hf ?_);(case hg|ho=>rfl);(case hf=>exact fO k))
  |((with_reducible refine aa 40 (.tmp 4) (.tmp 87) N (cG 0) (cG k) 40 n.out rfl cP (jd k) ?hgd ?ho ?hx ?hy ?_);(case hgd|ho|hx|hy=>rfl);(intro w5 J T))
  |fail)
 (try simp only[Exit.inBlock,Exit.then])
 refine bodyPost_ret (aZ rfl _ _ J.range rfl underlying40 rfl cP) rfl ⟨k,P,v',rfl,M.away (T.turned (by simp)) l.out g.out,K.out⟩
theorem Hu (Φ:Int→ar→ak→Prop) (i:ar) (v:ak) (c:aP) (w:World) (h:am w i v) (H:c.kind=8) (z:∀A,am A i v→Calls prog 37 #[.pointer (some ⟨i.vb,0,none⟩), .string c.name] A fun e w'=>Step Φ A i v e w'):
  Calls prog 9 #[.pointer (some ⟨i.vb,0,none⟩),c.v] w fun e w'=>StepA Φ w i v e w':=by
 obtain⟨I,lba,a,r,p,q,S,R,Q⟩:=c;simp only at H z;subst H;have O:∀(G:Fn) (first o:Array Value) (w:World),(Instr.makeFunc G first o).run prog w= .ok (.func G first o) w:=fun _ _ _ _=>rfl
 have D:=hid h;have L:=hid z;clear h z;go_enter func9,ntmps9
 go_wp2_with (first
  |((with_reducible refine ae 36 (.tmp 1) (aP.cells ⟨8,lba,a,r,p,q,S,R,Q⟩) (some 3) ?hgd ?ho ?hd ?hx ?_);(case hgd|ho|hd|hx=>rfl);(intro X Y t B F x))
  |((with_reducible refine ab 40 _ eO (some 4) ?hgd ?ho ?hd ?_);(case hgd|ho|hd=>rfl);(intro N w2 u C y W))
  |fail)
 have b:Below w.heap.size w w2:=(F.mono t).trans (y.mono (Nat.le_trans t (Nat.le_trans (Nat.le_of_lt x) u)));have f:=hid (Nat.le_trans t (Nat.le_trans (Nat.le_of_lt x) u));have l:=hid (B.below y (Nat.lt_of_lt_of_le x u));have m:=hid C;have d:=hid b;have E:=hid (D.below b);have g:=hid (D.fresh f.out);clear B C F y t u x W b
 refine(aQ i v _ E.out).mono ?_
 rintro e w' ⟨rfl,rfl⟩;have U:=l.cell (i:=0) rfl;have V:=l.cell (i:=5) rfl;go_wp2_with fail
 refine(L.out _ E.out).mono ?_
 rintro e Z ⟨k,P,v',rfl,s,hf⟩;have M:=hid (aK.ahead d.out s);have K:=hid hf;have n:=hid (s.turned.blk m.out g.out);have j:=hid (s.fresh g.out m.lt);clear s hf U V
 go_wp2_with (first
  |((with_reducible refine av 40 ?parts (cG k) ?hg ?ho ?hf ?_);(case hg|ho=>rfl);(case hf=>exact fO k))
  |((with_reducible refine aa 40 (.tmp 4) (.tmp 87) N (cG 0) (cG k) 40 n.out rfl cP (jd k) ?hgd ?ho ?hx ?hy ?_);(case hgd|ho|hx|hy=>rfl);(intro w5 J T))
  |fail)
 (try simp only[Exit.inBlock,Exit.then])
 refine bodyPost_ret (aZ rfl _ _ J.range rfl underlying40 rfl cP) rfl ⟨k,P,v',rfl,M.away (T.turned (by simp)) j.out f.out,K.out⟩
theorem Hw (Φ:Int→ar→ak→Prop) (i:ar) (v:ak) (c:aP) (w:World) (h:am w i v) (H:c.kind=9) (z:∀A,am A i v→Calls prog 38 #[.pointer (some ⟨i.vb,0,none⟩), .int .i64 c.epoch] A fun e w'=>Step Φ A i v e w'):
  Calls prog 9 #[.pointer (some ⟨i.vb,0,none⟩),c.v] w fun e w'=>StepA Φ w i v e w':=by
 obtain⟨I,lba,a,r,p,q,S,R,Q⟩:=c;simp only at H z;subst H;have O:∀(G:Fn) (first o:Array Value) (w:World),(Instr.makeFunc G first o).run prog w= .ok (.func G first o) w:=fun _ _ _ _=>rfl
 have D:=hid h;have L:=hid z;clear h z;go_enter func9,ntmps9
 go_wp2_with (first
  |((with_reducible refine ae 36 (.tmp 1) (aP.cells ⟨9,lba,a,r,p,q,S,R,Q⟩) (some 3) ?hgd ?ho ?hd ?hx ?_);(case hgd|ho|hd|hx=>rfl);(intro X Y t B F x))
  |((with_reducible refine ab 40 _ eO (some 4) ?hgd ?ho ?hd ?_);(case hgd|ho|hd=>rfl);(intro N w2 u C y W))
  |fail)
 have b:Below w.heap.size w w2:=(F.mono t).trans (y.mono (Nat.le_trans t (Nat.le_trans (Nat.le_of_lt x) u)));have f:=hid (Nat.le_trans t (Nat.le_trans (Nat.le_of_lt x) u));have l:=hid (B.below y (Nat.lt_of_lt_of_le x u));have m:=hid C;have d:=hid b;have E:=hid (D.below b);have g:=hid (D.fresh f.out);clear B C F y t u x W b
 refine(aQ i v _ E.out).mono ?_
 rintro e w' ⟨rfl,rfl⟩;have U:=l.cell (i:=0) rfl;have V:=l.cell (i:=2) rfl;go_wp2_with fail
 refine(L.out _ E.out).mono ?_
 rintro e Z ⟨k,P,v',rfl,s,hf⟩;have M:=hid (aK.ahead d.out s);have K:=hid hf;have n:=hid (s.turned.blk m.out g.out);have j:=hid (s.fresh g.out m.lt);clear s hf U V
 go_wp2_with (first
  |((with_reducible refine av 40 ?parts (cG k) ?hg ?ho ?hf ?_);(case hg|ho=>rfl);(case hf=>exact fO k))
  |((with_reducible refine aa 40 (.tmp 4) (.tmp 87) N (cG 0) (cG k) 40 n.out rfl cP (jd k) ?hgd ?ho ?hx ?hy ?_);(case hgd|ho|hx|hy=>rfl);(intro w5 J T))
  |fail)
 (try simp only[Exit.inBlock,Exit.then])
 refine bodyPost_ret (aZ rfl _ _ J.range rfl underlying40 rfl cP) rfl ⟨k,P,v',rfl,M.away (T.turned (by simp)) j.out f.out,K.out⟩
theorem Fb (Φ:Int→ar→ak→Prop) (i:ar) (v:ak) (c:aP) (w:World) (h:am w i v) (H:c.kind=11) (z:∀A,am A i v→Calls prog 39 #[.pointer (some ⟨i.vb,0,none⟩), .int .i64 c.time] A fun e w'=>Step Φ A i v e w'):
  Calls prog 9 #[.pointer (some ⟨i.vb,0,none⟩),c.v] w fun e w'=>StepA Φ w i v e w':=by
 obtain⟨I,lba,a,r,p,q,S,R,Q⟩:=c;simp only at H z;subst H;have O:∀(G:Fn) (first o:Array Value) (w:World),(Instr.makeFunc G first o).run prog w= .ok (.func G first o) w:=fun _ _ _ _=>rfl
 have D:=hid h;have L:=hid z;clear h z;go_enter func9,ntmps9
 go_wp2_with (first
  |((with_reducible refine ae 36 (.tmp 1) (aP.cells ⟨11,lba,a,r,p,q,S,R,Q⟩) (some 3) ?hgd ?ho ?hd ?hx ?_);(case hgd|ho|hd|hx=>rfl);(intro X Y t B F x))
  |((with_reducible refine ab 40 _ eO (some 4) ?hgd ?ho ?hd ?_);(case hgd|ho|hd=>rfl);(intro N w2 u C y W))
  |fail)
 have b:Below w.heap.size w w2:=(F.mono t).trans (y.mono (Nat.le_trans t (Nat.le_trans (Nat.le_of_lt x) u)));have f:=hid (Nat.le_trans t (Nat.le_trans (Nat.le_of_lt x) u));have l:=hid (B.below y (Nat.lt_of_lt_of_le x u));have m:=hid C;have d:=hid b;have E:=hid (D.below b);have g:=hid (D.fresh f.out);clear B C F y t u x W b
 refine(aQ i v _ E.out).mono ?_
 rintro e w' ⟨rfl,rfl⟩;have U:=l.cell (i:=0) rfl;have V:=l.cell (i:=3) rfl;go_wp2_with fail
 refine(L.out _ E.out).mono ?_
 rintro e Z ⟨k,P,v',rfl,s,hf⟩;have M:=hid (aK.ahead d.out s);have K:=hid hf;have n:=hid (s.turned.blk m.out g.out);have j:=hid (s.fresh g.out m.lt);clear s hf U V
 go_wp2_with (first
  |((with_reducible refine av 40 ?parts (cG k) ?hg ?ho ?hf ?_);(case hg|ho=>rfl);(case hf=>exact fO k))
  |((with_reducible refine aa 40 (.tmp 4) (.tmp 87) N (cG 0) (cG k) 40 n.out rfl cP (jd k) ?hgd ?ho ?hx ?hy ?_);(case hgd|ho|hx|hy=>rfl);(intro w5 J T))
  |fail)
 (try simp only[Exit.inBlock,Exit.then])
 refine bodyPost_ret (aZ rfl _ _ J.range rfl underlying40 rfl cP) rfl ⟨k,P,v',rfl,M.away (T.turned (by simp)) j.out f.out,K.out⟩
theorem Fe (i:ar) (v:ak) (c:aP) (w:World) (h:am w i v) (A:¬c.kind=1∧¬c.kind=2∧¬c.kind=3∧¬c.kind=4∧¬c.kind=5∧¬c.kind=6∧¬c.kind=7∧¬c.kind=8∧¬c.kind=9∧¬c.kind=10∧¬c.kind=11):
  Calls prog 9 #[.pointer (some ⟨i.vb,0,none⟩),c.v] w fun e w'=>e= .returned (.agg (cG 2).toArray)∧Below w.heap.size w w':=by
 obtain⟨k,lba,a,m,j,l,K,J,I⟩:=c;simp only at A;obtain⟨O,k2,P,Q,R,S,T,U,V,G,H⟩:=A;have F:∀(z:Fn) (first g:Array Value) (w:World),(Instr.makeFunc z first g).run prog w= .ok (.func z first g) w:=fun _ _ _ _=>rfl
 have x:=hid h;clear h;go_enter func9,ntmps9
 go_wp2_with (first
  |((with_reducible refine ae 36 (.tmp 1) (aP.cells ⟨k,lba,a,m,j,l,K,J,I⟩) (some 3) ?hgd ?ho ?hd ?hx ?_);(case hgd|ho|hd|hx=>rfl);(intro N X n t y p))
  |((with_reducible refine ab 40 _ eO (some 4) ?hgd ?ho ?hd ?_);(case hgd|ho|hd=>rfl);(intro E w2 o u s M))
  |fail)
 have b:Below w.heap.size w w2:=(y.mono n).trans (s.mono (Nat.le_trans n (Nat.le_trans (Nat.le_of_lt p) o)));have f:=hid (Nat.le_trans n (Nat.le_trans (Nat.le_of_lt p) o));have q:=hid (t.below s (Nat.lt_of_lt_of_le p o));have r:=hid u;have d:=hid b;have C:=hid (x.below b);have D:=hid (x.fresh f.out);clear t u y s n o p M b
 refine(aQ i v _ C.out).mono ?_
 rintro e w' ⟨rfl,rfl⟩;have W:=q.cell (i:=0) rfl
 go_wp2_with (first
  |((with_reducible refine av 40 ?parts (cG 2) ?hg ?ho ?hf ?_);(case hg|ho=>rfl);(case hf=>exact fO 2))
  |((with_reducible refine aa 40 (.tmp 4) (.tmp 87) E (cG 0) (cG 2) 40 r.out rfl cP (jd 2) ?hgd ?ho ?hx ?hy ?_);(case hgd|ho|hx|hy=>rfl);(intro Y B L))
  |fail)
 (try simp only[Exit.inBlock,Exit.then])
 refine bodyPost_ret (aZ rfl _ _ B.range rfl underlying40 rfl cP) rfl ⟨rfl,L.below d.out f.out⟩
def gu (R:ByteArray→Int→Prop) (w:World) (e:Ending) (w':World):Prop:=(∃r k,e= .returned (.tuple #[.string r, .int .i64 k])∧R r k)∧Below w.heap.size w w'
theorem xQ {c:aP}:(prog.info? 36).map (·.size)=some c.cells.length:=by kernel_rfl
def iE (k:Int) (r:ByteArray):List Value:=[.int .i64 k, .string r]++nw
theorem iO {k:Int} {r:ByteArray}:(prog.info? 40).map (·.size)=some (iE k r).length:=by kernel_rfl
theorem rS (k:Int) (r:ByteArray):∀v∈iE k r,v.oneCell'=true:=by intro v a;simp[iE,nw]at a;rcases a with rfl|rfl|rfl<;>rfl
theorem xR (k:Int) (r:ByteArray):prog.built 40 [(0, .int .i64 k),(1, .string r)]=some (iE k r).toArray:=by kernel_rfl
theorem Dy (R:ByteArray→Int→Prop) (i:ar) (v:ak) (lba:Int) (w:World) (h:am w i v) (a:∀c,am c i v→Calls prog 26 #[.pointer (some ⟨i.vb,0,none⟩), .int .i64 lba, .int .i64 v.epoch] c fun e w'=>gu R c e w'):
  Calls prog 27 #[.pointer (some ⟨i.vb,0,none⟩), .int .i64 lba] w fun e w'=>gu R w e w':=by
 have b:=hid a;clear a;have j:w.cell? ⟨i.vb,5,none⟩=some (.pointer (some ⟨i.bb,0,none⟩)):=h.vol.cell (i:=5) rfl;go_enter func27,ntmps27;go_wp2_with fail
 refine(aQ i v _ h).mono ?_
 rintro e w' ⟨rfl,rfl⟩;go_wp2_with fail
 refine(bg i.bb i.c2 v.first v.epoch i.m1 i.m2 i.m3 _ h.book).mono ?_
 rintro e w' ⟨rfl,rfl⟩;go_wp2_with fail
 refine(b.out _ h).mono ?_
 rintro e l ⟨⟨r,k,rfl,d⟩,hb⟩;have g:=hid d;have f:=hid hb;clear d hb;go_wp2_with fail;go_ret2;exact⟨⟨r,k,rfl,g.out⟩,f.out⟩
theorem AK (R:ByteArray→Int→Prop) (i:ar) (v:ak) (c:aP) (d f:Nat) (w:World) (h:am w i v) (g:ac w d [.pointer (some ⟨i.vb,0,none⟩)] 31) (j:ac w f c.cells 36) (l:∀b,am b i v→Calls prog 26 #[.pointer (some ⟨i.vb,0,none⟩), .int .i64 c.lba, .int .i64 c.epoch] b fun e w'=>gu R b e w'):
  Calls prog 103 #[.pointer (some ⟨d,0,none⟩), .pointer (some ⟨f,0,none⟩)] w fun e w'=>gu R w e w':=by
 have s:=g.cell (i:=0) rfl;have a:=hid j;have n:=hid h;have p:=hid l;have t:=a.cell (i:=1) rfl;have u:=a.cell (i:=2) rfl;clear h g j l;go_enter func103,ntmps103;go_wp2_with fail
 refine(p.out _ n.out).mono ?_
 rintro e x ⟨⟨r,k,rfl,m⟩,hb⟩;have q:=hid m;have o:=hid hb;clear m hb;go_wp2_with fail;go_ret2;exact⟨⟨r,k,rfl,q.out⟩,o.out⟩
theorem AL (R:ByteArray→Int→Prop) (i:ar) (v:ak) (c:aP) (d f:Nat) (w:World) (h:am w i v) (g:ac w d [.pointer (some ⟨i.vb,0,none⟩)] 31) (j:ac w f c.cells 36) (l:∀b,am b i v→Calls prog 27 #[.pointer (some ⟨i.vb,0,none⟩), .int .i64 c.lba] b fun e w'=>gu R b e w'):
  Calls prog 104 #[.pointer (some ⟨d,0,none⟩), .pointer (some ⟨f,0,none⟩)] w fun e w'=>gu R w e w':=by
 have s:=g.cell (i:=0) rfl;have a:=hid j;have n:=hid h;have p:=hid l;have t:=a.cell (i:=1) rfl;clear h g j l;go_enter func104,ntmps104;go_wp2_with fail
 refine(p.out _ n.out).mono ?_
 rintro e u ⟨⟨r,k,rfl,m⟩,hb⟩;have q:=hid m;have o:=hid hb;clear m hb;go_wp2_with fail;go_ret2;exact⟨⟨r,k,rfl,q.out⟩,o.out⟩
theorem yY (R:ByteArray→Int→Prop) (i:ar) (v:ak) (c:aP) (w:World) (h:am w i v) (K:c.kind=2) (L:∀a,am a i v→Calls prog 27 #[.pointer (some ⟨i.vb,0,none⟩), .int .i64 c.lba] a fun e w'=>gu R a e w'):
  Calls prog 33 #[.pointer (some ⟨i.vb,0,none⟩),c.v] w fun e w'=>(∃r k,e= .returned (.agg (iE k r).toArray)∧R r k)∧Below w.heap.size w w':=by
 have Y:∀(J:Fn) (first m:Array Value) (w:World),(Instr.makeFunc J first m).run prog w= .ok (.func J first m) w:=fun _ _ _ _=>rfl
 have z:=hid (fun(s t:Nat) (a:World) (hx:am a i v) (W:ac a s [.pointer (some ⟨i.vb,0,none⟩)] 31) (X:ac a t c.cells 36)=>AL R i v c s t a hx W X L);obtain⟨N,lba,b,q,n,p,kp,kn,Z⟩:=c;simp only at K;subst K;have T:=hid h;clear h L;go_enter func33,ntmps33
 go_wp2_with (first
  |((with_reducible refine aR 31 (.tmp 0) (.pointer (some ⟨i.vb,0,none⟩)) rfl (some 2) ?hgd ?ho ?hd ?hx ?_);(case hgd|ho|hd|hx=>rfl);(intro s w1 O F I Q))
  |((with_reducible refine ae 36 (.tmp 1) (aP.cells ⟨2,lba,b,q,n,p,kp,kn,Z⟩) (some 3) ?hgd ?ho ?hd ?hx ?_);(case hgd|ho|hd|hx=>rfl);(intro t w2 P u C E))
  |((with_reducible refine ab 40 _ eO (some 4) ?hgd ?ho ?hd ?_);(case hgd|ho|hd=>rfl);(intro H w3 D G o z3;have q0:=(u.below o (Nat.lt_of_lt_of_le E D)).cell (i:=0) rfl))
  |fail)
 have d:Below w.heap.size w w3:=((I.mono O).trans (C.mono (by omega))).trans (o.mono (by omega));have A:=hid ((F.below C (Nat.lt_of_lt_of_le Q P)).below o (by omega));have B:=hid (u.below o (Nat.lt_of_lt_of_le E D));have j:=hid G;have y:=hid (show w.heap.size≤H by omega);have g:=hid d;have U:=hid (T.below d);clear F u G I C o O P D Q E z3 d q0
 refine(z.out s t _ U.out A.out B.out).mono ?_
 rintro e w4 ⟨⟨r,k,rfl,M⟩,f⟩;have V:=hid M;have l:=hid (j.below f j.lt);have x:=hid (g.trans (f.mono g.size));clear M f
 go_wp2_with (first
  |((with_reducible refine av 40 ?parts (iE k r) ?hg ?ho ?hf ?_);(case hg|ho=>rfl);(case hf=>exact xR k r))
  |((with_reducible refine aa 40 (.tmp 4) (.tmp 20) H (cG 0) (iE k r) 40 l.out rfl iO (rS k r) ?hgd ?ho ?hx ?hy ?_);(case hgd|ho|hx|hy=>rfl);(intro w5 S o5))
  |fail)
 (try simp only[Exit.inBlock,Exit.then])
 refine bodyPost_ret (aZ rfl _ _ S.range rfl underlying40 rfl iO) rfl ⟨⟨r,k,rfl,V.out⟩,o5.below x.out y.out⟩
theorem Hz (R:ByteArray→Int→Prop) (i:ar) (v:ak) (c:aP) (w:World) (h:am w i v) (B:c.kind=2) (I:∀m,am m i v→Calls prog 27 #[.pointer (some ⟨i.vb,0,none⟩), .int .i64 c.lba] m fun e w'=>gu R m e w'):
  Calls prog 9 #[.pointer (some ⟨i.vb,0,none⟩),c.v] w fun e w'=>(∃r k,e= .returned (.agg (iE k r).toArray)∧R r k)∧Below w.heap.size w w':=by
 have z:=hid (fun(m:World) (hx:am m i v)=>yY R i v c m hx B I);obtain⟨L,lba,a,g,d,f,N,M,K⟩:=c;simp only at B;subst B;have U:∀(H:Fn) (first s:Array Value) (w:World),(Instr.makeFunc H first s).run prog w= .ok (.func H first s) w:=fun _ _ _ _=>rfl
 have E:=hid h;clear h I;go_enter func9,ntmps9
 go_wp2_with (first
  |((with_reducible refine ae 36 (.tmp 1) (aP.cells ⟨2,lba,a,g,d,f,N,M,K⟩) (some 3) ?hgd ?ho ?hd ?hx ?_);(case hgd|ho|hd|hx=>rfl);(intro S Y t C G x))
  |((with_reducible refine ab 40 _ eO (some 4) ?hgd ?ho ?hd ?_);(case hgd|ho|hd=>rfl);(intro T w2 u D A X))
  |fail)
 have j:Below w.heap.size w w2:=(G.mono t).trans (A.mono (Nat.le_trans t (Nat.le_trans (Nat.le_of_lt x) u)));have n:=hid (Nat.le_trans t (Nat.le_trans (Nat.le_of_lt x) u));have o:=hid (C.below A (Nat.lt_of_lt_of_le x u));have p:=hid D;have b:=hid j;have F:=hid (E.below j);have P:=hid (E.fresh n.out);clear C D G A t u x X j
 refine(aQ i v _ F.out).mono ?_
 rintro e w' ⟨rfl,rfl⟩;have W:=o.cell (i:=0) rfl
 go_wp2_with (first
  |((with_reducible refine al 36 (.tmp 3) S (aP.cells ⟨2,lba,a,g,d,f,N,M,K⟩) 36 _ o.out underlying36 rfl xQ ?hgd ?ho ?hx ?_);(case hgd|ho|hx=>rfl))
  |fail)
 refine(z.out _ F.out).mono ?_
 rintro e Z ⟨⟨r,k,rfl,J⟩,l⟩;have Q:=hid J;have q:=hid (p.below l p.lt);have y:=hid (b.trans (l.mono b.size));clear J l W
 go_wp2_with (first
  |((with_reducible refine aa 40 (.tmp 4) (.tmp 20) T (cG 0) (iE k r) 40 q.out rfl iO (rS k r) ?hgd ?ho ?hx ?hy ?_);(case hgd|ho|hx|hy=>rfl);(intro w5 O V))
  |fail)
 (try simp only[Exit.inBlock,Exit.then])
 refine bodyPost_ret (aZ rfl _ _ O.range rfl underlying40 rfl iO) rfl ⟨⟨r,k,rfl,Q.out⟩,V.below y.out n.out⟩
theorem yZ (R:ByteArray→Int→Prop) (i:ar) (v:ak) (c:aP) (w:World) (h:am w i v) (K:c.kind=3) (L:∀a,am a i v→Calls prog 26 #[.pointer (some ⟨i.vb,0,none⟩), .int .i64 c.lba, .int .i64 c.epoch] a fun e w'=>gu R a e w'):
  Calls prog 33 #[.pointer (some ⟨i.vb,0,none⟩),c.v] w fun e w'=>(∃r k,e= .returned (.agg (iE k r).toArray)∧R r k)∧Below w.heap.size w w':=by
 have Y:∀(J:Fn) (first m:Array Value) (w:World),(Instr.makeFunc J first m).run prog w= .ok (.func J first m) w:=fun _ _ _ _=>rfl
 have z:=hid (fun(s t:Nat) (a:World) (hx:am a i v) (W:ac a s [.pointer (some ⟨i.vb,0,none⟩)] 31) (X:ac a t c.cells 36)=>AK R i v c s t a hx W X L);obtain⟨N,lba,b,q,n,p,kp,kn,Z⟩:=c;simp only at K;subst K;have T:=hid h;clear h L;go_enter func33,ntmps33
 go_wp2_with (first
  |((with_reducible refine aR 31 (.tmp 0) (.pointer (some ⟨i.vb,0,none⟩)) rfl (some 2) ?hgd ?ho ?hd ?hx ?_);(case hgd|ho|hd|hx=>rfl);(intro s w1 O F I Q))
  |((with_reducible refine ae 36 (.tmp 1) (aP.cells ⟨3,lba,b,q,n,p,kp,kn,Z⟩) (some 3) ?hgd ?ho ?hd ?hx ?_);(case hgd|ho|hd|hx=>rfl);(intro t w2 P u C E))
  |((with_reducible refine ab 40 _ eO (some 4) ?hgd ?ho ?hd ?_);(case hgd|ho|hd=>rfl);(intro H w3 D G o z3;have q0:=(u.below o (Nat.lt_of_lt_of_le E D)).cell (i:=0) rfl))
  |fail)
 have d:Below w.heap.size w w3:=((I.mono O).trans (C.mono (by omega))).trans (o.mono (by omega));have A:=hid ((F.below C (Nat.lt_of_lt_of_le Q P)).below o (by omega));have B:=hid (u.below o (Nat.lt_of_lt_of_le E D));have j:=hid G;have y:=hid (show w.heap.size≤H by omega);have g:=hid d;have U:=hid (T.below d);clear F u G I C o O P D Q E z3 d q0
 refine(z.out s t _ U.out A.out B.out).mono ?_
 rintro e w4 ⟨⟨r,k,rfl,M⟩,f⟩;have V:=hid M;have l:=hid (j.below f j.lt);have x:=hid (g.trans (f.mono g.size));clear M f
 go_wp2_with (first
  |((with_reducible refine av 40 ?parts (iE k r) ?hg ?ho ?hf ?_);(case hg|ho=>rfl);(case hf=>exact xR k r))
  |((with_reducible refine aa 40 (.tmp 4) (.tmp 20) H (cG 0) (iE k r) 40 l.out rfl iO (rS k r) ?hgd ?ho ?hx ?hy ?_);(case hgd|ho|hx|hy=>rfl);(intro w5 S o5))
  |fail)
 (try simp only[Exit.inBlock,Exit.then])
 refine bodyPost_ret (aZ rfl _ _ S.range rfl underlying40 rfl iO) rfl ⟨⟨r,k,rfl,V.out⟩,o5.below x.out y.out⟩
theorem H9 (R:ByteArray→Int→Prop) (i:ar) (v:ak) (c:aP) (w:World) (h:am w i v) (B:c.kind=3) (I:∀m,am m i v→Calls prog 26 #[.pointer (some ⟨i.vb,0,none⟩), .int .i64 c.lba, .int .i64 c.epoch] m fun e w'=>gu R m e w'):
  Calls prog 9 #[.pointer (some ⟨i.vb,0,none⟩),c.v] w fun e w'=>(∃r k,e= .returned (.agg (iE k r).toArray)∧R r k)∧Below w.heap.size w w':=by
 have z:=hid (fun(m:World) (hx:am m i v)=>yZ R i v c m hx B I);obtain⟨L,lba,a,g,d,f,N,M,K⟩:=c;simp only at B;subst B;have U:∀(H:Fn) (first s:Array Value) (w:World),(Instr.makeFunc H first s).run prog w= .ok (.func H first s) w:=fun _ _ _ _=>rfl
 have E:=hid h;clear h I;go_enter func9,ntmps9
 go_wp2_with (first
  |((with_reducible refine ae 36 (.tmp 1) (aP.cells ⟨3,lba,a,g,d,f,N,M,K⟩) (some 3) ?hgd ?ho ?hd ?hx ?_);(case hgd|ho|hd|hx=>rfl);(intro S Y t C G x))
  |((with_reducible refine ab 40 _ eO (some 4) ?hgd ?ho ?hd ?_);(case hgd|ho|hd=>rfl);(intro T w2 u D A X))
  |fail)
 have j:Below w.heap.size w w2:=(G.mono t).trans (A.mono (Nat.le_trans t (Nat.le_trans (Nat.le_of_lt x) u)));have n:=hid (Nat.le_trans t (Nat.le_trans (Nat.le_of_lt x) u));have o:=hid (C.below A (Nat.lt_of_lt_of_le x u));have p:=hid D;have b:=hid j;have F:=hid (E.below j);have P:=hid (E.fresh n.out);clear C D G A t u x X j
 refine(aQ i v _ F.out).mono ?_
 rintro e w' ⟨rfl,rfl⟩;have W:=o.cell (i:=0) rfl
 go_wp2_with (first
  |((with_reducible refine al 36 (.tmp 3) S (aP.cells ⟨3,lba,a,g,d,f,N,M,K⟩) 36 _ o.out underlying36 rfl xQ ?hgd ?ho ?hx ?_);(case hgd|ho|hx=>rfl))
  |fail)
 refine(z.out _ F.out).mono ?_
 rintro e Z ⟨⟨r,k,rfl,J⟩,l⟩;have Q:=hid J;have q:=hid (p.below l p.lt);have y:=hid (b.trans (l.mono b.size));clear J l W
 go_wp2_with (first
  |((with_reducible refine aa 40 (.tmp 4) (.tmp 20) T (cG 0) (iE k r) 40 q.out rfl iO (rS k r) ?hgd ?ho ?hx ?hy ?_);(case hgd|ho|hx|hy=>rfl);(intro w5 O V))
  |fail)
 (try simp only[Exit.inBlock,Exit.then])
 refine bodyPost_ret (aZ rfl _ _ O.range rfl underlying40 rfl iO) rfl ⟨⟨r,k,rfl,Q.out⟩,V.below y.out n.out⟩
def ri (v:ak) (b:ax):List Value:=[.int .i64 0, .string ⟨#[]⟩]++ju v b
theorem AN {v:ak} {b:ax}:(prog.info? 40).map (·.size)=some (ri v b).length:=by kernel_rfl
theorem xT {v:ak} {b:ax}:(prog.info? 38).map (·.size)=some (ju v b).length:=by kernel_rfl
theorem K8 (v:ak) (b:ax):∀x∈ri v b,x.oneCell'=true:=by
 intro x a;unfold ri at a
 rcases List.mem_append.1 a with a|a
 ·simp at a;rcases a with rfl|rfl<;>rfl
 ·exact ww v b x a
theorem Ia (a b c d e f:Int):prog.built 40 [(0, .int .i64 0),(2, .agg #[.int .i64 a, .int .i64 b, .int .i64 c, .int .i64 d, .int .i64 e, .int .i64 f])]=some (#[.int .i64 0, .string ⟨#[]⟩, .int .i64 a, .int .i64 b, .int .i64 c, .int .i64 d, .int .i64 e, .int .i64 f]:Array Value):=by kernel_rfl
theorem Ib (v:ak) (b:ax):prog.built 40 [(0, .int .i64 0),(2, .agg (ju v b).toArray)]=some (ri v b).toArray:=Ia v.epoch v.clock (cj v.last.geo v.used) (v.sealed.length:Int) ((df v.vers).1:Int) (b.holds.length:Int)
theorem Ff (i:ar) (v:ak) (b:ax) (c:aP) (w:World) (h:am w i v) (T:c.kind=10) (X:bC v) (r:bK v.U v.L v.G b) (t:v.vers.length≤4096) (s:v.sealed.length≤1048576):
  Calls prog 9 #[.pointer (some ⟨i.vb,0,none⟩),c.v] w fun e w'=>e= .returned (.agg (ri v b).toArray)∧Below w.heap.size w w':=by
 have C:=hid (fun(Z:World) (hx:am Z i v)=>E9 i v b Z hx X r t s);clear X r t s;obtain⟨V,lba,f,x,q,u,kp,kn,kc⟩:=c;simp only at T;subst T;have aq:∀(S:Fn) (first p:Array Value) (w:World),(Instr.makeFunc S first p).run prog w= .ok (.func S first p) w:=fun _ _ _ _=>rfl
 have N:=hid h;clear h;go_enter func9,ntmps9
 go_wp2_with (first
  |((with_reducible refine ae 36 (.tmp 1) (aP.cells ⟨10,lba,f,x,q,u,kp,kn,kc⟩) (some 3) ?hgd ?ho ?hd ?hx ?_);(case hgd|ho|hd|hx=>rfl);(intro b3 w1 y I Q A))
  |((with_reducible refine ab 40 _ eO (some 4) ?hgd ?ho ?hd ?_);(case hgd|ho|hd=>rfl);(intro b4 w2 z J F z2))
  |fail)
 have g:Below w.heap.size w w2:=(Q.mono y).trans (F.mono (Nat.le_trans y (Nat.le_trans (Nat.le_of_lt A) z)));have m:=hid (Nat.le_trans y (Nat.le_trans (Nat.le_of_lt A) z));have D:=hid (I.below F (Nat.lt_of_lt_of_le A z));have n:=hid J;have a:=hid g;have O:=hid (N.below g);have ah:=hid (N.fresh m.out);clear I J Q F y z A z2 g
 refine(aQ i v _ O.out).mono ?_
 rintro e w' ⟨rfl,rfl⟩;have q0:=D.cell (i:=0) rfl;go_wp2_with fail
 refine(C.out _ O.out).mono ?_
 rintro e Y ⟨rfl,j⟩;have d:=hid (n.below j n.lt);have l:=hid (a.trans (j.mono a.size));clear j q0
 go_upto_region 11 with(first
  |((with_reducible refine ab 38 _ xO (some 6) ?hgd ?ho ?hd ?_);(case hgd|ho|hd=>rfl);(intro P w4 H K R z4))
  |((with_reducible refine aa 38 (.tmp 6) (.tmp 26) P nw (ju v b) 38 K rfl xT (ww v b) ?hgd ?ho ?hx ?hy ?_);(case hgd|ho|hx|hy=>rfl);(intro w5 M W))
  |fail)
 have k:Below Y.heap.size Y w5:=W.below (R.mono H) H;have E:=hid M;have o:=hid (d.below k d.lt);have B:=hid (l.trans (k.mono l.size));clear K M R H z4 W k
 go_wp2_with (first
  |((with_reducible refine al 38 (.tmp 6) P (ju v b) 38 _ E.out underlying38 rfl xT ?hgd ?ho ?hx ?_);(case hgd|ho|hx=>rfl))
  |((with_reducible refine av 40 ?parts30 (ri v b) ?hg ?ho ?hf ?_);(case hg|ho=>rfl);(case hf=>refine Eq.trans ?_ (Ib v b);kernel_rfl))
  |((with_reducible refine aa 40 (.tmp 4) (.tmp 30) b4 (cG 0) (ri v b) 40 o.out rfl AN (K8 v b) ?hgd ?ho ?hx ?hy ?_);(case hgd|ho|hx|hy=>rfl);(intro w6 B6 o6))
  |fail)
 (try simp only[Exit.inBlock,Exit.then])
 refine bodyPost_ret (aZ rfl _ _ B6.range rfl underlying40 rfl AN) rfl ⟨rfl,o6.below B.out m.out⟩
def kB (v:ak) (block kb:ByteArray):ao:={({v.d with cs:=v.d.cs++[(4+v.used,block)]}:ao)with cs:=({v.d with cs:=v.d.cs++[(4+v.used,block)]}:ao).cs++[(2+(v.last.epoch+1) % 2,kb)]}
def kC (v:ak) (block kb q:ByteArray):ao:={(kB v block kb).flushed with cs:=(kB v block kb).flushed.cs++[((v.last.gen+1) % 2,q)]}
def wH (v:ak) (block kb q nb:ByteArray):ao:={(kC v block kb q).flushed with cs:=(kC v block kb q).flushed.cs++[(2+v.last.epoch % 2,nb)]}
theorem AO (v:ak) (a kb q nb:ByteArray):fK v a kb q nb=(wH v a kb q nb).flushed:=rfl
theorem rj {v:ak} {n m:Nat} (h:Calm v.d n m) (c:0≤v.used) (e:4+v.used<n) (b:4≤n) (a kb:ByteArray):Calm (kB v a kb) n (m+2):=
 (h.put (i:=4+v.used) (by omega) (by omega) v.d.cv a).put (i:=2+(v.last.epoch+1) % 2) (by omega) (by omega) v.d.cv kb
theorem rk {v:ak} {n m:Nat} (h:Calm v.d n m) (c:0≤v.used) (e:4+v.used<n) (b:4≤n) (a kb q:ByteArray):Calm (kC v a kb q) n 1:=
 (rj h c e b a kb).flushed.put (i:=(v.last.gen+1) % 2) (by omega) (by omega) _ q
theorem rl {v:ak} {n m:Nat} (h:Calm v.d n m) (c:0≤v.used) (e:4+v.used<n) (b:4≤n) (a kb q nb:ByteArray):Calm (wH v a kb q nb) n 1:=
 (rk h c e b a kb q).flushed.put (i:=2+v.last.epoch % 2) (by omega) (by omega) _ nb
theorem oN {v:ak} {n m:Nat} (h:Calm v.d n m) (c:0≤v.used) (e:4+v.used<n) (b:4≤n) (a kb q nb:ByteArray):Calm (fK v a kb q nb) n 0:=
 (rl h c e b a kb q nb).flushed
theorem nz {v:ak} {n m:Nat} (h:Calm v.d n m) (c:0≤v.used) (e:4+v.used<n) (b:4≤n) (a kb q nb:ByteArray) (i:Int) (l:4≤i):
  (fK v a kb q nb).shown i=if 4+v.used=i then a else v.d.shown i:=by
 rw[AO,eS (rl h c e b a kb q nb) i (by omega)]
 have k:(wH v a kb q nb).shown i=(kC v a kb q).flushed.shown i:=
  (fg (kC v a kb q).flushed (kC v a kb q).flushed.cv (2+v.last.epoch % 2) i nb).trans (if_neg (by omega))
 have j:(kC v a kb q).shown i=(kB v a kb).flushed.shown i:=
  (fg (kB v a kb).flushed (kB v a kb).flushed.cv ((v.last.gen+1) % 2) i q).trans (if_neg (by omega))
 have g:(kB v a kb).shown i=({v.d with cs:=v.d.cs++[(4+v.used,a)]}:ao).shown i:=
  (fg ({v.d with cs:=v.d.cs++[(4+v.used,a)]}:ao) v.d.cv (2+(v.last.epoch+1) % 2) i kb).trans (if_neg (by omega))
 have f:=fg v.d v.d.cv (4+v.used) i a;rw[k,eS (rk h c e b a kb q) i (by omega),j,eS (rj h c e b a kb) i (by omega),g];exact f
end Go.Proofs.YtadooplpfhdhcaaGreat
