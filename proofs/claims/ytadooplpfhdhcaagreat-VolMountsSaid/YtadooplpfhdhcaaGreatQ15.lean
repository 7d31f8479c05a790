/- Products and the table of stand-ins (chapter 5): Mul, turned, boxes. A block's state (chapter 5): of, add, turn, mix, each. A block's state (chapter 5): add, mix, each. A block's state (chapter 5): mix. -/
import Derived.Test.YtadooplpfhdhcaaGreatQ14
import Derived.Test.YtadooplpfhdhcaaGreatQ8
import Derived.Test.YtadooplpfhdhcaaGreatQ7
import Derived.Test.YtadooplpfhdhcaaGreatQ4
import Derived.Laws.IdiomCopy
import Derived.IntWalk
set_option linter.unusedSimpArgs false
set_option linter.unusedVariables false
set_option maxRecDepth 100000
set_option maxHeartbeats 4000000
namespace Go.Proofs.YtadooplpfhdhcaaGreat
open Go Go.RowKit
open Go.Lib (hid)
open Go.Proofs.Tryz
theorem jB {P:UInt8→Prop} (h:∀n:Fin 256,P (UInt8.ofNat n.val)) (b:UInt8):P b:=by
 have:=h ⟨b.toNat,b.toNat_lt⟩
 simpa using this
theorem yP (y:UInt8):y&&&1=1↔(bits BinOp.and IntKind.u8 ((y.toNat:Nat):Int) 1==1)=true:=by
 refine jB (P:=fun y=>y&&&1=1↔(bits BinOp.and IntKind.u8 ((y.toNat:Nat):Int) 1==1)=true) ?_ y
 decide+kernel
theorem Lp (x:UInt8):bits BinOp.xor IntKind.u8 (((x.toNat:Nat):Int)*(2:Int) % (256:Int)) (((x.toNat:Nat):Int)/(128:Int)*(27:Int))=((((x<<<1)^^^((x>>>7)*27)).toNat:Nat):Int):=by
 refine jB (P:=fun x=>bits BinOp.xor IntKind.u8 (((x.toNat:Nat):Int)*(2:Int) % (256:Int)) (((x.toNat:Nat):Int)/(128:Int)*(27:Int))=((((x<<<1)^^^((x>>>7)*27)).toNat:Nat):Int)) ?_ x
 decide+kernel
theorem Lq (y:UInt8):((y.toNat:Nat):Int)/(2:Int)=(((y>>>1).toNat:Nat):Int):=by
 refine jB (P:=fun y=>((y.toNat:Nat):Int)/(2:Int)=(((y>>>1).toNat:Nat):Int)) ?_ y
 decide+kernel
theorem Ik (x y:UInt8):bits BinOp.xor IntKind.u8 (((x.toNat:Nat):Int)*(2:Int) % (256:Int)) (((x.toNat:Nat):Int)/(128:Int)*(27:Int))=((((x<<<1)^^^((x>>>7)*27)).toNat:Nat):Int)∧((y.toNat:Nat):Int)/(2:Int)=(((y>>>1).toNat:Nat):Int):=⟨Lp x,Lq y⟩
theorem mul_one (n x y:UInt8) (h:(bits BinOp.and IntKind.u8 ((y.toNat:Nat):Int) 1==1)=true):lV (n,x,y)=(n^^^x,(x<<<1)^^^((x>>>7)*27),y>>>1):=by
 unfold lV;rw[if_pos ((yP y).2 h)]
theorem Il (n x y:UInt8) (h:(bits BinOp.and IntKind.u8 ((y.toNat:Nat):Int) 1==1)=false):lV (n,x,y)=(n,(x<<<1)^^^((x>>>7)*27),y>>>1):=by
 unfold lV;rw[if_neg (fun b=>by have a:=(yP y).1 b;rw[h]at a;cases a)]
theorem oH (a b:UInt8) (w:World):
  Calls prog 299 #[.int .u8 ((a.toNat:Nat):Int), .int .u8 ((b.toNat:Nat):Int)] w fun e w'=>e= .returned (.int .u8 (((oG a b).toNat:Nat):Int))∧w=w':=by
 go_enter func299,ntmps299;go_wp2_with fail;go_loop [0,1,5,7] (fun x y n i=>∃k:Nat,k≤8∧i= .int .i64 k∧n= .int .u8 (((oD a b k).1.toNat:Nat):Int)∧x= .int .u8 (((oD a b k).2.1.toNat:Nat):Int)∧y= .int .u8 (((oD a b k).2.2.toNat:Nat):Int)) (fun _ _ _ i=>8-(intOf i).toNat)
 case atStart=>exact⟨0,by omega,rfl,rfl,rfl,rfl⟩
 case round=>
  obtain⟨k,p,rfl,rfl,rfl,rfl⟩:=hrel
  by_cases m:k<8
  ·have h:(k:Int)<8:=by omega
   obtain⟨s,j⟩:∃s,Hid (oD a b k=s):=⟨_,rfl⟩;have g:oD a b (k+1)=lV s:=by rw[←j.out];rfl
   rw[j.out];have c:=hid g;clear g;obtain⟨n,x,y⟩:=s;simp only;have o:=x.toNat_lt;have hy:=y.toNat_lt;have hn:=n.toNat_lt;have d:=hid (Ik x y)
   cases h1:(bits BinOp.and IntKind.u8 ((y.toNat:Nat):Int) 1==1)with
   |true=>
    have f:=hid (mul_one n x y h1);have l:=hid (u8_xor_nat n.toNat x.toNat (by simpa using hn) (by simpa using o));go_wp2_with fail;go_round
    case rel=>exact⟨k+1,by omega,by go_num,by rw[c.out,f.out];show Value.int IntKind.u8 (bits BinOp.xor IntKind.u8 _ _)= _;rw[l.out,UInt8.toNat_xor],by rw[c.out,f.out,d.out.1],by rw[c.out,f.out,d.out.2]⟩
    case measure=>simp[intOf];omega
   |false=>
    have f:=hid (Il n x y h1);go_wp2_with fail;go_round
    case rel=>exact⟨k+1,by omega,by go_num,by rw[c.out,f.out],by rw[c.out,f.out,d.out.1],by rw[c.out,f.out,d.out.2]⟩
    case measure=>simp[intOf];omega
  ·obtain rfl:k=8:=by omega
   go_wp2_with fail;go_ret;exact⟨rfl,rfl⟩
theorem Jv (b:UInt8):bits BinOp.or IntKind.u8 (((b.toNat:Nat):Int)*(2:Int) % (256:Int)) (((b.toNat:Nat):Int)/(128:Int))=(((eF b 1).toNat:Nat):Int):=by
 refine jB (P:=fun b=>bits BinOp.or IntKind.u8 (((b.toNat:Nat):Int)*(2:Int) % (256:Int)) (((b.toNat:Nat):Int)/(128:Int))=(((eF b 1).toNat:Nat):Int)) ?_ b
 decide+kernel
theorem Jw (b:UInt8):bits BinOp.or IntKind.u8 (((b.toNat:Nat):Int)*(4:Int) % (256:Int)) (((b.toNat:Nat):Int)/(64:Int))=(((eF b 2).toNat:Nat):Int):=by
 refine jB (P:=fun b=>bits BinOp.or IntKind.u8 (((b.toNat:Nat):Int)*(4:Int) % (256:Int)) (((b.toNat:Nat):Int)/(64:Int))=(((eF b 2).toNat:Nat):Int)) ?_ b
 decide+kernel
theorem Jy (b:UInt8):bits BinOp.or IntKind.u8 (((b.toNat:Nat):Int)*(8:Int) % (256:Int)) (((b.toNat:Nat):Int)/(32:Int))=(((eF b 3).toNat:Nat):Int):=by
 refine jB (P:=fun b=>bits BinOp.or IntKind.u8 (((b.toNat:Nat):Int)*(8:Int) % (256:Int)) (((b.toNat:Nat):Int)/(32:Int))=(((eF b 3).toNat:Nat):Int)) ?_ b
 decide+kernel
theorem Jz (b:UInt8):bits BinOp.or IntKind.u8 (((b.toNat:Nat):Int)*(16:Int) % (256:Int)) (((b.toNat:Nat):Int)/(16:Int))=(((eF b 4).toNat:Nat):Int):=by
 refine jB (P:=fun b=>bits BinOp.or IntKind.u8 (((b.toNat:Nat):Int)*(16:Int) % (256:Int)) (((b.toNat:Nat):Int)/(16:Int))=(((eF b 4).toNat:Nat):Int)) ?_ b
 decide+kernel
theorem yQ (b:UInt8) (w:World):
  Calls prog 300 #[.int .u8 ((b.toNat:Nat):Int), .int .i64 1] w fun e d=>e= .returned (.int .u8 (((eF b 1).toNat:Nat):Int))∧d=w.drew:=by
 have hb:=b.toNat_lt;have a:=hid (Jv b);have c:IntKind.i64.wrap 7=7:=by decide+kernel
 go_enter func300,ntmps300;go_wp2_with fail;refine aB (by kernel_rfl) (by kernel_rfl) ?_
 iterate 9 still_step
 refine wpStill_nil ?_;go_wp2_with fail;go_ret;refine⟨?_,rfl⟩
 show Ending.returned (Value.int IntKind.u8 _)= _
 rw[←a.out,IntKind.wrap_u8]
theorem yR (b:UInt8) (w:World):
  Calls prog 300 #[.int .u8 ((b.toNat:Nat):Int), .int .i64 2] w fun e d=>e= .returned (.int .u8 (((eF b 2).toNat:Nat):Int))∧d=w.drew:=by
 have hb:=b.toNat_lt;have a:=hid (Jw b);have c:IntKind.i64.wrap 6=6:=by decide+kernel
 go_enter func300,ntmps300;go_wp2_with fail;refine aB (by kernel_rfl) (by kernel_rfl) ?_
 iterate 9 still_step
 refine wpStill_nil ?_;go_wp2_with fail;go_ret;refine⟨?_,rfl⟩
 show Ending.returned (Value.int IntKind.u8 _)= _
 rw[←a.out,IntKind.wrap_u8]
theorem yS (b:UInt8) (w:World):
  Calls prog 300 #[.int .u8 ((b.toNat:Nat):Int), .int .i64 3] w fun e d=>e= .returned (.int .u8 (((eF b 3).toNat:Nat):Int))∧d=w.drew:=by
 have hb:=b.toNat_lt;have a:=hid (Jy b);have c:IntKind.i64.wrap 5=5:=by decide+kernel
 go_enter func300,ntmps300;go_wp2_with fail;refine aB (by kernel_rfl) (by kernel_rfl) ?_
 iterate 9 still_step
 refine wpStill_nil ?_;go_wp2_with fail;go_ret;refine⟨?_,rfl⟩
 show Ending.returned (Value.int IntKind.u8 _)= _
 rw[←a.out,IntKind.wrap_u8]
theorem yT (b:UInt8) (w:World):
  Calls prog 300 #[.int .u8 ((b.toNat:Nat):Int), .int .i64 4] w fun e d=>e= .returned (.int .u8 (((eF b 4).toNat:Nat):Int))∧d=w.drew:=by
 have hb:=b.toNat_lt;have a:=hid (Jz b);have c:IntKind.i64.wrap 4=4:=by decide+kernel
 go_enter func300,ntmps300;go_wp2_with fail;refine aB (by kernel_rfl) (by kernel_rfl) ?_
 iterate 9 still_step
 refine wpStill_nil ?_;go_wp2_with fail;go_ret;refine⟨?_,rfl⟩
 show Ending.returned (Value.int IntKind.u8 _)= _
 rw[←a.out,IntKind.wrap_u8]
theorem uT (w:World):Sem.run prog (zeroValue 331) w= .ok (.agg (bytesV (List.replicate 256 0)).toArray) w:=by kernel_rfl
theorem qO {l:List UInt8} (h:l.length=256):(prog.info? 331).map (·.size)=some (bytesV l).length:=by rw[ax,h];kernel_rfl
theorem CJ:(prog.info? 5).map (·.size)=some 1:=by kernel_rfl
def LQ (q:UInt8):UInt8:=q^^^eF q 1^^^eF q 2^^^eF q 3^^^eF q 4^^^99
theorem mi (a b:UInt8):bits BinOp.xor IntKind.u8 ((a.toNat:Nat):Int) ((b.toNat:Nat):Int)=(((a^^^b).toNat:Nat):Int):=by
 rw[u8_xor_nat _ _ (by simpa using a.toNat_lt) (by simpa using b.toNat_lt),UInt8.toNat_xor]
theorem s8 (w:World):
  Calls prog 276 #[] w fun e w'=>e= .returned (.agg (bytesV jk).toArray)∧Below w.heap.size w w':=by
 go_enter func276,ntmps276
 go_wp2_with (first
  |((with_reducible refine ab 331 _ uT (some 0) ?hgd ?ho ?hd ?_);(case hgd|ho|hd=>rfl);(intro h Y s E K u))
  |((with_reducible refine ab 331 _ uT (some 1) ?hgd ?ho ?hd ?_);(case hgd|ho|hd=>rfl);(intro b Z t F B S))
  |fail)
 have z:=hid s;have g:=hid (Nat.le_trans s (Nat.le_of_lt (Nat.lt_of_lt_of_le u t)));have H:=hid (show h<b from Nat.lt_of_lt_of_le u t);have n:=E.below B (Nat.lt_of_lt_of_le u t);have c:=(K.mono s).trans (B.mono g.out);clear E K B s t u S;go_loopw [2,3,4] (fun p q i wr=>∃k:Nat,k≤255∧i= .int .i64 k∧p= .int .u8 (((eU k).1.toNat:Nat):Int)∧q= .int .u8 (((eU k).2.1.toNat:Nat):Int)∧ac wr b (bytesV (eU k).2.2) 331∧ac wr h (bytesV (List.replicate 256 0)) 331∧Below w.heap.size w wr) (fun _ _ i _=>255-(intOf i).toNat)
 case atStart=>exact⟨0,by omega,rfl,rfl,rfl,F,n,c⟩
 case round=>
  clear F n c;obtain⟨k,X,rfl,rfl,rfl,L,n,c⟩:=hrel;have r:=hid L;have G:=hid n;have j:=hid c;clear L n c
  by_cases P:k<255
  ·have N:(k:Int)<255:=by omega
   obtain⟨p,I⟩:∃p,Hid (p=oG (eU k).1 3):=⟨_,rfl⟩;obtain⟨q,J⟩:∃q,Hid (q=oG (eU k).2.1 246):=⟨_,rfl⟩;have A:=hid (show eU (k+1)=(p,q,(eU k).2.2.set p.toNat (LQ q)) by rw[I.out,J.out];rfl);go_wp2_with fail
   refine(oH (eU k).1 3 _).mono ?_
   rintro e w' ⟨rfl,rfl⟩;rw[←I.out];go_wp2_with fail
   refine(oH (eU k).2.1 246 _).mono ?_
   rintro e w' ⟨rfl,rfl⟩;rw[←J.out];go_wp2_with fail
   refine(yQ q _).mono ?_
   rintro e w' ⟨rfl,rfl⟩;go_wp2_with fail
   refine(yR q _).mono ?_
   rintro e w' ⟨rfl,rfl⟩;go_wp2_with fail
   refine(yS q _).mono ?_
   rintro e w' ⟨rfl,rfl⟩;go_wp2_with fail
   refine(yT q _).mono ?_
   rintro e w' ⟨rfl,rfl⟩;obtain⟨o,d⟩:∃o,o=wr.drew.drew.drew.drew:=⟨_,rfl⟩;have f:=hid (show ac o b (bytesV (eU k).2.2) 331 from by rw[d];exact r.drew.drew.drew.drew);have x:=hid (show ac o h (bytesV (List.replicate 256 0)) 331 from by rw[d];exact G.drew.drew.drew.drew);have m:=hid (show Below w.heap.size w o from by rw[d];exact j.drew.drew.drew.drew);rw[←d];clear d;have hp:=p.toNat_lt;have D:p.toNat<256:=by simpa using hp
   have Q:((p.toNat:Nat):Int)<256:=by omega
   have M:p.toNat<(bytesV (eU k).2.2).length:=by rw[ax,iK];simpa using hp
   have U:=f.cell (eB (eU k).2.2 p.toNat (by rw[iK];exact D));have W:=f.free p.toNat;go_wp2_with fail;go_roundw
   case rel=>
    refine⟨k+1,by omega,by go_num,by rw[A.out],by rw[A.out], ?_,x.set_other (a:=⟨b,p.toNat,none⟩) (by have:=H.out;show h≠b;omega) _,m.setCell (p:=⟨b,p.toNat,none⟩) g.out _⟩;rw[A.out,←cU]
    refine(f.set p.toNat _).ext ?_
    rw[mi,mi,mi,mi,show(99:Int)=(((99:UInt8).toNat:Nat):Int)from rfl,mi]
    rfl
   case measure=>simp[intOf];omega
  ·obtain rfl:k=255:=by omega
   have T:=r.cell (eB (eU 255).2.2 0 (by rw[iK];decide));have V:=r.free 0;have y:=hid (show ac (wr.setCell ⟨b,0,none⟩ (.int .u8 99)) b (bytesV jk) 331 from(r.set 0 (.int .u8 (((99:UInt8).toNat:Nat):Int))).ext (show _=bytesV jk from by rw[cU];rfl));have v:=hid (G.set_other (a:=⟨b,0,none⟩) (by have:=H.out;show h≠b;omega) (.int .u8 99));have l:=hid (j.setCell (p:=⟨b,0,none⟩) g.out (.int .u8 99));have C:(bytesV jk).length=(bytesV (List.replicate 256 0)).length:=by rw[ax,ax,dk,List.length_replicate]
   go_wp2_with (first
    |((with_reducible refine aj 331 (.tmp 1) b (bytesV jk) 331 _ y.out underlying331 rfl (qO dk) ?hgd ?ho ?hx ?_);(case hgd|ho|hx=>rfl))
    |((with_reducible refine aa 331 (.tmp 0) (.tmp 28) h (bytesV (List.replicate 256 0)) (bytesV jk) 331 v.out C (qO dk) (dR _) ?hgd ?ho ?hx ?hy ?_);(case hgd|ho|hx|hy=>rfl);(intro w9 O R))
    |fail)
   (try simp only[Exit.inBlock,Exit.then]);refine bodyPost_ret (aY rfl _ _ O.range rfl underlying331 rfl (qO dk)) rfl ⟨rfl,R.below l.out z.out⟩
section
variable {P:Program} {w:World}
theorem pi (h o p a:TypeId) (b off n e:Nat) (t:ByteArray) (c:List Value) (bt:TypeId) (hu:P.underlying h=some (.slice a)) (l:(P.info? a).map (·.size)=some 1) (hb:ac w b c bt) (hn:n≤t.size) (k:off+n≤c.length):
  (Builtin.copy_ #[h,o] p #[.slice (some ⟨b,off,none⟩) n e, .string t]).run P w= .ok (goInt n) (w.setCells b off (bytesV (t.data.toList.take n))):=by
 have d:Nat.min t.size n=n:=Nat.min_eq_right hn;have hl:(bytesV (t.data.toList.take n)).length=n:=by rw[ax,List.length_take];have:t.data.toList.length=t.size:=rfl;omega
 have bA:=run_storeCells_cells (P:=P) b off (bytesV (t.data.toList.take n)) 0 w (by rw[hl];intro j m;rw[hb.cell?];simp;omega) (by rw[hl];intro j m;exact hb.free _) (dR _)
 have g:List.take n (List.map (fun b:UInt8=>Value.int IntKind.u8 (b.toNat:Int)) t.data.toList)=bytesV (t.data.toList.take n):=by
  unfold bytesV;rw[List.map_take]
 cases hq:P.info? a with
 |none=>simp[hq]at l
 |some i=>
  have f:i.size=1:=by simpa[hq]using l
  simp[Builtin.copy_,run_underlying hu,Builtin.lenOf,Builtin.firstCells,sizeOf,typeInfo,hq,f,d];rw[g,bA];simp[Result.andThen]
end
theorem JA {w:World} {b:Nat} {c cs:List Value} {t:TypeId} (h:ac w b c t) (hl:cs.length=c.length):ac (w.setCells b 0 cs) b cs t:=h.setAll cs hl
theorem pN (w:World):Sem.run prog (zeroValue 336) w= .ok (.agg (bytesV (List.replicate 16 0)).toArray) w:=by kernel_rfl
theorem kV {l:List UInt8} (h:l.length=16):(prog.info? 336).map (·.size)=some (bytesV l).length:=by rw[ax,h];kernel_rfl
theorem lW {l:List UInt8} (h:l.length=176):(prog.info? 329).map (·.size)=some (bytesV l).length:=by rw[ax,h];kernel_rfl
theorem Dl (s:ByteArray) (w:World) (m:s.size=16):
  Calls prog 277 #[.string s] w fun e w'=>e= .returned (.agg (bytesV s.data.toList).toArray)∧Below w.heap.size w w':=by
 have hl:s.data.toList.length=16:=m;have c:(bytesV s.data.toList).length=(bytesV (List.replicate 16 0)).length:=by rw[ax,ax,hl,List.length_replicate]
 have x:=hid m;have f:=hid hl;have b:=hid c;clear m hl c;go_enter func277,ntmps277
 go_wp2_with (first
  |((with_reducible refine ab 336 _ pN (some 2) ?hgd ?ho ?hd ?_);(case hgd|ho|hd=>rfl);(intro y B h u z o))
  |((with_reducible refine ab 336 _ pN (some 3) ?hgd ?ho ?hd ?_);(case hgd|ho|hd=>rfl);(intro g t n p q D;have i:=u.below q (Nat.lt_of_lt_of_le o n);have l:=pi (P:=prog) 147 9 3 5 g 0 16 16 s _ _ underlying147 CJ p (by rw[x.out];exact Nat.le_refl _) (by rw[ax];simp);have d:s.data.toList.take 16=s.data.toList:=List.take_of_length_le (by rw[f.out];exact Nat.le_refl _);rw[d]at l;have j:=JA p b.out;have r:=(de.refl g t).setCells (bytesV s.data.toList) 0;have a:=r.blk i (by omega);clear d))
  |((with_reducible refine aj 336 (.tmp 3) g (bytesV s.data.toList) 336 _ j underlying336 rfl (kV f.out) ?hgd ?ho ?hx ?_);(case hgd|ho|hx=>rfl))
  |((with_reducible refine aa 336 (.tmp 2) (.tmp 7) y (bytesV (List.replicate 16 0)) (bytesV s.data.toList) 336 a b.out (kV f.out) (dR _) ?hgd ?ho ?hx ?hy ?_);(case hgd|ho|hx|hy=>rfl);(intro C v A))
  |fail)
 have k:Below w.heap.size w (t.setCells g 0 (bytesV s.data.toList)):=r.below ((z.mono h).trans (q.mono (Nat.le_trans h (Nat.le_of_lt (Nat.lt_of_lt_of_le o n))))) (Nat.le_trans h (Nat.le_of_lt (Nat.lt_of_lt_of_le o n)))
 (try simp only[Exit.inBlock,Exit.then]);refine bodyPost_ret (aY rfl _ _ v.range rfl underlying336 rfl (kV f.out)) rfl ⟨rfl,A.below k h⟩
theorem aw {w:World} {b:Nat} {x:List UInt8} {t:TypeId} (h:ac w b (bytesV x) t) (j:Nat) (a:j<x.length):w.cell? ⟨b,j,none⟩=some (.int .u8 (((x.getD j 0).toNat:Nat):Int)):=by
 rw[h.cell (eB x j a)];simp[List.getD,a]
theorem Im (x:List UInt8) (hl:x.length=16):bS (fun i=>x.getD ((i/4+i % 4) % 4*4+i % 4) 0) x 16=mP x:=by
 rw[jV _ _ _ hl];rfl
theorem yU (d:Nat) (x:List UInt8) (w:World) (h:ac w d (bytesV x) 336) (hl:x.length=16):
  Calls prog 281 #[.pointer (some ⟨d,0,none⟩), .bool false] w fun e w'=>e= .returned (.tuple #[])∧ac w' d (bytesV (mP x)) 336∧af [d] w w':=by
 have n:=hid h;have b:=hid hl;have t:(bytesV x).length=(bytesV (List.replicate 16 0)).length:=by rw[ax,ax,hl,List.length_replicate]
 clear h hl;go_enter func281,ntmps281
 go_wp2_with (first
  |((with_reducible refine aj 336 (.tmp 9) d (bytesV x) 336 _ n.out underlying336 rfl (kV b.out) ?hgd ?ho ?hx ?_);(case hgd|ho|hx=>rfl))
  |((with_reducible refine ab 336 _ pN (some 4) ?hgd ?ho ?hd ?_);(case hgd|ho|hd=>rfl);(intro o w1 p v A V))
  |((with_reducible refine aa 336 (.tmp 4) (.tmp 10) o (bytesV (List.replicate 16 0)) (bytesV x) 336 v t (kV b.out) (dR _) ?hgd ?ho ?hx ?hy ?_);(case hgd|ho|hx|hy=>rfl);(intro w2 y E))
  |fail)
 have f:Below w.heap.size w w2:=E.below (A.mono p) p;have G:=hid (show d<o from Nat.lt_of_lt_of_le n.lt p);have s:=hid (n.below f n.lt);have r:=hid (af.of_below (S:=[d]) f (Nat.le_refl _));clear v A V p E f;go_loopw [11] (fun i wr=>∃k:Nat,k≤16∧i= .int .i64 k∧ac wr d (bytesV (bS (fun i=>x.getD ((i/4+i % 4) % 4*4+i % 4) 0) x k)) 336∧ac wr o (bytesV x) 336∧af [d] w wr) (fun i _=>16-(intOf i).toNat)
 case atStart=>exact⟨0,by omega,rfl,by rw[jo];exact s.out,y,r.out⟩
 case round=>
  clear y;obtain⟨k,N,rfl,B,C,D⟩:=hrel;have m:=hid B;have c:=hid C;have z:=hid D;clear B C D
  by_cases l:k<16
  ·have F:=hid (show(bS (fun i=>x.getD ((i/4+i % 4) % 4*4+i % 4) 0) x k).length=16 from by rw[im _ _ _ (by rw[b.out];exact N)];exact b.out)
   have hc:=aw m.out k (by rw[F.out];exact l);have hf:=m.free k;have W:=aw c.out 0 (by rw[b.out];decide);have X:=aw c.out 1 (by rw[b.out];decide);have Y:=aw c.out 2 (by rw[b.out];decide);have Z:=aw c.out 3 (by rw[b.out];decide);have c4:=aw c.out 4 (by rw[b.out];decide);have c5:=aw c.out 5 (by rw[b.out];decide);have c6:=aw c.out 6 (by rw[b.out];decide);have c7:=aw c.out 7 (by rw[b.out];decide);have c8:=aw c.out 8 (by rw[b.out];decide);have c9:=aw c.out 9 (by rw[b.out];decide);have H:=aw c.out 10 (by rw[b.out];decide);have I:=aw c.out 11 (by rw[b.out];decide);have J:=aw c.out 12 (by rw[b.out];decide);have K:=aw c.out 13 (by rw[b.out];decide);have L:=aw c.out 14 (by rw[b.out];decide);have M:=aw c.out 15 (by rw[b.out];decide);have i0:IntKind.i64.wrap 0=0:=by decide+kernel
   have i1:IntKind.i64.wrap 1=1:=by decide+kernel
   have i2:IntKind.i64.wrap 2=2:=by decide+kernel
   have i3:IntKind.i64.wrap 3=3:=by decide+kernel
   have i4:IntKind.i64.wrap 4=4:=by decide+kernel
   have i5:IntKind.i64.wrap 5=5:=by decide+kernel
   have i6:IntKind.i64.wrap 6=6:=by decide+kernel
   have i7:IntKind.i64.wrap 7=7:=by decide+kernel
   have i8:IntKind.i64.wrap 8=8:=by decide+kernel
   have i9:IntKind.i64.wrap 9=9:=by decide+kernel
   have O:IntKind.i64.wrap 10=10:=by decide+kernel
   have P:IntKind.i64.wrap 11=11:=by decide+kernel
   have Q:IntKind.i64.wrap 12=12:=by decide+kernel
   have R:IntKind.i64.wrap 13=13:=by decide+kernel
   have T:IntKind.i64.wrap 14=14:=by decide+kernel
   have U:IntKind.i64.wrap 15=15:=by decide+kernel
   have q:=hid (jU (fun i=>x.getD ((i/4+i % 4) % 4*4+i % 4) 0) x k (by rw[b.out];exact l));obtain⟨u,j⟩:∃u,Hid (u=k+1):=⟨_,(rfl:k+1=k+1)⟩;have g:k=0∨k=1∨k=2∨k=3∨k=4∨k=5∨k=6∨k=7∨k=8∨k=9∨k=10∨k=11∨k=12∨k=13∨k=14∨k=15:=by omega
   rcases g with rfl|rfl|rfl|rfl|rfl|rfl|rfl|rfl|rfl|rfl|rfl|rfl|rfl|rfl|rfl|rfl
   all_goals
    go_wp2_with fail;refine aK 11 (by kernel_rfl) (by kernel_rfl) ?_;simp only[List.take_succ_cons,List.take_zero,List.drop_succ_cons,List.drop_zero]
    iterate 11 still_step
    refine wpStill_nil ?_;go_wp2_with fail;go_roundw
    case rel=>exact⟨u,by have:=j.out;omega,by rw[j.out];rfl,by rw[j.out,←q.out,←cU];exact(m.set _ _).drew,(c.set_other (a:=⟨d,_,none⟩) (by have:=G.out;show o≠d;omega) _).drew,(z.setCell (.inl (by simp)) _ _).drew⟩
    case measure=>simp[intOf]
  ·obtain rfl:k=16:=by omega
   go_wp2_with fail;go_end0;exact⟨rfl,by rw[←Im x b.out];exact m.out,z.out⟩
def sf (x W:List UInt8) (r:Nat) (i:Nat):UInt8:=x.getD i 0^^^W.getD (16*r+i) 0
theorem JB (x W:List UInt8) (r:Nat) (hl:x.length=16):bS (sf x W r) x 16=se x W r:=by
 rw[jV _ _ _ hl];rfl
theorem mj {a b:UInt8} {c:UInt8} (h:a^^^b=c):Value.int IntKind.u8 (bits BinOp.xor IntKind.u8 ((a.toNat:Nat):Int) ((b.toNat:Nat):Int))= .int .u8 ((c.toNat:Nat):Int):=by
 rw[mi,h]
theorem nu (g r:Nat) (x W:List UInt8) (w:World) (h:ac w g (bytesV x) 336) (hl:x.length=16) (O:W.length=176) (hr:r≤10):
  Calls prog 278 #[.pointer (some ⟨g,0,none⟩), .agg (bytesV W).toArray, .int .i64 (r:Int)] w fun e w'=>e= .returned (.tuple #[])∧ac w' g (bytesV (se x W r)) 336∧af [g] w w':=by
 have C:=hid h;have s:=hid hl;have b:=hid O;obtain⟨f,l,m,n,c⟩:∃f l m n:Nat,Hid (f=4*r∧l=f+1∧m=f+2∧n=f+3∧r≤10):=⟨4*r,4*r+1,4*r+2,4*r+3,rfl,rfl,rfl,rfl,hr⟩;clear h hl O;go_enter func278,ntmps278
 go_wp2_with (first
  |((with_reducible refine ae 329 (.tmp 1) (bytesV W) (some 4) ?hgd ?ho ?hd ?hx ?_);(case hgd|ho|hd|hx=>rfl);(intro E w1 G H J z1))
  |fail)
 have o:Below w.heap.size w w1:=J.mono G;have Q:=hid (show g<E from Nat.lt_of_lt_of_le C.lt G);have D:=hid (C.below o C.lt);have B:=hid (af.of_below (S:=[g]) o (Nat.le_refl _));clear J z1 G o;go_loopw [7] (fun i wr=>∃k:Nat,k≤16∧i= .int .i64 k∧ac wr g (bytesV (bS (sf x W r) x k)) 336∧ac wr E (bytesV W) 329∧af [g] w wr) (fun i _=>16-(intOf i).toNat)
 case atStart=>exact⟨0,by omega,rfl,by rw[jo];exact D.out,H,B.out⟩
 case round=>
  clear H;obtain⟨k,M,rfl,K,L,N⟩:=hrel;have y:=hid K;have d:=hid L;have I:=hid N;clear K L N
  by_cases u:k<16
  ·have P:=hid (show(bS (sf x W r) x k).length=16 from by rw[im _ _ _ (by rw[s.out];exact M)];exact s.out)
   have hc:=aw y.out k (by rw[P.out];exact u);have t:(bS (sf x W r) x k).getD k 0=x.getD k 0:=by rw[List.getD,List.getD,vU _ _ _ _ (Nat.le_refl _) (by rw[s.out];exact M)]
   rw[t]at hc;clear t;have hf:=y.free k;have d0:=aw d.out (f*4) (by rw[b.out];have:=c.out;omega);have d1:=aw d.out (f*4+1) (by rw[b.out];have:=c.out;omega);have d2:=aw d.out (f*4+2) (by rw[b.out];have:=c.out;omega);have d3:=aw d.out (f*4+3) (by rw[b.out];have:=c.out;omega);have d4:=aw d.out (l*4) (by rw[b.out];have:=c.out;omega);have d5:=aw d.out (l*4+1) (by rw[b.out];have:=c.out;omega);have d6:=aw d.out (l*4+2) (by rw[b.out];have:=c.out;omega);have d7:=aw d.out (l*4+3) (by rw[b.out];have:=c.out;omega);have d8:=aw d.out (m*4) (by rw[b.out];have:=c.out;omega);have d9:=aw d.out (m*4+1) (by rw[b.out];have:=c.out;omega);have R:=aw d.out (m*4+2) (by rw[b.out];have:=c.out;omega);have T:=aw d.out (m*4+3) (by rw[b.out];have:=c.out;omega);have U:=aw d.out (n*4) (by rw[b.out];have:=c.out;omega);have V:=aw d.out (n*4+1) (by rw[b.out];have:=c.out;omega);have X:=aw d.out (n*4+2) (by rw[b.out];have:=c.out;omega);have Y:=aw d.out (n*4+3) (by rw[b.out];have:=c.out;omega);have i0:IntKind.i64.wrap 0=0:=by decide+kernel
   have i1:IntKind.i64.wrap 1=1:=by decide+kernel
   have i2:IntKind.i64.wrap 2=2:=by decide+kernel
   have i3:IntKind.i64.wrap 3=3:=by decide+kernel
   have i4:IntKind.i64.wrap 4=4:=by decide+kernel
   have i5:IntKind.i64.wrap 5=5:=by decide+kernel
   have i6:IntKind.i64.wrap 6=6:=by decide+kernel
   have i7:IntKind.i64.wrap 7=7:=by decide+kernel
   have i8:IntKind.i64.wrap 8=8:=by decide+kernel
   have i9:IntKind.i64.wrap 9=9:=by decide+kernel
   have an:IntKind.i64.wrap 10=10:=by decide+kernel
   have aq:IntKind.i64.wrap 11=11:=by decide+kernel
   have aA:IntKind.i64.wrap 12=12:=by decide+kernel
   have a0:IntKind.i64.wrap 13=13:=by decide+kernel
   have a1:IntKind.i64.wrap 14=14:=by decide+kernel
   have a2:IntKind.i64.wrap 15=15:=by decide+kernel
   have a3:IntKind.i64.wrap 16=16:=by decide+kernel
   have n0:IntKind.i64.wrap (4*(r:Int))=(f:Int):=by rw[IntWalk.i64_in _ (by have:=c.out;omega)];have:=c.out;omega
   have o0:IntKind.i64.wrap (f:Int)=(f:Int):=by rw[IntWalk.i64_in _ (by have:=c.out;omega)]
   have o1:IntKind.i64.wrap ((f:Int)+1)=(l:Int):=by rw[IntWalk.i64_in _ (by have:=c.out;omega)];have:=c.out;omega
   have o2:IntKind.i64.wrap ((f:Int)+2)=(m:Int):=by rw[IntWalk.i64_in _ (by have:=c.out;omega)];have:=c.out;omega
   have o3:IntKind.i64.wrap ((f:Int)+3)=(n:Int):=by rw[IntWalk.i64_in _ (by have:=c.out;omega)];have:=c.out;omega
   have p0:(f:Int)<44:=by have:=c.out;omega
   have p1:(l:Int)<44:=by have:=c.out;omega
   have p2:(m:Int)<44:=by have:=c.out;omega
   have p3:(n:Int)<44:=by have:=c.out;omega
   have A:=hid (jU (sf x W r) x k (by rw[s.out];exact u));have z:=hid (fun(j:Nat) (Z:j=16*r+k)=>(show x.getD k 0^^^W.getD j 0=sf x W r k by rw[Z];rfl));obtain⟨F,q⟩:∃F,Hid (F=k+1):=⟨_,(rfl:k+1=k+1)⟩;have p:k=0∨k=1∨k=2∨k=3∨k=4∨k=5∨k=6∨k=7∨k=8∨k=9∨k=10∨k=11∨k=12∨k=13∨k=14∨k=15:=by omega
   rcases p with rfl|rfl|rfl|rfl|rfl|rfl|rfl|rfl|rfl|rfl|rfl|rfl|rfl|rfl|rfl|rfl
   all_goals
    go_wp2_with fail;refine aK 18 (by kernel_rfl) (by kernel_rfl) ?_;simp only[List.take_succ_cons,List.take_zero,List.drop_succ_cons,List.drop_zero]
    iterate 18 still_step
    refine wpStill_nil ?_;go_wp2_with fail;go_roundw
    case rel=>exact⟨F,by have:=q.out;omega,by rw[q.out];rfl,by rw[q.out,←A.out,←cU];refine ac.ext (y.set _ _).drew (congrArg (fun v=>(bytesV (bS (sf x W r) x _)).set _ v) (mj (z.out _ ?_)));have:=c.out;omega,(d.set_other (a:=⟨g,_,none⟩) (by have:=Q.out;show E≠g;omega) _).drew,(I.setCell (.inl (by simp)) _ _).drew⟩
    case measure=>simp[intOf]
  ·obtain rfl:k=16:=by omega
   go_wp2_with fail;go_end0;exact⟨rfl,by rw[←JB x W r s.out];exact y.out,I.out⟩
theorem pO {l:List UInt8} (h:l.length=4):(prog.info? 327).map (·.size)=some (bytesV l).length:=by rw[ax,h];kernel_rfl
structure qP (w wr:World) (xb b4 b3:Nat) (cur x by4:List UInt8):Prop where
 cur:ac wr xb (bytesV cur) 336
 was:ac wr b4 (bytesV x) 336
 by4:ac wr b3 (bytesV by4) 327
 t:af [xb] w wr
theorem qP.drew {w wr:World} {d c b:Nat} {a x by4:List UInt8} (h:qP w wr d c b a x by4):qP w wr.drew d c b a x by4:=⟨h.cur.drew,h.was.drew,h.by4.drew,h.t.drew⟩
theorem JC (x by4:List UInt8) (hl:x.length=16):bS (fun i=>jW x by4 i 4) x 16=uS x by4:=by
 rw[jV _ _ _ hl];rfl
theorem AZ (o:Nat) (x b:List UInt8) (w:World) (h:ac w o (bytesV x) 336) (hl:x.length=16) (X:b.length=4):
  Calls prog 282 #[.pointer (some ⟨o,0,none⟩), .agg (bytesV b).toArray] w fun e w'=>e= .returned (.tuple #[])∧ac w' o (bytesV (uS x b)) 336∧af [o] w w':=by
 have D:=hid h;have q:=hid hl;have H:=hid X;have O:(bytesV x).length=(bytesV (List.replicate 16 0)).length:=by rw[ax,ax,hl,List.length_replicate]
 clear h hl X;go_enter func282,ntmps282
 go_wp2_with (first
  |((with_reducible refine ae 327 (.tmp 1) (bytesV b) (some 3) ?hgd ?ho ?hd ?hx ?_);(case hgd|ho|hd|hx=>rfl);(intro B w0 G R N J;have V:=D.out.below (N.mono G) D.out.lt))
  |((with_reducible refine aj 336 (.tmp 11) o (bytesV x) 336 _ V underlying336 rfl (kV q.out) ?hgd ?ho ?hx ?_);(case hgd|ho|hx=>rfl))
  |((with_reducible refine ab 336 _ pN (some 4) ?hgd ?ho ?hd ?_);(case hgd|ho|hd=>rfl);(intro C w1 I S W z1))
  |((with_reducible refine aa 336 (.tmp 4) (.tmp 12) C (bytesV (List.replicate 16 0)) (bytesV x) 336 S O (kV q.out) (dR _) ?hgd ?ho ?hx ?hy ?_);(case hgd|ho|hx|hy=>rfl);(intro w2 T Q))
  |fail)
 have u:Below w0.heap.size w0 w2:=Q.below (W.mono I) I;have v:Below w.heap.size w w2:=(N.mono G).trans (u.mono (Nat.le_trans G (Nat.le_of_lt J)));have U:=hid (show o<B∧B<C from⟨Nat.lt_of_lt_of_le D.lt G,Nat.lt_of_lt_of_le J I⟩);have A:=hid (show qP w w2 o C B (bS (fun i=>jW x b i 4) x 0) x b from⟨by rw[jo];exact D.below v D.lt,T,R.below u J,af.of_below v (Nat.le_refl _)⟩);clear R N J G V S T W z1 I Q u v;go_loopw [13] (fun i wr=>∃k:Nat,k≤16∧i= .int .i64 k∧qP w wr o C B (bS (fun i=>jW x b i 4) x k) x b) (fun i _=>16-(intOf i).toNat)
 case atStart=>exact⟨0,by omega,rfl,A.out⟩
 case round=>
  clear A;obtain⟨k,hk,rfl,Y⟩:=hrel;have A:=hid Y;clear Y
  by_cases E:k<16
  ·obtain⟨c,r,d⟩:∃c r:Nat,Hid (k=4*c+r∧r<4∧c<4):=⟨k/4,k % 4,by show _∧_∧_;omega⟩
   have hq:((k:Nat):Int)/4=(c:Int):=by have:=d.out;omega
   have ad:decide (((k:Nat):Int)<16)=true:=decide_eq_true (by omega);obtain⟨m,l⟩:∃m:Nat,Hid (m=4*c):=⟨_,(rfl:4*c=4*c)⟩;have K:=hid (show(bS (fun i=>jW x b i 4) x k).length=16 from by rw[im _ _ _ (by rw[q.out];exact hk)];exact q.out);have M:=hid (jU (fun i=>jW x b i 4) x k (by rw[q.out];exact E));obtain⟨F,z⟩:∃F,Hid (F=k+1):=⟨_,(rfl:k+1=k+1)⟩;have y:(r=0∧((k:Nat):Int) % 4=0)∨(r=1∧((k:Nat):Int) % 4=1)∨(r=2∧((k:Nat):Int) % 4=2)∨(r=3∧((k:Nat):Int) % 4=3):=by have:=d.out;omega
   rcases y with⟨rfl,hrm⟩|⟨rfl,hrm⟩|⟨rfl,hrm⟩|⟨rfl,hrm⟩
   all_goals
    go_wp2_with fail
    (try rw[hrm])
    go_loopw [8,20] (fun n j wq=>∃f:Nat,f≤4∧j= .int .i64 f∧n= .int .u8 (((jW x b k f).toNat:Nat):Int)∧qP w wq o C B (bS (fun i=>jW x b i 4) x k) x b) (fun _ j _=>4-(intOf j).toNat)
    case atStart=>exact⟨0,by omega,rfl,rfl,A.out⟩
    case round=>
     obtain⟨f,a4,rfl,rfl,Z⟩:=hrel;have g:=hid Z;clear Z
     by_cases an:f<4
     ·have d0:=aw g.was m (by rw[q.out];have:=l.out;have:=d.out;omega)
      have d1:=aw g.was (m+1) (by rw[q.out];have:=l.out;have:=d.out;omega);have d2:=aw g.was (m+2) (by rw[q.out];have:=l.out;have:=d.out;omega);have d3:=aw g.was (m+3) (by rw[q.out];have:=l.out;have:=d.out;omega);have f0:=aw g.by4 0 (by rw[H.out];decide);have f1:=aw g.by4 1 (by rw[H.out];decide);have f2:=aw g.by4 2 (by rw[H.out];decide);have f3:=aw g.by4 3 (by rw[H.out];decide);have i0:IntKind.i64.wrap 0=0:=by decide+kernel
      have i1:IntKind.i64.wrap 1=1:=by decide+kernel
      have i2:IntKind.i64.wrap 2=2:=by decide+kernel
      have i3:IntKind.i64.wrap 3=3:=by decide+kernel
      have i4:IntKind.i64.wrap 4=4:=by decide+kernel
      have i5:IntKind.i64.wrap 5=5:=by decide+kernel
      have i6:IntKind.i64.wrap 6=6:=by decide+kernel
      have i7:IntKind.i64.wrap 7=7:=by decide+kernel
      have i8:IntKind.i64.wrap 8=8:=by decide+kernel
      have n0:IntKind.i64.wrap ((c:Int)*4)=(m:Int):=by rw[IntWalk.i64_in _ (by have:=l.out;have:=d.out;omega)];have:=l.out;omega
      have o0:IntKind.i64.wrap (m:Int)=(m:Int):=by rw[IntWalk.i64_in _ (by have:=l.out;have:=d.out;omega)]
      have o1:IntKind.i64.wrap ((m:Int)+1)=((m+1:Nat):Int):=by rw[IntWalk.i64_in _ (by have:=l.out;have:=d.out;omega)];omega
      have Q:IntKind.i64.wrap ((m:Int)+2)=((m+2:Nat):Int):=by rw[IntWalk.i64_in _ (by have:=l.out;have:=d.out;omega)];omega
      have o3:IntKind.i64.wrap ((m:Int)+3)=((m+3:Nat):Int):=by rw[IntWalk.i64_in _ (by have:=l.out;have:=d.out;omega)];omega
      have p0:(m:Int)<16:=by have:=l.out;have:=d.out;omega
      have p1:0≤(m:Int)+1:=by omega
      have q1:(m:Int)+1<16:=by have:=l.out;have:=d.out;omega
      have p2:0≤(m:Int)+2:=by omega
      have q2:(m:Int)+2<16:=by have:=l.out;have:=d.out;omega
      have p3:0≤(m:Int)+3:=by omega
      have q3:(m:Int)+3<16:=by have:=l.out;have:=d.out;omega
      have t2:((m:Int)+2).toNat=m+2:=by omega
      have t3:((m:Int)+3).toNat=m+3:=by omega
      have L:=hid (fun(j1 j2:Nat) (h1:j1=k/4*4+f) (h2:j2=(f+4-k % 4) % 4)=>(show jW x b k f^^^oG (x.getD j1 0) (b.getD j2 0)=jW x b k (f+1) by rw[h1,h2];rfl));obtain⟨P,p⟩:∃F,Hid (F=f+1):=⟨_,(rfl:f+1=f+1)⟩;have s:f=0∨f=1∨f=2∨f=3:=by omega
      rcases s with rfl|rfl|rfl|rfl
      all_goals
       go_wp2_with fail;refine aB (by kernel_rfl) (by kernel_rfl) ?_
       iterate 14 still_step
       still_call (eo (oH _ _ _))
       repeat still_step
       refine wpStill_nil ?_;go_wp2_with fail;go_roundw
       case rel=>exact⟨P,by have:=p.out;omega,by rw[p.out];rfl,by rw[p.out];exact mj (L.out _ _ (by have:=l.out;have:=d.out;omega) (by have:=d.out;omega)),g.drew⟩
       case measure=>simp[intOf]
     ·obtain rfl:f=4:=by omega
      have hc:=aw g.cur k (by rw[K.out];exact E);have hf:=g.cur.free k;have a3:((k:Nat):Int)<16:=by omega
      go_wp2_with fail;go_roundw
      case rel=>exact⟨F,by have:=z.out;omega,by rw[z.out];go_num,by rw[z.out,←M.out,←cU];exact g.cur.set _ _,g.was.set_other (a:=⟨o,k,none⟩) (by have:=U.out;show C≠o;omega) _,g.by4.set_other (a:=⟨o,k,none⟩) (by have:=U.out;show B≠o;omega) _,g.t.setCell (.inl (by simp)) _ _⟩
      case measure=>simp[intOf];omega
  ·obtain rfl:k=16:=by omega
   go_wp2_with fail;go_end0;exact⟨rfl,by rw[←JC x b q.out];exact A.cur,A.t⟩
end Go.Proofs.YtadooplpfhdhcaaGreat
