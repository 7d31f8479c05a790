/- Walks of wire's part: take, number, wide, both ways (chapter 27). -/
import Derived.Test.YtkdplgcffdaoaaaMsgF
import Derived.Test.YtkdplgcffdaoaaaTurn
import Derived.Test.YtkdplgcffdaoaaaTakeR
import Derived.Test.YtkdplgcffdaoaaaLoad
import Derived.WalkLawsBesides
namespace Go.Proofs.Ytkdplgcffdaoaaa
set_option linter.unusedSimpArgs false
set_option linter.unusedVariables false
open Go Go.RowKit
set_option linter.unusedVariables false

/-- A part in memory: its text, whether it reads, whether the tag is left out. -/
def PartAt (w : World) (q : Nat) (s : ByteArray) (rd br : Bool) : Prop := Blk w q [.string s, .bool rd, .bool br] 75
/-- What a part that is read too far panics with. -/
def shortP : List PanicEntry := [{ v := .iface 116 (.agg #[]), recovered := false }]
theorem PartAt.below {w w' : World} {q : Nat} {s : ByteArray} {rd br : Bool} (h : PartAt w q s rd br) {B : Nat} (hb : Below B w w') (hB : q < B) : PartAt w' q s rd br := Blk.below h hb hB
theorem PartAt.turned {w w' : World} {q : Nat} {s : ByteArray} {rd br : Bool} {S : List Nat} (h : PartAt w q s rd br) (ht : Turned S w w') (hn : q ∉ S) : PartAt w' q s rd br := ht.blk h hn
theorem PartAt.lt {w : World} {q : Nat} {s : ByteArray} {rd br : Bool} (h : PartAt w q s rd br) : q < w.heap.size := Blk.lt h
theorem PartAt.c0 {w : World} {q : Nat} {s : ByteArray} {rd br : Bool} (h : PartAt w q s rd br) : w.cell? ⟨q, 0, none⟩ = some (.string s) := Blk.cell h rfl
theorem PartAt.c1 {w : World} {q : Nat} {s : ByteArray} {rd br : Bool} (h : PartAt w q s rd br) : w.cell? ⟨q, 1, none⟩ = some (.bool rd) := Blk.cell h rfl
theorem PartAt.c2 {w : World} {q : Nat} {s : ByteArray} {rd br : Bool} (h : PartAt w q s rd br) : w.cell? ⟨q, 2, none⟩ = some (.bool br) := Blk.cell h rfl
theorem PartAt.set {w : World} {q : Nat} {s : ByteArray} {rd br : Bool} (h : PartAt w q s rd br) (t : ByteArray) : PartAt (w.setCell ⟨q, 0, none⟩ (.string t)) q t rd br := Blk.set h 0 (.string t)

/-- 'take': so many bytes that are read, or a panic. -/
theorem ptake_walk (q : Nat) (s : ByteArray) (br : Bool) (k : Nat) (w : World) (hp : PartAt w q s true br) (hs : s.size ≤ 1048576) (hk : k ≤ 1048576) :
    Calls Try.prog 56 #[.pointer (some ⟨q, 0, none⟩), .int .i64 k] w fun e w' =>
      (s.size < k ∧ e = .panicked shortP ∧ w = w') ∨ (k ≤ s.size ∧ e = .returned (.string (s.extract 0 k)) ∧ w' = w.setCell ⟨q, 0, none⟩ (.string (s.extract k s.size))) := by
  have c0 := hp.c0
  have f0 := Blk.free hp 0
  by_cases h : s.size < k
  · have h' : (s.size : Int) < k := by omega
    clear hp
    go_enter Try.func56, Try.ntmps56
    go_wp2_with fail
    exact ⟨rfl, .inl ⟨h, rfl, rfl⟩⟩
  · have h' : (k : Int) ≤ s.size := by omega
    have h0 : (0 : Int) ≤ k := by omega
    have HP := Lib.hid hp; clear hp
    go_enter Try.func56, Try.ntmps56
    go_wp2_with fail
    go_ret
    exact .inr ⟨by omega, rfl, rfl⟩

/-- A text behind which something is written. -/
theorem Txt.extend {s r : ByteArray} {l : List UInt8} (h : Txt r l) : Txt (s ++ r) (s.data.toList ++ l) := (Txt.self s).append h
set_option maxHeartbeats 1000000 in
/-- 'number' that writes. -/
theorem number_w (q : Nat) (s : ByteArray) (br : Bool) (b i n k : Nat) (w : World) (hp : PartAt w q s false br) (ha : w.cell? ⟨b, i, none⟩ = some (.int .i64 (n : Int)))
    (h1 : 1 ≤ k) (h2 : k ≤ 8) (hn : n < 9223372036854775808) (hf : k < 8 → n < 256 ^ k) (hs : s.size ≤ 1048576) :
    Calls Try.prog 34 #[.pointer (some ⟨q, 0, none⟩), .pointer (some ⟨b, i, none⟩), .int .i64 k] w fun e w' =>
      e = .returned (.tuple #[]) ∧ ∃ s', Txt s' (s.data.toList ++ beBytes k n) ∧ PartAt w' q s' false br ∧ Kept q w w' := by
  have c1 := hp.c1
  have HP := Lib.hid hp; clear hp
  go_enter Try.func34, Try.ntmps34
  go_wp2_with fail
  refine (oput n k _ h1 h2 hn hf).mono ?_
  rintro e w1 ⟨r, rfl, tr, hb1⟩
  have P1 := Lib.hid (HP.out.below hb1 HP.out.lt)
  have hr : r.size ≤ 8 := by rw [tr.size, beBytes_length]; exact h2
  have c0 := P1.out.c0
  have f0 := Blk.free P1.out 0
  have TR := Lib.hid tr; have HB := Lib.hid hb1
  clear tr hb1 ha c1
  go_wp2_with fail
  go_end0
  refine ⟨rfl, _, TR.out.extend, P1.out.set _, ?_⟩
  exact (Kept.below' (Kept.refl q w) HB.out (Nat.le_refl _)).setCell 0 _

theorem beNum_take_lt (l : List UInt8) (k : Nat) (hk : k ≤ 7) : beNum (l.take k) < 9223372036854775808 := by
  have h1 := beNum_lt (l.take k)
  have h2 : (l.take k).length ≤ 7 := by rw [List.length_take]; omega
  have h3 : 256 ^ (l.take k).length ≤ 256 ^ 7 := Nat.pow_le_pow_right (by omega) h2
  omega
set_option maxHeartbeats 1000000 in
/-- 'number' that reads. -/
theorem number_r (q : Nat) (s : ByteArray) (br : Bool) (b i k : Nat) (cs : List Value) (t : TypeId) (w : World) (hp : PartAt w q s true br) (hb : Blk w b cs t) (hi : i < cs.length) (hne : b ≠ q)
    (h1 : 1 ≤ k) (h2 : k ≤ 7) (hs : s.size ≤ 1048576) :
    Calls Try.prog 34 #[.pointer (some ⟨q, 0, none⟩), .pointer (some ⟨b, i, none⟩), .int .i64 k] w fun e w' =>
      (s.size < k ∧ e = .panicked shortP ∧ w = w') ∨ (k ≤ s.size ∧ e = .returned (.tuple #[]) ∧ PartAt w' q (s.extract k s.size) true br ∧ Blk w' b (cs.set i (.int .i64 ((beNum (s.data.toList.take k) : Nat) : Int))) t ∧ Turned [q, b] w w') := by
  have c1 := hp.c1
  have HP := Lib.hid hp; clear hp
  have HBL := Lib.hid hb
  have HI := Lib.hid hi
  have fb := hb.free i
  obtain ⟨u, hu⟩ : ∃ u, w.cell? ⟨b, i, none⟩ = some u := ⟨_, hb.cell (List.getElem?_eq_getElem hi)⟩
  clear hb hi
  go_enter Try.func34, Try.ntmps34
  go_wp2_with fail
  refine (ptake_walk q s br k _ HP.out hs (by omega)).mono ?_
  rintro e w1 (⟨h, rfl, rfl⟩ | ⟨h, rfl, rfl⟩)
  · go_wp2_with fail
    exact ⟨rfl, .inl ⟨h, rfl, rfl⟩⟩
  · have HH := Lib.hid h; clear h
    go_wp2_with fail
    refine (oget_walk (s.extract 0 k) _).mono ?_
    rintro e w2 ⟨he, rfl⟩
    have hl : (s.extract 0 k).data.toList = s.data.toList.take k := by
      have := (Txt.self s).extract 0 k
      rw [List.drop_zero] at this
      exact this
    rcases he with ⟨_, rfl⟩ | ⟨hno, _⟩
    rotate_left
    · exfalso
      apply hno
      rw [hl]
      have h3 : (s.data.toList.take k).length = k := by
        rw [List.length_take]
        have : s.data.toList.length = s.size := rfl
        have := HH.out
        omega
      exact ⟨by omega, by omega, beNum_take_lt _ k h2⟩
    rw [hl]
    have B1 : Blk (w.setCell ⟨q, 0, none⟩ (.string (s.extract k s.size))) b cs t := HBL.out.set_other hne _
    have P1 := Lib.hid (HP.out.set (s.extract k s.size))
    have T1 : Turned [q, b] w (w.setCell ⟨q, 0, none⟩ (.string (s.extract k s.size))) := (Turned.refl _ _).setCell (.inl (by simp)) 0 _
    obtain ⟨W, hW⟩ : ∃ W, W = w.setCell ⟨q, 0, none⟩ (.string (s.extract k s.size)) := ⟨_, rfl⟩
    rw [← hW] at B1 P1 T1 ⊢
    have fb1 := B1.free i
    obtain ⟨u1, hu1⟩ : ∃ u, W.cell? ⟨b, i, none⟩ = some u := ⟨_, B1.cell (List.getElem?_eq_getElem HI.out)⟩
    have BB := Lib.hid B1; have TT := Lib.hid T1
    clear B1 T1 hW hu fb c1 hl
    go_wp2_with fail
    first | go_end0 | ((try simp only [Exit.inBlock, Exit.then]); refine bodyPost_ret (results_none rfl _ _ _) rfl ?_)
    refine .inr ⟨HH.out, rfl, ?_, BB.out.set i _, TT.out.setCell (.inl (by simp)) i _⟩
    exact Blk.set_other P1.out (fun e => hne e.symm) _

/-- What a part has done: its text, the cells of the block that it fills. -/
structure Done (w w' : World) (q b : Nat) (rd br : Bool) (s' : List UInt8) (cs' : List Value) (t : TypeId) : Prop where
  part : ∃ p, Txt p s' ∧ PartAt w' q p rd br
  blk : Blk w' b cs' t
  turned : Turned [q, b] w w'
/-- What is left behind where a part was read too far. -/
structure Bad (w w' : World) (q b : Nat) (n : Nat) (t : TypeId) : Prop where
  blk : ∃ cs' : List Value, cs'.length = n ∧ Blk w' b cs' t
  turned : Turned [q, b] w w'
theorem set_self {l : List Value} {i : Nat} {v : Value} (h : l[i]? = some v) : l.set i v = l := by
  obtain ⟨hi, rfl⟩ := List.getElem?_eq_some_iff.1 h
  exact List.set_getElem_self hi
theorem Txt.rest {s : ByteArray} (k : Nat) : Txt (s.extract k s.size) (s.data.toList.drop k) := ((Txt.self s).extract k s.size).cast (by rw [List.take_of_length_le (show s.data.toList.length ≤ s.size from Nat.le_refl _)])
/-- How a part ends that hands on a value. -/
def Ends1 {α : Type} (w : World) (q b : Nat) (rd br : Bool) (n : Nat) (t : TypeId) (r : Option (α × List UInt8)) (cs' : α → List Value) (e : Ending) (w' : World) : Prop :=
  match r with
  | none => e = .panicked shortP ∧ Bad w w' q b n t
  | some (x, s') => e = .returned (.tuple #[]) ∧ Done w w' q b rd br s' (cs' x) t
theorem Done.sofar {u w w' : World} {q b : Nat} {rd br : Bool} {s' : List UInt8} {cs' : List Value} {t : TypeId} (h : Done w w' q b rd br s' cs' t) (k : Turned [q, b] u w) : Done u w' q b rd br s' cs' t := ⟨h.part, h.blk, k.trans h.turned⟩
theorem Bad.sofar {u w w' : World} {q b n : Nat} {t : TypeId} (h : Bad w w' q b n t) (k : Turned [q, b] u w) : Bad u w' q b n t := ⟨h.blk, k.trans h.turned⟩

theorem number_any (q : Nat) (s : ByteArray) (rd br : Bool) (b i k : Nat) (n : Int) (cs : List Value) (t : TypeId) (w : World) (hp : PartAt w q s rd br) (hb : Blk w b cs t) (hi : cs[i]? = some (.int .i64 n)) (hne : b ≠ q)
    (h1 : 1 ≤ k) (h2 : k ≤ 7) (hf : rd = false → 0 ≤ n ∧ n.toNat < 256 ^ k) (hs : s.size ≤ 1048576) :
    Calls Try.prog 34 #[.pointer (some ⟨q, 0, none⟩), .pointer (some ⟨b, i, none⟩), .int .i64 k] w
      (Ends1 w q b rd br cs.length t (numF rd k n s.data.toList) (fun x => cs.set i (.int .i64 x))) := by
  cases rd with
  | false =>
    obtain ⟨m, rfl⟩ : ∃ m : Nat, n = (m : Int) := ⟨n.toNat, by have := (hf rfl).1; omega⟩
    have h3 : m < 256 ^ k := by simpa using (hf rfl).2
    have h4 : 256 ^ k ≤ 256 ^ 7 := Nat.pow_le_pow_right (by omega) h2
    refine (number_w q s br b i m k w hp (hb.cell hi) h1 (by omega) (by omega) (fun _ => h3) hs).mono ?_
    rintro e w1 ⟨rfl, s', ts, hP, hK⟩
    refine ⟨rfl, ⟨s', ts, hP⟩, ?_, Turned.of_kept hK (by simp)⟩
    show Blk w1 b (cs.set i _) t
    rw [set_self hi]
    exact hK.blk hb hne
  | true =>
    have hl : s.data.toList.length = s.size := rfl
    refine (number_r q s br b i k cs t w hp hb (List.getElem?_eq_some_iff.1 hi).1 hne h1 h2 hs).mono ?_
    rintro e w1 (⟨h, rfl, rfl⟩ | ⟨h, rfl, hP, hB, hT⟩)
    · unfold numF
      rw [if_pos rfl, if_pos (by omega)]
      exact ⟨rfl, ⟨cs, rfl, hb⟩, Turned.refl _ _⟩
    · unfold numF
      rw [if_pos rfl, if_neg (by omega)]
      exact ⟨rfl, ⟨_, Txt.rest k, hP⟩, hB, hT⟩

set_option maxHeartbeats 1000000 in
/-- 'wide' that writes. -/
theorem wide_w (q : Nat) (s : ByteArray) (br : Bool) (b i : Nat) (x : ByteArray) (w : World) (hp : PartAt w q s false br) (ha : w.cell? ⟨b, i, none⟩ = some (.string x)) (hs : s.size ≤ 1048576) (hx : x.size ≤ 1048576) :
    Calls Try.prog 58 #[.pointer (some ⟨q, 0, none⟩), .pointer (some ⟨b, i, none⟩)] w fun e w' =>
      e = .returned (.tuple #[]) ∧ PartAt w' q (s ++ x) false br ∧ Kept q w w' := by
  have c0 := hp.c0
  have c1 := hp.c1
  have f0 := Blk.free hp 0
  have HP := Lib.hid hp; clear hp
  go_enter Try.func58, Try.ntmps58
  go_wp2_with fail
  go_region
  all_goals first | go_end0 | ((try simp only [Exit.inBlock, Exit.then]); refine bodyPost_ret (results_none rfl _ _ _) rfl ?_)
  all_goals first | exact ⟨rfl, (HP.out.set _), ((Kept.refl q w).setCell 0 _)⟩ | exact ⟨rfl, (HP.out.set _), ((Kept.refl q w).setCell 0 _).drew⟩
set_option maxHeartbeats 1000000 in
/-- 'wide' that reads. -/
theorem wide_r (q : Nat) (s : ByteArray) (br : Bool) (b i : Nat) (cs : List Value) (t : TypeId) (w : World) (hp : PartAt w q s true br) (hb : Blk w b cs t) (hi : i < cs.length) (hne : b ≠ q) (hs : s.size ≤ 1048576) :
    Calls Try.prog 58 #[.pointer (some ⟨q, 0, none⟩), .pointer (some ⟨b, i, none⟩)] w fun e w' =>
      (s.size < 32 ∧ e = .panicked shortP ∧ w = w') ∨ (32 ≤ s.size ∧ e = .returned (.tuple #[]) ∧ PartAt w' q (s.extract 32 s.size) true br ∧ Blk w' b (cs.set i (.string (s.extract 0 32))) t ∧ Turned [q, b] w w') := by
  have c1 := hp.c1
  have HP := Lib.hid hp; clear hp
  have HBL := Lib.hid hb
  have HI := Lib.hid hi
  clear hb hi
  go_enter Try.func58, Try.ntmps58
  go_wp2_with fail
  refine (ptake_walk q s br 32 _ HP.out hs (by omega)).mono ?_
  rintro e w1 (⟨h, rfl, rfl⟩ | ⟨h, rfl, rfl⟩)
  · go_wp2_with fail
    exact ⟨rfl, .inl ⟨h, rfl, rfl⟩⟩
  · have HH := Lib.hid h; clear h
    have B1 : Blk (w.setCell ⟨q, 0, none⟩ (.string (s.extract 32 s.size))) b cs t := HBL.out.set_other hne _
    have P1 := Lib.hid (HP.out.set (s.extract 32 s.size))
    have T1 : Turned [q, b] w (w.setCell ⟨q, 0, none⟩ (.string (s.extract 32 s.size))) := (Turned.refl _ _).setCell (.inl (by simp)) 0 _
    obtain ⟨W, hW⟩ : ∃ W, W = w.setCell ⟨q, 0, none⟩ (.string (s.extract 32 s.size)) := ⟨_, rfl⟩
    rw [← hW] at B1 P1 T1 ⊢
    have fb1 := B1.free i
    obtain ⟨u1, hu1⟩ : ∃ u, W.cell? ⟨b, i, none⟩ = some u := ⟨_, B1.cell (List.getElem?_eq_getElem HI.out)⟩
    have BB := Lib.hid B1; have TT := Lib.hid T1
    clear B1 T1 hW c1
    go_wp2_with fail
    first | go_end0 | ((try simp only [Exit.inBlock, Exit.then]); refine bodyPost_ret (results_none rfl _ _ _) rfl ?_)
    refine .inr ⟨HH.out, rfl, ?_, BB.out.set i _, TT.out.setCell (.inl (by simp)) i _⟩
    exact Blk.set_other P1.out (fun e => hne e.symm) _
theorem wide_any (q : Nat) (s : ByteArray) (rd br : Bool) (b i : Nat) (x : ByteArray) (cs : List Value) (t : TypeId) (w : World) (hp : PartAt w q s rd br) (hb : Blk w b cs t) (hi : cs[i]? = some (.string x)) (hne : b ≠ q)
    (hs : s.size ≤ 1048576) (hx : rd = false → x.size ≤ 1048576) :
    Calls Try.prog 58 #[.pointer (some ⟨q, 0, none⟩), .pointer (some ⟨b, i, none⟩)] w
      (Ends1 w q b rd br cs.length t (strF rd x s.data.toList) (fun y => cs.set i (.string y))) := by
  cases rd with
  | false =>
    refine (wide_w q s br b i x w hp (hb.cell hi) hs (hx rfl)).mono ?_
    rintro e w1 ⟨rfl, hP, hK⟩
    refine ⟨rfl, ⟨_, (Txt.self x).extend, hP⟩, ?_, Turned.of_kept hK (by simp)⟩
    show Blk w1 b (cs.set i _) t
    rw [set_self hi]
    exact hK.blk hb hne
  | true =>
    have hl : s.data.toList.length = s.size := rfl
    refine (wide_r q s br b i cs t w hp hb (List.getElem?_eq_some_iff.1 hi).1 hne hs).mono ?_
    rintro e w1 (⟨h, rfl, rfl⟩ | ⟨h, rfl, hP, hB, hT⟩)
    · unfold strF
      rw [if_pos rfl, if_pos (by omega)]
      exact ⟨rfl, ⟨cs, rfl, hb⟩, Turned.refl _ _⟩
    · unfold strF
      rw [if_pos rfl, if_neg (by omega)]
      refine ⟨rfl, ⟨_, Txt.rest 32, hP⟩, ?_, hT⟩
      have e1 : s.extract 0 32 = ⟨(s.data.toList.take 32).toArray⟩ := (((Txt.self s).extract 0 32).cast (by simp)).of
      show Blk w1 b (cs.set i (.string ⟨(s.data.toList.take 32).toArray⟩)) t
      rw [← e1]
      exact hB
end Go.Proofs.Ytkdplgcffdaoaaa
