/- Walks of chain.Said, Tag and the documents' Said, Tag (chapter 20). -/
import Derived.Test.YtacoibiafpdoaaaWRec5
import Derived.Test.YtacoibiafpdoaaaRef9
namespace Go.Proofs.Ytacoibiafpdoaaa
open Go Go.RowKit
set_option linter.unusedVariables false

/-- What is said of a record. -/
def saidC (was : List UInt8) (seq : Int) (r : Rec) : List UInt8 := was ++ beBytes 4 seq.toNat ++ recPut r
def saidCOk (was : ByteArray) (seq : Int) (r : Rec) : Prop := was.size = 32 ∧ 0 ≤ seq ∧ seq ≤ 4294967295 ∧ recOk r = true
instance (was : ByteArray) (seq : Int) (r : Rec) : Decidable (saidCOk was seq r) := by unfold saidCOk; infer_instance
/-- A text and true, or no text and false. -/
def EndsB (ok : Prop) (l : List UInt8) (e : Ending) : Prop :=
  (ok ∧ ∃ r, e = .returned (.tuple #[.string r, .bool true]) ∧ Txt r l) ∨ (¬ ok ∧ e = .returned (.tuple #[.string ⟨#[]⟩, .bool false]))
theorem EndsB.yes {ok : Prop} {l : List UInt8} {e : Ending} (h : EndsB ok l e) (ho : ok) : ∃ r, e = .returned (.tuple #[.string r, .bool true]) ∧ Txt r l := by
  rcases h with ⟨_, h⟩ | ⟨h, _⟩
  · exact h
  · exact absurd ho h
theorem EndsB.no {ok : Prop} {l : List UInt8} {e : Ending} (h : EndsB ok l e) (ho : ¬ ok) : e = .returned (.tuple #[.string ⟨#[]⟩, .bool false]) := by
  rcases h with ⟨h, _⟩ | ⟨_, h⟩
  · exact absurd h ho
  · exact h

theorem recPut_length {r : Rec} (h : recOk r = true) : (recPut r).length ≤ 85 := by
  have := recOk_facts h
  have e1 : r.root.data.toList.length = r.root.size := rfl
  have e2 : r.name.data.toList.length = r.name.size := rfl
  unfold recPut
  rw [List.length_append, List.length_append, packL_length_rec, textL_length, textL_length]
  omega

theorem oput4_walk (n : Int) (w : World) (hf : Fits n) :
    Calls Try.prog 109 #[.int .i64 n, .int .i64 4] w fun e w' => Ends (0 ≤ n ∧ n ≤ 4294967295) (beBytes 4 n.toNat) 2 e ∧ Below w.heap.size w w' := by
  by_cases c1 : 0 ≤ n ∧ n ≤ 4294967295
  · obtain ⟨m, rfl⟩ : ∃ m : Nat, n = (m : Int) := ⟨n.toNat, by omega⟩
    refine (oput m 4 w (by omega) (by omega) (by omega) (fun _ => by show m < 4294967296; omega)).mono ?_
    rintro e w1 ⟨r, rfl, tr, hb⟩
    exact ⟨.inl ⟨c1, r, rfl, tr⟩, hb⟩
  · by_cases c2 : n < 0
    · go_enter Try.func109, Try.ntmps109
      go_wp2_with fail
      go_ret2
      exact ⟨.inr ⟨c1, rfl⟩, Below.refl _ _⟩
    · have d2 : 0 ≤ n := by omega
      have d3 : 4294967296 ≤ n := by omega
      have d4 : (0 : Int) < n / 4294967296 := by omega
      go_enter Try.func109, Try.ntmps109
      go_wp2_with fail
      go_ret2
      exact ⟨.inr ⟨by omega, rfl⟩, Below.refl _ _⟩

set_option maxHeartbeats 1000000 in
theorem csaid_walk (was : ByteArray) (seq : Int) (r : Rec) (w : World) (hroot : r.root.size ≤ 1048576) (hname : r.name.size ≤ 1048576) (hf : Fits r.epoch) (hs : Fits seq) :
    Calls Try.prog 84 #[.string was, .int .i64 seq, r.v] w fun e w' => Ends (saidCOk was seq r) (saidC was.data.toList seq r) 2 e ∧ Below w.heap.size w w' := by
  by_cases c1 : 0 ≤ seq ∧ seq ≤ 4294967295
  rotate_left
  · go_enter Try.func84, Try.ntmps84
    go_wp2_with ((with_reducible refine wpList_box_new 32 (.tmp 2) r.cells (some 5) ?hgd ?ho ?hd ?hx ?_); (case hgd => rfl); (case ho => rfl); (case hd => rfl); (case hx => rfl); (intro b w0 l0 B0 e0 z0))
    refine (oput4_walk seq _ hs).mono ?_
    rintro e w1 ⟨he, hb1⟩
    have he := he.no c1
    subst he
    go_wp2_with fail
    go_ret2
    exact ⟨.inr ⟨fun h => c1 ⟨h.2.1, h.2.2.1⟩, rfl⟩, (e0.mono l0).trans (hb1.mono (by omega))⟩
  by_cases c2 : was.size = 32
  rotate_left
  · have d2 : ¬ (was.size : Int) = 32 := by omega
    go_enter Try.func84, Try.ntmps84
    go_wp2_with ((with_reducible refine wpList_box_new 32 (.tmp 2) r.cells (some 5) ?hgd ?ho ?hd ?hx ?_); (case hgd => rfl); (case ho => rfl); (case hd => rfl); (case hx => rfl); (intro b w0 l0 B0 e0 z0))
    refine (oput4_walk seq _ hs).mono ?_
    rintro e w1 ⟨he, hb1⟩
    obtain ⟨q, rfl, tq⟩ := he.yes c1
    clear he
    go_wp2_with fail
    go_ret2
    exact ⟨.inr ⟨fun h => c2 h.1, rfl⟩, (e0.mono l0).trans (hb1.mono (by omega))⟩
  have d2 : (was.size : Int) = 32 := by omega
  have hws : was.size ≤ 32 := by omega
  go_enter Try.func84, Try.ntmps84
  go_wp2_with ((with_reducible refine wpList_box_new 32 (.tmp 2) r.cells (some 5) ?hgd ?ho ?hd ?hx ?_); (case hgd => rfl); (case ho => rfl); (case hd => rfl); (case hx => rfl); (intro b w0 l0 B0 e0 z0))
  refine (oput4_walk seq _ hs).mono ?_
  rintro e w1 ⟨he, hb1⟩
  obtain ⟨q, rfl, tq⟩ := he.yes c1
  clear he
  have sq : q.size ≤ 4 := by rw [tq.size, beBytes_length]; omega
  have HB := Lib.hid (B0.below hb1 z0); clear B0
  go_wp2_with ((with_reducible refine wpList_load_blk 32 (.tmp 5) b r.cells 32 _ HB.out Try.underlying32 rfl rsizeRec ?hgd ?ho ?hx ?_); (case hgd => rfl); (case ho => rfl); (case hx => rfl))
  refine (recput_walk r _ hroot hname hf).mono ?_
  rintro e w2 ⟨⟨hok, p, rfl, tp⟩ | ⟨hno, rfl⟩, hb2⟩
  · have sp : p.size ≤ 85 := by rw [tp.size]; exact recPut_length hok
    have HK := Lib.hid hok; clear hok
    go_wp2_with fail
    go_ret2
    refine ⟨.inl ⟨⟨c2, c1.1, c1.2, HK.out⟩, _, rfl, ((Txt.self was).append tq).append tp⟩, (e0.mono l0).trans ((bt hb1 hb2).mono (by omega))⟩
  · have HK := Lib.hid hno; clear hno
    go_wp2_with fail
    go_ret2
    exact ⟨.inr ⟨fun h => by have := h.2.2.2; rw [HK.out] at this; exact absurd this (by decide), rfl⟩, (e0.mono l0).trans ((bt hb1 hb2).mono (by omega))⟩

set_option maxHeartbeats 1000000 in
theorem rcsaid_walk (was : ByteArray) (seq : Int) (r : Rec) (w : World) (hroot : r.root.size ≤ 1048576) (hname : r.name.size ≤ 1048576) (hf : Fits r.epoch) (hs : Fits seq) (hws0 : was.size ≤ 1048576) :
    Calls Try.prog 35 #[.string was, .int .i64 seq, r.v] w fun e w' => EndsB (saidCOk was seq r) (saidC was.data.toList seq r) e ∧ Below w.heap.size w w' := by
  have c256 : ((4 : Int).toNat) = 4 := rfl
  by_cases c2 : was.size = 32
  all_goals
    have d2 : ((was.size : Int) = 32) = (was.size = 32) := by simp only [eq_iff_iff]; omega
    have D2 := Lib.hid c2
    go_enter Try.func35, Try.ntmps35
    go_wp2_with ((with_reducible refine wpList_box_new 32 (.tmp 2) r.cells (some 5) ?hgd ?ho ?hd ?hx ?_); (case hgd => rfl); (case ho => rfl); (case hd => rfl); (case hx => rfl); (intro b w0 l0 B0 e0 z0))
    refine (rput_walk seq 4 _ (by have := hs.2; omega)).mono ?_
    rintro e w1 ⟨he, hb1⟩
    have HB := Lib.hid (B0.below hb1 z0); clear B0
    rcases he with ⟨c1, q, rfl, tq⟩ | ⟨c1, rfl⟩
    all_goals
      have C1 := Lib.hid c1; clear c1
      go_wp2_with ((with_reducible refine wpList_load_blk 32 (.tmp 5) b r.cells 32 _ HB.out Try.underlying32 rfl rsizeRec ?hgd ?ho ?hx ?_); (case hgd => rfl); (case ho => rfl); (case hx => rfl))
      refine (rrecput_walk r _ hroot hname hf).mono ?_
      rintro e w2 ⟨⟨hok, p, rfl, tp⟩ | ⟨hno, rfl⟩, hb2⟩
      all_goals
        try (have sp : p.size ≤ 85 := by rw [tp.size]; exact recPut_length hok)
        try (have sq : q.size ≤ 4 := by rw [tq.size, beBytes_length]; simp)
        try (have HK := Lib.hid hok; clear hok)
        try (have HK := Lib.hid hno; clear hno)
        have hbel := (e0.mono l0).trans ((bt hb1 hb2).mono (show w.heap.size ≤ w0.heap.size by omega))
        go_wp2_with fail
        go_ret2
        first
        | exact ⟨.inl ⟨⟨D2.out, by have := C1.out.1; omega, by have := C1.out.2.2.2; simp at this; omega, HK.out⟩, _, rfl, ((Txt.self was).append (tq.cast rfl)).append tp⟩, hbel⟩
        | exact ⟨.inr ⟨fun h => D2.out h.1, rfl⟩, hbel⟩
        | exact ⟨.inr ⟨fun h => by have := h.2.2.2; rw [HK.out] at this; exact absurd this (by decide), rfl⟩, hbel⟩
        | exact ⟨.inr ⟨fun h => C1.out ⟨h.2.1, by omega, by omega, by have := h.2.2.1; have := h.2.1; show seq.toNat < 4294967296; omega⟩, rfl⟩, hbel⟩
end Go.Proofs.Ytacoibiafpdoaaa
