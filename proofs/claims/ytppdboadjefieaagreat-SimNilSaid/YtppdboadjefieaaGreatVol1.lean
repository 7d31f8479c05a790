/- A volume that is none, and its looks; a ring's key (chapter 26). -/
import Derived.Test.YtppdboadjefieaaGreatJour5
namespace Go.Proofs.YtppdboadjefieaaGreat
set_option linter.unusedSimpArgs false
set_option linter.unusedVariables false
open Go Go.RowKit
set_option linter.unusedVariables false
set_option maxRecDepth 100000

/-- The cells of a volume that no call made. -/
def volZero : List Value := [.pointer none, .string ⟨#[]⟩, .string ⟨#[]⟩, .pointer none, .slice none 0 0, .pointer none, .pointer none, .pointer none]
/-- A volume that is none. -/
def VolNone (w : World) (v : Value) : Prop := v = .pointer none ∨ ∃ vb, v = .pointer (some ⟨vb, 0, none⟩) ∧ Blk w vb volZero 50
theorem VolNone.below {w w' : World} {v : Value} (h : VolNone w v) (hb : Below w.heap.size w w') : VolNone w' v :=
  h.imp id fun ⟨vb, h1, h2⟩ => ⟨vb, h1, h2.below hb h2.lt⟩
theorem vnone_there (v : Value) (w : World) (h : VolNone w v) :
    Calls Tryz.prog 55 #[v] w fun e w' => e = .returned (.bool false) ∧ w = w' := by
  rcases h with rfl | ⟨vb, rfl, hb⟩
  · go_enter Tryz.func55, Tryz.ntmps55
    go_wp2_with fail
    go_ret
    exact ⟨rfl, rfl⟩
  · have c0 := hb.cell (i := 0) rfl
    go_enter Tryz.func55, Tryz.ntmps55
    go_wp2_with fail
    go_ret
    exact ⟨rfl, rfl⟩
theorem vnone_secrets (v : Value) (w : World) (h : VolNone w v) :
    Calls Tryz.prog 21 #[v] w fun e w' => e = .returned (.tuple #[.int .i64 0, .string ⟨#[]⟩, .string ⟨#[]⟩]) ∧ w = w' := by
  go_enter Tryz.func21, Tryz.ntmps21
  go_wp2_with fail
  refine (vnone_there v _ h).mono ?_
  rintro e w' ⟨rfl, rfl⟩
  go_wp2_with fail
  (try simp only [Exit.inBlock, Exit.then]); refine bodyPost_ret (results_tmp3 rfl _ _ _) rfl ⟨rfl, rfl⟩
theorem vnone_sealed (v : Value) (w : World) (h : VolNone w v) :
    Calls Tryz.prog 27 #[v] w fun e w' => e = .returned (.slice none 0 0) ∧ w = w' := by
  go_enter Tryz.func27, Tryz.ntmps27
  go_wp2_with fail
  refine (vnone_there v _ h).mono ?_
  rintro e w' ⟨rfl, rfl⟩
  go_wp2_with fail
  go_ret
  exact ⟨rfl, rfl⟩
/-- The key of the ring's own epoch. -/
theorem ringNext_walk (rb : Nat) (epoch : Int) (key was : ByteArray) (tv : Value) (w : World) (h : Blk w rb [.int .i64 epoch, .string key, tv] 114) :
    Calls Tryz.prog 63 #[.pointer (some ⟨rb, 0, none⟩), .int .i64 epoch, .string was] w fun e w' => e = .returned (.string key) ∧ w = w' := by
  have c0 := h.cell (i := 0) rfl
  have c1 := h.cell (i := 1) rfl
  go_enter Tryz.func63, Tryz.ntmps63
  go_wp2_with fail
  go_ret
  exact ⟨rfl, rfl⟩
theorem volNoughts_walk (w : World) :
    Calls Tryz.prog 109 #[] w fun e w' => (∃ r, e = .returned (.string r) ∧ Txt r (List.replicate 32 0)) ∧ Below w.heap.size w w' := by
  go_enter Tryz.func109, Tryz.ntmps109
  go_wp2_with fail
  refine (repeat0 32 _ (by decide)).mono ?_
  rintro e w1 ⟨r, rfl, tr, hb⟩
  go_wp2_with fail
  go_ret
  exact ⟨⟨r, rfl, tr⟩, hb⟩
end Go.Proofs.YtppdboadjefieaaGreat
