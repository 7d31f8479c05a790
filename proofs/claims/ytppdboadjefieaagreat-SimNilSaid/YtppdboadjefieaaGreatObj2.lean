/- Looks of books and spaces (chapters 12, 23). -/
import Derived.Test.YtppdboadjefieaaGreatObj
namespace Go.Proofs.YtppdboadjefieaaGreat
set_option linter.unusedSimpArgs false
set_option linter.unusedVariables false
open Go Go.RowKit
set_option linter.unusedVariables false
set_option maxRecDepth 100000

theorem bookThere_walk (bb cb : Nat) (first epoch : Int) (m1 m2 m3 : Nat) (w : World) (h : Blk w bb (bookCells cb first epoch m1 m2 m3) 213) :
    Calls Tryz.prog 127 #[.pointer (some ⟨bb, 0, none⟩)] w fun e w' => e = .returned (.bool true) ∧ w = w' := by
  have c0 := h.cell (i := 0) rfl
  go_enter Tryz.func127, Tryz.ntmps127
  go_wp2_with fail
  go_ret
  exact ⟨rfl, rfl⟩
theorem bookEpoch_walk (bb cb : Nat) (first epoch : Int) (m1 m2 m3 : Nat) (w : World) (h : Blk w bb (bookCells cb first epoch m1 m2 m3) 213) :
    Calls Tryz.prog 56 #[.pointer (some ⟨bb, 0, none⟩)] w fun e w' => e = .returned (.int .i64 epoch) ∧ w = w' := by
  have c2 := h.cell (i := 2) rfl
  go_enter Tryz.func56, Tryz.ntmps56
  go_wp2_with fail
  refine (bookThere_walk bb cb first epoch m1 m2 m3 _ h).mono ?_
  rintro e w1 ⟨rfl, rfl⟩
  go_wp2_with fail
  go_ret
  exact ⟨rfl, rfl⟩
theorem bookNow_walk (bb cb : Nat) (first epoch : Int) (m1 m2 m3 : Nat) (w : World) (h : Blk w bb (bookCells cb first epoch m1 m2 m3) 213) (t : Int) (hc : Blk w cb [.bool true, .int .i64 t] 224) :
    Calls Tryz.prog 174 #[.pointer (some ⟨bb, 0, none⟩)] w fun e w' => e = .returned (.int .i64 t) ∧ w = w' := by
  have c0 := h.cell (i := 0) rfl
  go_enter Tryz.func174, Tryz.ntmps174
  go_wp2_with fail
  refine (bookThere_walk bb cb first epoch m1 m2 m3 _ h).mono ?_
  rintro e w1 ⟨rfl, rfl⟩
  go_wp2_with fail
  refine (clockNow_walk cb t _ hc).mono ?_
  rintro e w1 ⟨rfl, rfl⟩
  go_wp2_with fail
  go_ret
  exact ⟨rfl, rfl⟩
theorem spaceThere_walk (sb : Nat) (g : GeoD) (used : Int) (w : World) (h : Blk w sb (spaceCells g used) 215) (hg : GeoOk g) :
    Calls Tryz.prog 128 #[.pointer (some ⟨sb, 0, none⟩)] w fun e w' => e = .returned (.bool true) ∧ w = w' := by
  have c0 := h.cell (i := 0) rfl
  have c4 := h.cell (i := 4) rfl
  have hb : 0 < g.blocks := by have := hg.b0; omega
  go_enter Tryz.func128, Tryz.ntmps128
  go_wp2_with fail
  go_ret
  exact ⟨rfl, rfl⟩
theorem spaceUsed_walk (sb : Nat) (g : GeoD) (used : Int) (w : World) (h : Blk w sb (spaceCells g used) 215) (hg : GeoOk g) :
    Calls Tryz.prog 209 #[.pointer (some ⟨sb, 0, none⟩)] w fun e w' => e = .returned (.int .i64 used) ∧ w = w' := by
  have c3 := h.cell (i := 3) rfl
  go_enter Tryz.func209, Tryz.ntmps209
  go_wp2_with fail
  refine (spaceThere_walk sb g used _ h hg).mono ?_
  rintro e w1 ⟨rfl, rfl⟩
  go_wp2_with fail
  go_ret
  exact ⟨rfl, rfl⟩
end Go.Proofs.YtppdboadjefieaaGreat
