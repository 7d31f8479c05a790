/- Flush, of a disk that has power, and no step at which it goes (chapter 8): the call. -/
import Derived.Test.YtppdboadjefieaaGreatDisk4
namespace Go.Proofs.YtppdboadjefieaaGreat
set_option linter.unusedSimpArgs false
set_option linter.unusedVariables false
open Go Go.RowKit
set_option linter.unusedVariables false
set_option maxRecDepth 100000

theorem dflush_walk (db : Nat) (d : DiskD) (w : World) (h : DiskAt w db d) (hd : d.down = false) (hl : d.left = 0) (hc : d.cs.length ≤ 4096) (hb : d.bs.length ≤ 1024) (hin : ∀ (j : Nat) p, d.cs[j]? = some p → 0 ≤ p.1 ∧ p.1 < d.bs.length) :
    Calls Tryz.prog 151 #[.pointer (some ⟨db, 0, none⟩)] w fun e w' => e = .returned (.int .i64 0) ∧ DiskTo w w' db d d.flushed := by
  have HH := Lib.hid h
  have HIN := Lib.hid hin
  clear h hin
  go_enter Tryz.func151, Tryz.ntmps151
  go_wp2_with fail
  refine (dmay_walk db d _ HH.out).mono ?_
  rintro e w' ⟨rfl, rfl⟩
  rw [hd]
  go_wp2_with fail
  refine (dstep_calm db d _ HH.out hd hl).mono ?_
  rintro e w' ⟨rfl, rfl⟩
  go_wp2_with fail
  refine (ddo_walk db d _ HH.out hc hb HIN.out).mono ?_
  rintro e w2 ⟨rfl, ht⟩
  have HT := Lib.hid ht
  clear ht
  go_wp2_with fail
  go_ret
  exact ⟨rfl, HT.out⟩
end Go.Proofs.YtppdboadjefieaaGreat
