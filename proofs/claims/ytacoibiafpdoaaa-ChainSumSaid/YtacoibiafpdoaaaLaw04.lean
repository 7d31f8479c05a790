/- What the statements of chapter 04 share: the chapter's example. -/
import Derived.Test.YtacoibiafpdoaaaWDerive3
namespace Go.Proofs.Ytacoibiafpdoaaa
open Go Go.RowKit
set_option linter.unusedVariables false

theorem infoInt : (Try.prog.info? 3).map (fun i => (i.zero, i.size, i.bytes)) = some (some (.int .i64 0), 1, 8) := by kernel_rfl

theorem IntRow.blk {w : World} {g : Nat} {xs : List Int} {t : TypeId} (h : Blk w g (xs.map (Value.int .i64)) t) {n : Nat} (hn : n = xs.length) (c : Nat) : IntRow w (.slice (some ⟨g, 0, none⟩) n c) xs := by
  subst hn
  refine .inr ⟨g, 0, c, rfl, h.lt, fun j x hx => ?_⟩
  rw [Nat.zero_add]
  exact h.cell (by simp [hx])

theorem said_a1 : saidL [97] [1] = [0, 0, 0, 1, 97, 1, 0, 0, 0, 0, 0, 0, 0, 1] := by decide

theorem alive04 (w : World) :
    Calls Try.prog 49 #[] w fun e w' => e = .returned (.bool true) ∧ Below w.heap.size w w' := by
  go_enter Try.func49, Try.ntmps49
  go_wp2_with ((with_reducible refine wpList_slice_new 54 3 1 ?parts [.int .i64 1] (.int .i64 0) 1 8 (some 4) Try.underlying54 infoInt (by omega) (by omega) ?hgd ?ho ?hd ?hf ?_); (case hgd => rfl); (case ho => rfl); (case hd => rfl); (case hf => kernel_rfl); (intro g w1 l1 B1 e1 z1))
  refine (said_walk ⟨[97].toArray⟩ _ [1] _ (IntRow.blk (xs := [1]) B1 rfl 1) ?_ (by simp)).mono ?_
  · intro j x hx
    cases j with
    | zero => simp at hx; omega
    | succ j => simp at hx
  rintro e w2 ⟨⟨hok, r, rfl, tr⟩ | ⟨hno, rfl⟩, hb2⟩
  · have hx : (r.toList == [0, 0, 0, 1, 97, 1, 0, 0, 0, 0, 0, 0, 0, 1]) = true := tr.is said_a1
    clear hok B1
    go_wp2_with fail
    go_ret
    exact ⟨rfl, (e1.mono l1).trans (hb2.mono (by omega))⟩
  · exact absurd hno (by decide)
end Go.Proofs.Ytacoibiafpdoaaa
