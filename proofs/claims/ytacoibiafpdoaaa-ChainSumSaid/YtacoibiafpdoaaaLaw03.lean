/- What the statements of chapter 03 share: the chapter's example, noughts. -/
import Derived.Test.YtacoibiafpdoaaaWHmac2
namespace Go.Proofs.Ytacoibiafpdoaaa
open Go Go.RowKit
set_option linter.unusedVariables false

theorem noughts_walk (n : Int) (w : World) (h0 : 0 ≤ n) (h1 : n ≤ 1073741824) :
    Calls Try.prog 40 #[.int .i64 n] w fun e w' => ∃ r, e = .returned (.string r) ∧ Txt r (List.replicate n.toNat 0) ∧ Below w.heap.size w w' := by
  by_cases h : n < 1
  · go_enter Try.func40, Try.ntmps40
    go_wp2_with fail
    go_ret
    exact ⟨_, rfl, by rw [show n.toNat = 0 by omega]; rfl, Below.refl _ _⟩
  · obtain ⟨k, hk⟩ : ∃ k : Nat, n = (k : Int) := ⟨n.toNat, by omega⟩
    subst hk
    rw [Int.toNat_natCast]
    have hk1 : (1 : Int) ≤ k := by omega
    go_enter Try.func40, Try.ntmps40
    go_wp2_with (first
      | ((with_reducible refine wpList_make_bytes 104 5 (.tmp 5) (.tmp 5) k (some 6) (k : Int) Try.underlying104 infoByte (by omega) rfl ?hgd ?ho ?hd ?hx ?hy ?_); (case hgd => rfl); (case ho => rfl); (case hd => rfl); (case hx => rfl); (case hy => rfl); (intro g w1 l1 B1 e1' z1); (have HB := Lib.hid B1); (clear B1))
      | ((with_reducible refine wpList_string_bytes 104 9 5 (.tmp 6) (List.replicate k 0) g 0 k k (some 7) Try.underlying104 Try.underlying5 Try.underlying9 HB.out.range List.length_replicate.symm ?hgd ?ho ?hd ?hx ?_); (case hgd => rfl); (case ho => rfl); (case hd => rfl); (case hx => rfl)))
    go_ret
    exact ⟨_, rfl, Txt.mk _, e1'.mono l1⟩

def fox : List UInt8 := [84, 104, 101, 32, 113, 117, 105, 99, 107, 32, 98, 114, 111, 119, 110, 32, 102, 111, 120, 32, 106, 117, 109, 112, 115, 32, 111, 118, 101, 114, 32, 116, 104, 101, 32, 108, 97, 122, 121, 32, 100, 111, 103]
theorem fox_mac : ((mac [107, 101, 121] fox).take 8).drop 0 = [247, 188, 131, 244, 48, 83, 132, 36] := by decide +kernel

theorem alive03 (w : World) :
    Calls Try.prog 37 #[] w fun e w' => e = .returned (.bool true) ∧ Below w.heap.size w w' := by
  go_enter Try.func37, Try.ntmps37
  go_wp2_with fail
  refine (mac_walk ⟨[107, 101, 121].toArray⟩ ⟨fox.toArray⟩ _ (by decide) (by decide)).mono ?_
  rintro e w1 ⟨r, rfl, tr, hb⟩
  have hr : r.size = 32 := by rw [tr.size, mac_length]
  have hx : ((r.extract 0 8).toList == [247, 188, 131, 244, 48, 83, 132, 36]) = true := (tr.extract 0 8).is fox_mac
  go_wp2_with fail
  go_ret
  exact ⟨rfl, hb⟩
end Go.Proofs.Ytacoibiafpdoaaa
