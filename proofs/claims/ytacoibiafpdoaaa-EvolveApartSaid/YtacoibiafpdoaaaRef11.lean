/- Walks of the documents' Data (chapter 18), and of the statements' 'is'. -/
import Derived.Test.YtacoibiafpdoaaaRef10
import Derived.Test.YtacoibiafpdoaaaLaw18
namespace Go.Proofs.Ytacoibiafpdoaaa
open Go Go.RowKit
set_option linter.unusedVariables false

/-- How Data ends. -/
def DataEnd (root : List UInt8) (e : Ending) : Prop :=
  (root.length = 32 ∧ ∃ r, e = .returned (.tuple #[.string r, .bool true]) ∧ Txt r (longL root [100, 97, 116, 97] 16)) ∨
  (root.length ≠ 32 ∧ e = .returned (.tuple #[.string ⟨#[]⟩, .bool false]))

theorem longL_data (root : List UInt8) : longL root [100, 97, 116, 97] 16 = (mac root (saidL [100, 97, 116, 97] [] ++ [1])).take 16 := by
  show (pieces root (saidL [100, 97, 116, 97] []) 1).take 16 = _
  simp [pieces, pieceAt, piece]

theorem rdata_walk (root : ByteArray) (w : World) :
    Calls Try.prog 81 #[.string root] w fun e w' => DataEnd root.data.toList e ∧ Below w.heap.size w w' := by
  by_cases c1 : root.size = 32
  · have d1 : (root.size : Int) = 32 := by omega
    go_enter Try.func81, Try.ntmps81
    go_wp2_with fail
    refine (rsaid_walk dataB _ [] _ (IntRow.nil _) (fun j x h => by simp at h) (by simp)).mono ?_
    rintro e w1 ⟨⟨hok, r, rfl, tr⟩ | ⟨hno, rfl⟩, hb1⟩
    · have hr : r.size ≤ 21 := by rw [tr.size, saidL_length]; simp [dataB]
      clear hok
      go_wp2_with fail
      refine (rmac_walk root _ _ (by omega) (by simp [ByteArray.size_append]; have : (⟨#[1]⟩ : ByteArray).size = 1 := rfl; omega)).mono ?_
      rintro e w2 ⟨q, rfl, tq, hb2⟩
      have hq : q.size = 32 := by rw [tq.size, mac_length]
      have hq' : (16 : Int) ≤ q.size := by omega
      clear hq
      go_wp2_with fail
      go_ret2
      refine ⟨.inl ⟨c1, _, rfl, ?_⟩, bt hb1 hb2⟩
      refine (tq.extract 0 16).cast ?_
      rw [longL_data, List.drop_zero]
      rw [show (r ++ (⟨#[1]⟩ : ByteArray)).data.toList = _ from tr.append (Txt.mk [1])]
      rfl
    · exact absurd hno (by decide)
  · have d1 : ¬ (root.size : Int) = 32 := by omega
    go_enter Try.func81, Try.ntmps81
    go_wp2_with fail
    refine (rsaid_walk dataB _ [] _ (IntRow.nil _) (fun j x h => by simp at h) (by simp)).mono ?_
    rintro e w1 ⟨⟨hok, r, rfl, tr⟩ | ⟨hno, rfl⟩, hb1⟩
    · clear hok
      go_wp2_with fail
      go_ret2
      exact ⟨.inr ⟨c1, rfl⟩, hb1⟩
    · exact absurd hno (by decide)

theorem is18_yes (s t : ByteArray) (w : World) (h : (s.toList == t.toList) = true) :
    Calls Try.prog 82 #[.string s, .int .i64 0, .string t, .bool true] w fun e w' => e = .returned (.bool true) ∧ w = w' := by
  go_enter Try.func82, Try.ntmps82
  go_wp2_with fail
  go_ret
  exact ⟨rfl, rfl⟩
theorem is18_no (w : World) :
    Calls Try.prog 82 #[.string ⟨#[]⟩, .int .i64 2, .string ⟨#[]⟩, .bool false] w fun e w' => e = .returned (.bool true) ∧ w = w' := by
  go_enter Try.func82, Try.ntmps82
  go_wp2_with fail
  go_ret
  exact ⟨rfl, rfl⟩
end Go.Proofs.Ytacoibiafpdoaaa
