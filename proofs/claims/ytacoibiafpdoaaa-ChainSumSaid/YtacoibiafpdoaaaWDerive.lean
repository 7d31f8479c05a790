/- Walks of octet.Text, octet.Put where it may not be, and package derive. -/
import Derived.Test.YtacoibiafpdoaaaWHmac2
import Derived.Test.YtacoibiafpdoaaaBuild
import Derived.Test.YtacoibiafpdoaaaDerive
namespace Go.Proofs.Ytacoibiafpdoaaa
open Go Go.RowKit
set_option linter.unusedVariables false

theorem oput_neg (n : Int) (wd : Nat) (w : World) (h1 : 1 ≤ wd) (h2 : wd ≤ 8) (hn : n < 0) :
    Calls Try.prog 109 #[.int .i64 n, .int .i64 wd] w fun e w' => e = .returned (.tuple #[.string ⟨#[]⟩, .int .i64 2]) ∧ w = w' := by
  have e1 : (1 : Int) ≤ wd := by omega
  have e2 : (wd : Int) ≤ 8 := by omega
  go_enter Try.func109, Try.ntmps109
  go_wp2_with fail
  go_ret2
  exact ⟨rfl, rfl⟩

theorem mask32 (n : Nat) (h : n < 4294967296) : bits BinOp.and IntKind.i64 (n : Int) 4294967295 = (n : Int) := by
  have := bits_mask .i64 63 (by decide) (fun x h0 h1 => by rw [IntKind.wrap_i64]; omega) 32 (by decide) (n : Int) (by omega) (by omega)
  refine this.trans ?_
  omega

theorem otext_walk (s : ByteArray) (w : World) (hs : s.size ≤ 1073741824) :
    Calls Try.prog 108 #[.string s] w fun e w' => ∃ r, e = .returned (.string r) ∧ Txt r (textL s.data.toList) ∧ Below w.heap.size w w' := by
  obtain ⟨n, Hn⟩ : ∃ n, Hid (n = s.size) := ⟨_, rfl⟩
  have em : bits BinOp.and IntKind.i64 ((s.size : Nat) : Int) 4294967295 = (n : Int) := by rw [Hn.out]; exact mask32 s.size (by omega)
  have hn : n ≤ 1073741824 := by rw [Hn.out]; exact hs
  go_enter Try.func108, Try.ntmps108
  go_wp2_with fail
  refine (oput n 4 _ (by omega) (by omega) (by omega) (by omega)).mono ?_
  rintro e w1 ⟨r, rfl, tr, hb⟩
  have hr : r.size ≤ 4 := by rw [tr.size, beBytes_length]; omega
  go_wp2_with fail
  go_ret
  refine ⟨_, rfl, (tr.append (Txt.self s)).cast ?_, hb⟩
  rw [Hn.out]; rfl
end Go.Proofs.Ytacoibiafpdoaaa
