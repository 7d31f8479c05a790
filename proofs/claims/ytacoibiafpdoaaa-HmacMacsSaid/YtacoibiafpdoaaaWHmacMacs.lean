/- Walk of HmacMacs: for every key and message the program's HMAC answers as the documents'. No condition. -/
import Derived.Test.YtacoibiafpdoaaaRef6
namespace Go.Proofs.Ytacoibiafpdoaaa
open Go Go.RowKit
set_option linter.unusedVariables false

set_option maxHeartbeats 4000000 in
theorem hmacMacs_walk (key msg : ByteArray) (w : World) :
    Calls Try.prog 6 #[.string key, .string msg] w fun e w' => e = .returned (.bool true) ∧ Below w.heap.size w w' := by
  by_cases c1 : 500 < key.size
  · have d1 : (500 : Int) < key.size := by omega
    go_enter Try.func6, Try.ntmps6
    go_wp2_with fail
    refine (alive03 _).mono ?_
    rintro e w1 ⟨rfl, hb1⟩
    go_wp2_with fail
    go_ret
    exact ⟨rfl, hb1⟩
  by_cases c2 : 500 < msg.size
  · have d1 : (key.size : Int) ≤ 500 := by omega
    have d2 : (500 : Int) < msg.size := by omega
    go_enter Try.func6, Try.ntmps6
    go_wp2_with fail
    refine (alive03 _).mono ?_
    rintro e w1 ⟨rfl, hb1⟩
    go_wp2_with fail
    go_ret
    exact ⟨rfl, hb1⟩
  have d1 : (key.size : Int) ≤ 500 := by omega
  have d2 : (msg.size : Int) ≤ 500 := by omega
  go_enter Try.func6, Try.ntmps6
  go_wp2_with fail
  refine (hkey_walk key _ (by omega)).mono ?_
  rintro e w1 ⟨a1, rfl, t1, hb1⟩
  go_wp2_with fail
  refine (rkey_walk key _ (by omega)).mono ?_
  rintro e w2 ⟨a2, rfl, t2, hb2⟩
  have x1 : (a1.toList == a2.toList) = true := t1.same t2 rfl
  go_wp2_with fail
  refine (inner_walk key msg _ (by omega) (by omega)).mono ?_
  rintro e w3 ⟨a3, rfl, t3, hb3⟩
  go_wp2_with fail
  refine (rinner_walk key msg _ (by omega) (by omega)).mono ?_
  rintro e w4 ⟨a4, rfl, t4, hb4⟩
  have x2 : (a3.toList == a4.toList) = true := t3.same t4 rfl
  go_wp2_with fail
  refine (outer_walk key msg _ (by omega) (by omega)).mono ?_
  rintro e w5 ⟨a5, rfl, t5, hb5⟩
  go_wp2_with fail
  refine (router_walk key msg _ (by omega) (by omega)).mono ?_
  rintro e w6 ⟨a6, rfl, t6, hb6⟩
  have x3 : (a5.toList == a6.toList) = true := t5.same t6 rfl
  go_wp2_with fail
  refine (mac_walk key msg _ (by omega) (by omega)).mono ?_
  rintro e w7 ⟨a7, rfl, t7, hb7⟩
  go_wp2_with fail
  refine (rmac_walk key msg _ (by omega) (by omega)).mono ?_
  rintro e w8 ⟨a8, rfl, t8, hb8⟩
  have x4 : (a7.toList == a8.toList) = true := t7.same t8 rfl
  go_wp2_with fail
  refine (alive03 _).mono ?_
  rintro e w9 ⟨rfl, hb9⟩
  go_wp2_with fail
  go_ret
  have s1 := hb1.size
  have s2 := hb2.size
  have s3 := hb3.size
  have s4 := hb4.size
  have s5 := hb5.size
  have s6 := hb6.size
  have s7 := hb7.size
  have s8 := hb8.size
  exact ⟨rfl, (((((((hb1.trans (hb2.mono (by omega))).trans (hb3.mono (by omega))).trans (hb4.mono (by omega))).trans (hb5.mono (by omega))).trans (hb6.mono (by omega))).trans (hb7.mono (by omega))).trans (hb8.mono (by omega))).trans (hb9.mono (by omega))⟩
end Go.Proofs.Ytacoibiafpdoaaa
