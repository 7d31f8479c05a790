/- Walk of EvolveApart: for every text the law returns true. No condition. -/
import Derived.Test.YtacoibiafpdoaaaRef11
import Derived.Deep.QuietTactic
import Derived.BigQuiet
namespace Go.Proofs.Ytacoibiafpdoaaa
open Go Go.RowKit
set_option linter.unusedVariables false

def labs18 : List ByteArray := [nextB, macB, askB]
theorem labs18_ok (i : Nat) (x : ByteArray) (h : labs18[i]? = some x) : saidOk x.data.toList [] = true ∧ x.size ≤ 4 := by
  match i, h with
  | 0, h => simp [labs18] at h; subst h; exact ⟨by decide, by decide⟩
  | 1, h => simp [labs18] at h; subst h; exact ⟨by decide, by decide⟩
  | 2, h => simp [labs18] at h; subst h; exact ⟨by decide, by decide⟩
theorem labs18_ne (i j : Nat) (x y : ByteArray) (h : labs18[i]? = some x) (h' : labs18[j]? = some y) (hij : j < i) : saidL x.data.toList [] ≠ saidL y.data.toList [] := by
  match i, j, h, h', hij with
  | 1, 0, h, h', _ => simp [labs18] at h h'; subst h; subst h'; decide
  | 2, 0, h, h', _ => simp [labs18] at h h'; subst h; subst h'; decide
  | 2, 1, h, h', _ => simp [labs18] at h h'; subst h; subst h'; decide
  | i + 3, _, h, _, _ => simp [labs18] at h

set_option maxRecDepth 100000 in
set_option maxHeartbeats 4000000 in
theorem evolveApart_walk (k : ByteArray) (w : World) :
    Calls Try.prog 16 #[.string k] w fun e w' => e = .returned (.bool true) ∧ Below w.heap.size w w' := by
  by_cases c1 : k.size = 32
  rotate_left
  · have d1 : ¬ (k.size : Int) = 32 := by omega
    go_enter Try.func16, Try.ntmps16
    go_wp2_with fail
    refine (alive18 _).mono ?_
    rintro e w1 ⟨rfl, hb1⟩
    go_wp2_with fail
    go_ret
    exact ⟨rfl, hb1⟩
  have d1 : (k.size : Int) = 32 := by omega
  have hks : k.size ≤ 32 := by omega
  go_enter Try.func16, Try.ntmps16
  go_wp2_with ((with_reducible refine wpList_slice_new 61 9 3 ?parts (labs18.map Value.string) (.string ⟨#[]⟩) 1 16 (some 24) Try.underlying61 infoString (by omega) (by omega) ?hgd ?ho ?hd ?hf ?_); (case hgd => rfl); (case ho => rfl); (case hd => rfl); (case hf => kernel_rfl); (intro g w1 l1 B1 e1 z1))
  refine (nextKey_walk k _).mono ?_
  rintro e w2 ⟨he, hb2⟩
  obtain ⟨a, rfl, ta⟩ := he.yes c1
  clear he
  go_wp2_with fail
  refine (macKey_walk k _).mono ?_
  rintro e w3 ⟨he, hb3⟩
  obtain ⟨b, rfl, tb⟩ := he.yes c1
  clear he
  go_wp2_with fail
  refine (askKey_walk k _).mono ?_
  rintro e w4 ⟨he, hb4⟩
  obtain ⟨c, rfl, tc⟩ := he.yes c1
  clear he d1 c1
  go_wp2_with fail
  have B5 : Blk (w4.alloc (.cells #[.string a, .string b, .string c] 9)) w4.heap.size ([a, b, c].map Value.string) 9 := Blk.new w4 [.string a, .string b, .string c] _
  have e5 : Below w4.heap.size w4 (w4.alloc (.cells #[.string a, .string b, .string c] 9)) := (Below.refl _ _).alloc (Nat.le_refl _) _
  generalize w4.alloc (.cells #[.string a, .string b, .string c] 9) = w5 at *
  have h4 : ∃ g', g' = w4.heap.size := ⟨_, rfl⟩
  obtain ⟨g', hg'⟩ := h4
  rw [← hg'] at B5 ⊢
  have hb34 := bt (bt hb2 hb3) hb4
  have hbel : Below w.heap.size w w5 := ((e1.mono l1).trans (hb34.mono (by omega))).trans (e5.mono (by have := hb34.size; omega))
  have C1 : Blk w5 g (labs18.map Value.string) 9 := ((B1.below hb34 z1).below e5 (by have := hb34.size; omega))
  have hmade : ∀ (i : Nat) (x y : ByteArray), labs18[i]? = some x → [a, b, c][i]? = some y → Txt y (mac k.data.toList (saidL x.data.toList [])) := by
    intro i x y h h'
    match i, h, h' with
    | 0, h, h' => simp [labs18] at h h'; subst h; subst h'; exact ta
    | 1, h, h' => simp [labs18] at h h'; subst h; subst h'; exact tb
    | 2, h, h' => simp [labs18] at h h'; subst h; subst h'; exact tc
  have HM := Lib.hid hmade; clear hmade
  clear hb34 hb2 hb3 hb4 e1 e5 z1 l1 hg' B1 ta tb tc
  go_loopw [46] (fun v wr => ∃ i : Nat, i ≤ 3 ∧ v = .int .i64 i ∧ Blk wr g (labs18.map Value.string) 9 ∧ Blk wr g' ([a, b, c].map Value.string) 9 ∧ Below w.heap.size w wr) (fun v _ => 3 - (intOf v).toNat)
  case atStart => exact ⟨0, by omega, rfl, C1, B5, hbel⟩
  case round =>
    clear C1 B5 hbel
    obtain ⟨i, hi, rfl, C1, C2, hbel⟩ := hrel
    have H1 := Lib.hid C1; clear C1
    have H2 := Lib.hid C2; clear C2
    by_cases hlt : i < 3
    · have hlt' : (i : Int) < 3 := by omega
      obtain ⟨x, hx⟩ : ∃ x, labs18[i]? = some x := ⟨_, List.getElem?_eq_getElem (by simpa [labs18] using hlt)⟩
      have HX := Lib.hid hx; clear hx
      obtain ⟨mx, hmx⟩ : ∃ x, [a, b, c][i]? = some x := ⟨_, List.getElem?_eq_getElem (by simpa using hlt)⟩
      have HMX := Lib.hid hmx; clear hmx
      obtain ⟨wo, rfl⟩ : ∃ wo : World, wo = wr := ⟨_, rfl⟩
      go_wp2_with fail
      go_loopw [50] (fun v wr => ∃ j : Nat, j ≤ i ∧ v = .int .i64 j ∧ Blk wr g (labs18.map Value.string) 9 ∧ Blk wr g' ([a, b, c].map Value.string) 9 ∧ Below w.heap.size w wr) (fun v _ => i - (intOf v).toNat)
      case atStart => exact ⟨0, by omega, rfl, H1.out, H2.out, hbel⟩
      case round =>
        clear H1 H2 hbel
        obtain ⟨j, hj, rfl, C1, C2, hbel⟩ := hrel
        by_cases hjt : j < i
        · have hjt' : (j : Int) < i := by omega
          have hj3 : (j : Int) < 3 := by omega
          obtain ⟨y, hy⟩ : ∃ x, labs18[j]? = some x := ⟨_, List.getElem?_eq_getElem (by simp [labs18]; omega)⟩
          obtain ⟨my, hmy⟩ : ∃ x, [a, b, c][j]? = some x := ⟨_, List.getElem?_eq_getElem (by simp; omega)⟩
          have HY := Lib.hid hy; clear hy
          have HMY := Lib.hid hmy; clear hmy
          have sx := (labs18_ok i x HX.out).2
          have sy := (labs18_ok j y HY.out).2
          have q1 : wr.cell? ⟨g, i, none⟩ = some (.string x) := C1.cell (by simp [HX.out])
          have H1 := Lib.hid C1; clear C1
          have H2 := Lib.hid C2; clear C2
          go_wp2_with fail
          clear q1
          refine (rsaid_walk x _ [] _ (IntRow.nil _) (fun j x h => by simp at h) (by simp)).mono ?_
          rintro e w2 ⟨⟨hok, r, rfl, tr⟩ | ⟨hno, rfl⟩, hb2⟩
          rotate_left
          · rw [(labs18_ok i x HX.out).1] at hno; exact absurd hno (by decide)
          clear hok
          have C1 := H1.out.below hb2 H1.out.lt
          have C2 := H2.out.below hb2 H2.out.lt
          have q1 : w2.cell? ⟨g, j, none⟩ = some (.string y) := C1.cell (by simp [HY.out])
          clear H1 H2
          have H1 := Lib.hid C1; clear C1
          have H2 := Lib.hid C2; clear C2
          go_wp2_with fail
          clear q1
          refine (rsaid_walk y _ [] _ (IntRow.nil _) (fun j x h => by simp at h) (by simp)).mono ?_
          rintro e w3 ⟨⟨hok, q, rfl, tq⟩ | ⟨hno, rfl⟩, hb3⟩
          rotate_left
          · rw [(labs18_ok j y HY.out).1] at hno; exact absurd hno (by decide)
          clear hok
          have C1 := H1.out.below hb3 H1.out.lt
          have C2 := H2.out.below hb3 H2.out.lt
          clear H1 H2
          have H1 := Lib.hid C1; clear C1
          have H2 := Lib.hid C2; clear C2
          have sr : r.size ≤ 16 := by rw [tr.size, saidL_length]; have e : x.data.toList.length = x.size := rfl; simp; omega
          have sq : q.size ≤ 16 := by rw [tq.size, saidL_length]; have e : y.data.toList.length = y.size := rfl; simp; omega
          have tmx := HM.out i x mx HX.out HMX.out
          have tmy := HM.out j y my HY.out HMY.out
          rw [← show r.data.toList = saidL x.data.toList [] from tr] at tmx
          rw [← show q.data.toList = saidL y.data.toList [] from tq] at tmy
          have hne : r.data.toList ≠ q.data.toList := by
            rw [show r.data.toList = saidL x.data.toList [] from tr, show q.data.toList = saidL y.data.toList [] from tq]
            exact labs18_ne i j x y HX.out HY.out hjt
          have HE := Lib.hid hne; clear hne
          have e1 : (IntKind.i64.wrap ((i : Nat) : Int)) = (i : Int) := IntWalk.i64_in _ (by omega)
          clear e1
          by_cases hm : mac k.data.toList r.data.toList = mac k.data.toList q.data.toList
          all_goals
            first
            | (have hjk : (mx.toList == my.toList) = true := tmx.same tmy hm
               have HMM := Lib.hid hm; clear hm
               go_wp2_with fail
               refine (clash_told k r k q _ (by omega) (by omega) (by omega) (by omega) HMM.out (.inr HE.out)).mono ?_
               rintro e w4 ⟨⟨_, _, _, _, rfl, _⟩, hb4⟩)
            | (have hjk : (mx.toList == my.toList) = false := tmx.other tmy hm
               have HMM := Lib.hid hm; clear hm
               go_wp2_with fail
               refine (clash_unlike k r k q _ (by omega) (by omega) (by omega) (by omega) HMM.out).mono ?_
               rintro e w4 ⟨rfl, hb4⟩)
            have C1 := H1.out.below hb4 H1.out.lt
            have C2 := H2.out.below hb4 H2.out.lt
            clear H1 H2
            have q1 : w4.cell? ⟨g', i, none⟩ = some (.string mx) := C2.cell (by rw [List.getElem?_map, HMX.out]; rfl)
            have q2 : w4.cell? ⟨g', j, none⟩ = some (.string my) := C2.cell (by rw [List.getElem?_map, HMY.out]; rfl)
            have H1 := Lib.hid C1; clear C1
            have H2 := Lib.hid C2; clear C2
            have p0 : (0 : Int) ≤ (i : Int) := by omega
            have p1 : (0 : Int) ≤ (j : Int) := by omega
            go_wp2_with fail
            go_quiet (fail)
            go_wp2_with fail
            go_roundw
            case rel => exact ⟨j + 1, by omega, by go_num, H1.out.drewN _, H2.out.drewN _, Below.drewN (hbel.trans ((bt hb2 (bt hb3 hb4)).mono hbel.size)) _⟩
            case measure => simp [intOf]; omega
        · obtain rfl : j = i := by omega
          go_wp2_with fail
          go_roundw
          case rel => exact ⟨j + 1, by omega, by go_num, C1, C2, hbel⟩
          case measure => simp [intOf]; omega
    · obtain rfl : i = 3 := by omega
      go_wp2_with fail
      refine (alive18 _).mono ?_
      rintro e w4 ⟨rfl, hb4⟩
      go_wp2_with fail
      go_ret
      exact ⟨rfl, hbel.trans (hb4.mono hbel.size)⟩
end Go.Proofs.Ytacoibiafpdoaaa
