/- Walks of sample.Pick and of the closure in it (chapter 38). -/
import Derived.Test.YtacoibiafpdoaaaSmp2
import Derived.Test.YtacoibiafpdoaaaG1
import Derived.Maps.OwnSet
import Derived.Maps.OwnOps
import Derived.Carry
import Derived.Deep.DeepAppendWide
import Derived.OneCell
namespace Go.Proofs.Ytacoibiafpdoaaa
open Go Go.RowKit Go.Maps Go.WideMaps
set_option linter.unusedVariables false

/-- Two places of a row changed over. -/
def swapF (g : Nat → Nat) (i k : Nat) : Nat → Nat := fun j => if j = i then g k else if j = k then g i else g j
/-- The row of numbers behind so many picks. -/
def rowS (s : List UInt8) (t : Nat) : Nat → Nat → Nat
  | 0 => fun j => j
  | i + 1 => swapF (rowS s t i) i (i + numS s i (t - i))
/-- What is picked at a place. -/
def pickX (s : List UInt8) (t i : Nat) : Nat := rowS s t i (i + numS s i (t - i))
def pickS (s : List UInt8) (f l : Int) (t m : Nat) : List AskD := (List.range m).map (fun i => ⟨f + ((pickX s t i : Nat) : Int) / l, ((pickX s t i : Nat) : Int) % l⟩)
theorem pickS_length (s : List UInt8) (f l : Int) (t m : Nat) : (pickS s f l t m).length = m := by simp [pickS]
theorem pickS_succ (s : List UInt8) (f l : Int) (t m : Nat) : pickS s f l t (m + 1) = pickS s f l t m ++ [⟨f + ((pickX s t m : Nat) : Int) / l, ((pickX s t m : Nat) : Int) % l⟩] := by
  simp [pickS, List.range_succ]
theorem rowS_lt {s : List UInt8} {t : Nat} (i : Nat) (hi : i ≤ t) : ∀ j, j < t → rowS s t i j < t := by
  induction i with
  | zero => intro j hj; exact hj
  | succ i ih =>
    intro j hj
    have h1 := ih (by omega)
    have hn : numS s i (t - i) < t - i := numS_lt (by omega)
    show (if j = i then _ else if j = _ then _ else _) < t
    split
    · exact h1 _ (by omega)
    · split
      · exact h1 _ (by omega)
      · exact h1 _ hj
theorem pickX_lt {s : List UInt8} {t i : Nat} (hi : i < t) : pickX s t i < t := by
  have hn : numS s i (t - i) < t - i := numS_lt (by omega)
  exact rowS_lt i (by omega) _ (by omega)
def flatA (ys : List AskD) : List Value := ys.flatMap AskD.cells
theorem flatA_snoc (ys : List AskD) (y : AskD) : flatA (ys ++ [y]) = flatA ys ++ y.cells := by simp [flatA]

/-- A map that says how a row of numbers parts from the row as it came. -/
def MapSays (D : DataW Unit) (g : Nat → Nat) : Prop :=
  ∀ j : Nat, (Maps.has D (.int .i64 (j : Int)) = true ∧ D.atKey (.int .i64 (j : Int)) (.lit (.int .i64 0)) = .lit (.int .i64 ((g j : Nat) : Int))) ∨ (Maps.has D (.int .i64 (j : Int)) = false ∧ g j = j)
theorem says_none : MapSays (.map []) (fun j => j) := fun j => .inr ⟨rfl, rfl⟩
theorem says_put {D : DataW Unit} {g : Nat → Nat} (hD : IsMap D) (h : MapSays D g) (k v : Nat) : MapSays (D.put (.int .i64 (k : Int)) (.lit (.int .i64 ((v : Nat) : Int)))) (fun j => if j = k then v else g j) := by
  intro j
  by_cases hj : j = k
  · subst hj
    exact .inl ⟨has_put_same hD (show WideAt.IsKeyLit (.int .i64 (j : Int)) from trivial) _, by rw [atKey_put_same hD (show WideAt.IsKeyLit (.int .i64 (j : Int)) from trivial)]; simp only [if_pos]⟩
  · have hne : (Lit.int .i64 (j : Int)) ≠ .int .i64 (k : Int) := by intro e; injection e with _ e; omega
    rw [has_put_other hne, atKey_put_other hne]
    simp only [if_neg hj]
    exact h j
theorem says_swap {D : DataW Unit} {g : Nat → Nat} (hD : IsMap D) (h : MapSays D g) (i k : Nat) {D1 : DataW Unit} (h1 : D1 = D.put (.int .i64 (k : Int)) (.lit (.int .i64 ((g i : Nat) : Int)))) (hD1 : IsMap D1) :
    MapSays (D1.put (.int .i64 (i : Int)) (.lit (.int .i64 ((g k : Nat) : Int)))) (swapF g i k) := by
  subst h1
  have := says_put hD1 (says_put hD h k (g i)) i (g k)
  exact this

theorem keyedInt : Keyed Try.prog 3 := int_keyed Try.underlying3
theorem zeroInt (w : World) : (zeroValue 3).run Try.prog w = .ok (.int .i64 0) w := by kernel_rfl
theorem keyInt {k : Nat} (hk : k ≤ 8388608) : keyOf Try.prog 3 (.int .i64 (k : Int)) = some (.int .i64 (k : Int)) := keyOf_int_mk Try.underlying3 (WalkArith.wf_i64 (by omega))

set_option maxRecDepth 100000 in
set_option maxHeartbeats 1000000 in
theorem at38_walk (ki : Int) (w : World) (pm B n k : Nat) (D : DataW Unit) (g : Nat → Nat) (hki : ki = (k : Int)) (hk : k ≤ 8388608) (hm : w.cell? ⟨pm, 0, none⟩ = some (.map (some B)))
    (hown : w.ownsMap Try.prog 3 (plainElem Try.prog 3) B n D) (hs : MapSays D g) :
    Calls Try.prog 120 #[.int .i64 ki, .pointer (some ⟨pm, 0, none⟩)] w fun e w' => e = .returned (.int .i64 ((g k : Nat) : Int)) ∧ w = w' := by
  subst hki
  have hkey := keyInt hk
  rcases hs k with ⟨h1, h2⟩ | ⟨h1, h2⟩
  · have H2 := Lib.hid h2; clear h2 hs
    go_enter Try.func120, Try.ntmps120
    go_wp2_with (first | (at_lookup; refine wpList_lookup_own_ok_int _ rfl _ _ 135 rfl 3 3 .i64 keyedInt Try.underlying135 Try.underlying3 (zeroInt _) B n D rfl hown _ _ rfl hkey ?_; intro c hat hwc) | fail)
    go_ret
    refine ⟨?_, rfl⟩
    have := H2.out
    rw [hat] at this
    injection this with this
    injection this with _ this
    exact ret_i this
  · have H2 := Lib.hid h2; clear h2 hs
    go_enter Try.func120, Try.ntmps120
    go_wp2_with (first | (at_lookup; refine wpList_lookup_own_ok_int _ rfl _ _ 135 rfl 3 3 .i64 keyedInt Try.underlying135 Try.underlying3 (zeroInt _) B n D rfl hown _ _ rfl hkey ?_; intro c hat hwc) | fail)
    go_ret
    refine ⟨?_, rfl⟩
    exact ret_i (by have := H2.out; omega)

theorem zeroMap (w : World) : Sem.run Try.prog (zeroValue 135) w = .ok (.map none) w := by kernel_rfl
theorem infoAsk : (Try.prog.info? 85).map (fun i => (i.zero, i.size, i.bytes)) = some (some (.agg (AskD.cells ⟨0, 0⟩).toArray), 2, 16) := by kernel_rfl
/-- May so many places be picked? -/
def PickOk (s : ByteArray) (f o l n : Int) : Prop := (s.size : Int) = 32 ∧ rightB f o l = true ∧ 0 ≤ n ∧ n ≤ 64

set_option maxRecDepth 100000 in
set_option maxHeartbeats 1000000 in
theorem pick38_no (s : ByteArray) (f o l n : Int) (w : World) (h : ¬ PickOk s f o l n) :
    Calls Try.prog 75 #[.string s, .int .i64 f, .int .i64 o, .int .i64 l, .int .i64 n] w fun e w' => e = .returned (.tuple #[.slice none 0 0, .int .i64 2]) ∧ Below w.heap.size w w' := by
  by_cases h1 : (s.size : Int) = 32
  · cases h2 : rightB f o l with
    | false =>
      have H2 := Lib.hid h2; clear h2 h
      go_enter Try.func75, Try.ntmps75
      go_wp2_with fail
      refine (may38_walk f o l _).mono ?_
      rintro e w1 ⟨rfl, rfl⟩
      rw [H2.out]
      go_wp2_with fail
      go_ret2
      exact ⟨rfl, Below.refl _ _⟩
    | true =>
      by_cases h3 : n < 0
      · have H2 := Lib.hid h2; clear h2 h
        go_enter Try.func75, Try.ntmps75
        go_wp2_with fail
        refine (may38_walk f o l _).mono ?_
        rintro e w1 ⟨rfl, rfl⟩
        rw [H2.out]
        go_wp2_with fail
        go_ret2
        exact ⟨rfl, Below.refl _ _⟩
      · have h3' : 0 ≤ n := by omega
        have h4 : 64 < n := by
          by_cases hb : n ≤ 64
          · exact absurd ⟨h1, h2, h3', hb⟩ h
          · omega
        have H2 := Lib.hid h2; clear h2 h h3
        go_enter Try.func75, Try.ntmps75
        go_wp2_with fail
        refine (may38_walk f o l _).mono ?_
        rintro e w1 ⟨rfl, rfl⟩
        rw [H2.out]
        go_wp2_with fail
        go_ret2
        exact ⟨rfl, Below.refl _ _⟩
  · clear h
    go_enter Try.func75, Try.ntmps75
    go_wp2_with fail
    go_ret2
    exact ⟨rfl, Below.refl _ _⟩

/-- What the picking finds and leaves. -/
structure PickInv (W w : World) (s : List UInt8) (t : Nat) (B pm k : Nat) : Prop where
  lies : Blk w pm [.map (some B)] 135
  map : ∃ (D : DataW Unit) (n : Nat), n ≤ 2 * k ∧ w.ownsMap Try.prog 3 (plainElem Try.prog 3) B n D ∧ MapSays D (rowS s t k)
  bel : Below W.heap.size W w
theorem PickInv.below {W w w' : World} {s : List UInt8} {t B pm k : Nat} (h : PickInv W w s t B pm k) (hb : Below w.heap.size w w') : PickInv W w' s t B pm k := by
  obtain ⟨h1, ⟨D, n, h2, h3, h4⟩, h5⟩ := h
  exact ⟨h1.below hb h1.lt, ⟨D, n, h2, h3.kept (below_grown hb) (by simp), h4⟩, h5.trans (hb.mono h5.size)⟩

set_option maxRecDepth 100000 in
set_option maxHeartbeats 2000000 in
theorem pick38_yes (s : ByteArray) (f o l : Int) (n t m : Nat) (w : World) (h1 : (s.size : Int) = 32) (h2 : rightB f o l = true) (h3 : n ≤ 64) (ht : totalS f o l = (t : Int)) (hmin : min n t = m) :
    Calls Try.prog 75 #[.string s, .int .i64 f, .int .i64 o, .int .i64 l, .int .i64 (n : Int)] w fun e w' => ∃ v, e = .returned (.tuple #[v, .int .i64 0]) ∧ w'.ownsRow w.heap.size 85 2 v m (flatA (pickS s.data.toList f l t m)) ∧ Below w.heap.size w w' := by
  have tb := totalS_bd f o l
  rw [ht] at tb
  have ht4 : t ≤ 4194304 := by omega
  have hm1 : m ≤ t := by omega
  have hm2 : m ≤ 64 := by omega
  have hn64 : (n : Int) ≤ 64 := by omega
  have hn0 : (0 : Int) ≤ n := by omega
  have hmi : min (n : Int) (t : Int) = (m : Int) := by omega
  have H2 := Lib.hid h2; clear h2
  have HT := Lib.hid ht; clear ht
  clear hmin tb
  obtain ⟨i0, hi, hz0, hz1, hz2⟩ := info_parts infoAsk
  have hmm := @run_makeMap Try.prog
  go_enter Try.func75, Try.ntmps75
  go_wp2_with fail
  refine (may38_walk f o l _).mono ?_
  rintro e w1 ⟨rfl, rfl⟩
  rw [H2.out]
  go_wp2_with fail
  refine (total38_walk f o l _).mono ?_
  rintro e w1 ⟨rfl, rfl⟩
  rw [HT.out]
  go_wp2_with ((with_reducible refine wpList_alloc_one 135 (.map none) zeroMap rfl (some 13) ?hgd ?ho ?hd ?_); (case hgd => rfl); (case ho => rfl); (case hd => rfl); (intro pm w3 l3 B3 e3 z3); (have cs := B3.cell (i := 0) rfl); (have fs := B3.free 0))
  have hgt : w.heap.size < pm := by simp at l3; omega
  have own0 : (w3.setCell ⟨pm, 0, none⟩ (.map (some w.heap.size))).ownsMap Try.prog 3 (plainElem (H := Unit) Try.prog 3) w.heap.size 0 (.map []) :=
    ((World.ownsMap_made w Try.prog 3 _).kept (below_grown (e3.mono l3)) (by simp)).setCell (by show w.heap.size ≠ pm; omega) _
  have I0 : PickInv w (w3.setCell ⟨pm, 0, none⟩ (.map (some w.heap.size))) s.data.toList t w.heap.size pm 0 :=
    ⟨B3.set 0 _, ⟨_, 0, by omega, own0, says_none⟩, ((((Below.refl _ _).alloc (Nat.le_refl _) _).trans (e3.mono (by omega)))).setCell (by show w.heap.size ≤ pm; omega) _⟩
  have HI0 := Lib.hid I0
  clear I0 own0 B3 cs fs e3 z3 l3 hmm
  go_loopw [15, 50] (fun v i wr => ∃ k : Nat, k ≤ m ∧ i = .int .i64 k ∧ PickInv w wr s.data.toList t w.heap.size pm k ∧ wr.ownsRow (pm + 1) 85 2 v k (flatA (pickS s.data.toList f l t k))) (fun _ i _ => m - (intOf i).toNat)
  case atStart => exact ⟨0, by omega, rfl, HI0.out, World.ownsRow_nil _ _ _ _⟩
  case round =>
    clear HI0
    obtain ⟨k, hk, rfl, hI, hown⟩ := hrel
    obtain ⟨q, d, rfl⟩ := own_shape hown
    have hpm := hI.lies.lt
    have HO := Lib.hid hown; clear hown
    have HI := Lib.hid hI; clear hI
    by_cases hlt : k < m
    · have hlt' : (k : Int) < m := by omega
      have hkt : k < t := by omega
      obtain ⟨r, Hr⟩ : ∃ r, Hid (numS s.data.toList k (t - k) = r) := ⟨_, rfl⟩
      have hrt : r < t - k := by rw [← Hr.out]; exact numS_lt (by omega)
      have hsub : ((t : Int) - (k : Int)) = ((t - k : Nat) : Int) := by omega
      have HSUB := Lib.hid hsub; clear hsub
      go_wp2_with fail
      rw [HSUB.out]
      refine (number38_yes s k (t - k) _ h1 (by omega) (by omega) (by omega)).mono ?_
      rintro e w4 ⟨rfl, hb4⟩
      rw [Hr.out]
      have HI4 := Lib.hid (HI.out.below hb4)
      have HO4 := Lib.hid (own_below hb4 HO.out)
      clear hb4 HI HO
      obtain ⟨D, nn, hnn, hown4, hsay⟩ := HI4.out.map
      have HS := Lib.hid hsay; clear hsay
      have HM4 := Lib.hid hown4; clear hown4
      obtain ⟨X, HX⟩ : ∃ X, Hid (rowS s.data.toList t k (k + r) = X) := ⟨_, rfl⟩
      obtain ⟨Y, HY⟩ : ∃ Y, Hid (rowS s.data.toList t k k = Y) := ⟨_, rfl⟩
      have hXt : X < t := by rw [← HX.out]; exact rowS_lt k (by omega) _ (by omega)
      have hYt : Y < t := by rw [← HY.out]; exact rowS_lt k (by omega) _ (by omega)
      go_wp2_with fail
      refine (at38_walk _ _ pm w.heap.size nn (k + r) D (rowS s.data.toList t k) (by omega) (by omega) (HI4.out.lies.cell (i := 0) rfl) HM4.out HS.out).mono ?_
      rintro e w5 ⟨rfl, rfl⟩
      rw [HX.out]
      have c4 : w4.drew.cell? ⟨pm, 0, none⟩ = some (.map (some w.heap.size)) := HI4.out.lies.cell (i := 0) rfl
      go_wp2_with fail
      refine wp_region_still_tail_drew 5 (by kernel_rfl) (by kernel_rfl) ?_
      simp only [List.take_succ_cons, List.take_zero, List.drop_succ_cons, List.drop_zero]
      iterate 4 still_step
      still_call (still_of (at38_walk _ _ pm w.heap.size nn k D (rowS s.data.toList t k) rfl (by omega) c4 HM4.out.drew HS.out))
      refine wpStill_nil ?_
      rw [HY.out]
      have hkr : keyOf Try.prog 3 (.int .i64 ((k : Int) + (r : Int))) = some (.int .i64 ((k + r : Nat) : Int)) := keyInt (k := k + r) (by omega)
      have hkk := keyInt (k := k) (by omega)
      have hn0 : nn < maxLen := by unfold maxLen; omega
      have hn1 : nn + 1 < maxLen := by unfold maxLen; omega
      have HK1 := Lib.hid hkr; clear hkr
      have HK2 := Lib.hid hkk; clear hkk
      have hpl : placeS f o l (X : Int) = (⟨f + (X : Int) / l, (X : Int) % l⟩, 0) := by unfold placeS; rw [HT.out, if_pos (by omega)]
      have HPL := Lib.hid hpl; clear hpl
      go_wp2_with (first
        | (at_mapUpdate; refine wpList_mapUpdate_own _ rfl _ _ _ 135 rfl 3 3 keyedInt Try.underlying135 _ w.heap.size nn D rfl HM4.out.drew hn0 _ _ _ rfl rfl HK1.out _ [] (plainElem_int Try.underlying3 (WalkArith.wf_i64 (by omega))) ?_; intro w6 own6 grow6; (have P6 := (HI4.out.lies.drew).grown grow6 (by intro h; injection h; omega)); (have c6 := P6.cell (i := 0) rfl); (have HM6 := Lib.hid own6); clear own6)
        | (at_mapUpdate; refine wpList_mapUpdate_own _ rfl _ _ _ 135 rfl 3 3 keyedInt Try.underlying135 _ w.heap.size (nn + 1) _ rfl HM6.out hn1 _ _ _ rfl rfl HK2.out _ [] (plainElem_int Try.underlying3 (WalkArith.wf_i64 (by omega))) ?_; intro w7 own7 grow7; (have P7 := P6.grown grow7 (by intro h; injection h; omega)); (have HM7 := Lib.hid own7); clear own7)
        | fail)
      have HO7 := Lib.hid (own_grown (own_grown (own_drew HO4.out) grow6 (by omega)) grow7 (by omega))
      have hs7 : MapSays ((D.put (.int .i64 ((k + r : Nat) : Int)) (.lit (.int .i64 (Y : Int)))).put (.int .i64 (k : Int)) (.lit (.int .i64 (X : Int)))) (rowS s.data.toList t (k + 1)) := by
        have this := says_swap HM4.out.isMap HS.out k (k + r) rfl (by rw [HY.out]; exact HM6.out.isMap)
        rw [HX.out, HY.out] at this
        have e : swapF (rowS s.data.toList t k) k (k + r) = rowS s.data.toList t (k + 1) := by
          show _ = swapF (rowS s.data.toList t k) k (k + numS s.data.toList k (t - k))
          rw [Hr.out]
        rw [e] at this
        exact this
      have bel7 : Below w.heap.size w w7 := below_some (below_some (HI4.out.bel.drew) grow6 (Nat.le_refl _) (by have := HI4.out.bel.size; simp; omega)) grow7 (Nat.le_refl _) (by have := HI4.out.bel.size; have := grow6.size; simp at this; omega)
      have I7 : PickInv w w7 s.data.toList t w.heap.size pm (k + 1) := ⟨P7, ⟨_, nn + 1 + 1, by omega, HM7.out, hs7⟩, bel7⟩
      have HI7 := Lib.hid I7
      have hpk : pickS s.data.toList f l t (k + 1) = pickS s.data.toList f l t k ++ [⟨f + (X : Int) / l, (X : Int) % l⟩] := by
        rw [pickS_succ]
        have : pickX s.data.toList t k = X := by unfold pickX; rw [Hr.out, HX.out]
        rw [this]
      have HPK := Lib.hid hpk
      clear I7 hs7 bel7 hpk P6 P7 c6 c4 HM4 HM6 HM7 HI4 HO4 HS
      trace_state
      refine (place38_walk f o l X _).mono ?_
      rintro e w8 ⟨he, hb8⟩
      unfold PlaceEnd at he
      rw [HPL.out] at he
      subst he
      have HI8 := Lib.hid (HI7.out.below hb8)
      have HO8 := Lib.hid (own_below hb8 HO7.out)
      clear hb8 HI7 HO7
      go_wp2_with (first
        | ((with_reducible refine wpList_alloc_new 85 (AskD.cells ⟨0, 0⟩) zeroAsk (some 21) ?hgd ?ho ?hd ?_); (case hgd => rfl); (case ho => rfl); (case hd => rfl); (intro b9 w9 l9 B9 e9 z9))
        | ((with_reducible refine wpList_store_new 85 (.tmp 21) (.tmp 82) b9 (AskD.cells ⟨0, 0⟩) (AskD.cells ⟨f + (X : Int) / l, (X : Int) % l⟩) 85 B9 rfl rsizeAsk (AskD.cells_one _) ?hgd ?ho ?hx ?hy ?_); (case hgd => rfl); (case ho => rfl); (case hx => rfl); (case hy => rfl); (intro w10 B10 o10))
        | ((with_reducible refine wpList_load_blk 85 (.tmp 21) b9 (AskD.cells ⟨f + (X : Int) / l, (X : Int) % l⟩) 85 _ B10 Try.underlying85 rfl rsizeAsk ?hgd ?ho ?hx ?_); (case hgd => rfl); (case ho => rfl); (case hx => rfl))
        | ((with_reducible refine wpList_slice_new 89 85 1 ?parts (AskD.cells ⟨f + (X : Int) / l, (X : Int) % l⟩) (.agg (AskD.cells ⟨0, 0⟩).toArray) 2 16 (some 86) Try.underlying89 infoAsk (by omega) (by omega) ?hgd ?ho ?hd ?hf ?_); (case hgd => rfl); (case ho => rfl); (case hd => rfl); (case hf => kernel_rfl); (intro g w11 l11 B11 e11 z11); (have hb10 := o10.below (e9.mono l9) l9); (have hb11 := hb10.trans (e11.mono (Nat.le_trans hb10.size l11))); (have own11 := own_below hb11 HO8.out))
        | (at_builtin; refine wpList_append_own_wide _ rfl _ _ 89 rfl (pm + 1) 85 i0 (.agg (AskD.cells ⟨0, 0⟩).toArray) 2 16 Try.underlying89 hi hz0 hz1 hz2 rfl (by decide) _ _ _ rfl own11 ⟨g, 0, none⟩ 1 1 (AskD.cells ⟨f + (X : Int) / l, (X : Int) % l⟩) rfl rfl (cells_add B11) (AskD.cells_one _) (by unfold maxLen; omega) (by omega) (by have := HI8.out.lies.lt; have := hb11.size; omega) ?_; intro v' w12 own12 grow12 nil12)
        | fail)
      have I11 := HI8.out.below hb11
      go_roundw
      case rel =>
        refine ⟨k + 1, by omega, by go_num, ?_, ?_⟩
        · obtain ⟨h1, ⟨D1, n1, h2, h3, h4⟩, h5⟩ := I11
          exact ⟨h1.grown grow12 (own_ne own11 (by omega)), ⟨D1, n1, h2, h3.kept grow12 (own_ne own11 (by omega)), h4⟩, below_own h5 own11 grow12 (by omega) h5.size⟩
        · rw [HPK.out, flatA_snoc]
          exact own12
      case measure => simp [intOf]; omega
    · obtain rfl : k = m := by omega
      go_wp2_with fail
      go_ret2
      exact ⟨_, rfl, own_base HO.out (by omega), HI.out.bel⟩
end Go.Proofs.Ytacoibiafpdoaaa
