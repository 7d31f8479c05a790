/- Walk of armor.Put. -/
import Derived.Test.YtgfaadggalnbgaaGreatDoorWArmS
import Derived.Test.YtgfaadggalnbgaaGreatDoorWArmor4
import Derived.Test.YtgfaadggalnbgaaGreatDoorG1
namespace Go.Proofs.YtgfaadggalnbgaaGreatDoor
set_option linter.unusedSimpArgs false
set_option linter.unusedVariables false
open Go Go.RowKit
set_option linter.unusedVariables false

/-- How armor.Put ends. -/
def APutEnd (name s : List UInt8) (e : Ending) : Prop :=
  (armOk name s = true ∧ ∃ r, e = .returned (.tuple #[.string r, .int .i64 0]) ∧ Txt r (armPut name s)) ∨ (armOk name s = false ∧ e = .returned (.tuple #[.string ⟨#[]⟩, .int .i64 2]))
theorem infoStr : (Tryz.prog.info? 9).map (fun i => (i.zero, i.size, i.bytes)) = some (some (.string ⟨#[]⟩), 1, 16) := by kernel_rfl
theorem nameOk_len {l : List UInt8} (h : nameOk l = true) : l.length ≤ 16 := by
  unfold nameOk at h
  simp only [Bool.and_eq_true, decide_eq_true_eq] at h
  exact h.1.2
def strsV (xs : List (List UInt8)) : List Value := xs.map str
theorem strsV_append (a b : List (List UInt8)) : strsV (a ++ b) = strsV a ++ strsV b := by simp [strsV]
theorem bytesV_take (l : List UInt8) (i n : Nat) : bytesV l = bytesV (l.take i) ++ bytesV ((l.drop i).take n) ++ bytesV ((l.drop i).drop n) := by
  rw [List.append_assoc, ← bytesV_append, List.take_append_drop, ← bytesV_append, List.take_append_drop]
theorem wrapN_length (n : Nat) : ∀ (l : List UInt8), (wrapN n l).length ≤ 2 * l.length := by
  induction n with
  | zero => intro l; unfold wrapN; omega
  | succ n ih =>
    intro l
    unfold wrapN
    split
    · omega
    · have := ih (l.drop 60)
      simp only [List.length_append, List.length_cons, List.length_take, List.length_drop] at this ⊢
      omega
def textsB (xs : List (List UInt8)) : List ByteArray := xs.map fun l => ⟨l.toArray⟩
theorem textsB_data (xs : List (List UInt8)) : (textsB xs).map (·.data.toList) = xs := by
  unfold textsB
  rw [List.map_map]
  exact (List.map_congr_left fun l _ => rfl).trans (List.map_id xs)
theorem textsB_strs (xs : List (List UInt8)) : strsV xs = (textsB xs).map Value.string := by
  simp only [strsV, textsB, List.map_map]
  exact List.map_congr_left fun l _ => rfl

set_option maxRecDepth 100000 in
set_option maxHeartbeats 4000000 in
theorem aput_walk (name s : ByteArray) (w : World) (hn : name.size ≤ 1073741824) (hs : s.size ≤ 1073741824) :
    Calls Tryz.prog 15 #[.string name, .string s] w fun e w' => APutEnd name.data.toList s.data.toList e ∧ Below w.heap.size w w' := by
  have hl : s.data.toList.length = s.size := rfl
  have hnl : name.data.toList.length = name.size := rfl
  cases c1 : nameOk name.data.toList with
  | false =>
    have C1 := Lib.hid c1; clear c1 hl hnl
    go_enter Tryz.func15, Tryz.ntmps15
    go_wp2_with fail
    refine (name_walk name _ hn).mono ?_
    rintro e w1 ⟨rfl, hw⟩
    obtain rfl := hw
    rw [C1.out]
    go_wp2_with fail
    go_ret2
    exact ⟨.inr ⟨by unfold armOk; rw [C1.out]; rfl, rfl⟩, Below.refl _ _⟩
  | true =>
  by_cases h4 : s.size ≤ 4000
  case neg =>
    have hok : armOk name.data.toList s.data.toList = false := by unfold armOk; rw [hl]; simp [h4]
    have OK := Lib.hid hok
    have C1 := Lib.hid c1
    have h4' : (4000 : Int) < s.size := by omega
    clear c1 hl hnl hok
    go_enter Tryz.func15, Tryz.ntmps15
    go_wp2_with fail
    refine (name_walk name _ hn).mono ?_
    rintro e w1 ⟨rfl, hw⟩
    obtain rfl := hw
    rw [C1.out]
    go_wp2_with fail
    go_ret2
    exact ⟨.inr ⟨OK.out, rfl⟩, Below.refl _ _⟩
  have hok : armOk name.data.toList s.data.toList = true := by unfold armOk; rw [hl, c1]; simp [h4]
  have OK := Lib.hid hok
  have hn16 : name.size ≤ 16 := by have := nameOk_len c1; omega
  have C1 := Lib.hid c1
  have h4' : (s.size : Int) ≤ 4000 := by omega
  obtain ⟨T, hT⟩ : ∃ T, T = armT name.data.toList s.data.toList := ⟨_, rfl⟩
  have HT := Lib.hid hT
  have HL := Lib.hid hl
  clear c1 hl hnl hok hT
  obtain ⟨i0, hi, hz0, hz1, hz2⟩ := info_parts infoStr
  go_enter Tryz.func15, Tryz.ntmps15
  go_wp2_with fail
  refine (name_walk name _ hn).mono ?_
  rintro e w1 ⟨rfl, hw⟩
  obtain rfl := hw
  rw [C1.out]
  go_wp2_with fail
  refine (asum_walk name s _ (by omega) (by omega)).mono ?_
  rintro e w2 ⟨q, rfl, tq, hb2⟩
  have hq : q.size = 5 := by rw [tq.size, List.length_take, sha_length]; rfl
  have TQ := Lib.hid tq; clear tq
  go_wp2_with fail
  refine (aletters_walk (s ++ q) _ (by rw [ByteArray.size_append]; omega)).mono ?_
  rintro e w3 ⟨r, rfl, tr, hb3⟩
  have tr' : Txt r T := tr.cast (by rw [HT.out, show (s ++ q).data.toList = _ from (Txt.self s).append TQ.out]; rfl)
  obtain ⟨L, hL⟩ : ∃ L, L = r.size := ⟨_, rfl⟩
  have hTL : T.length = L := by rw [hL, tr'.size]
  have hL8 : L ≤ 8000 := by rw [hL, tr.size, letL_length, show (s ++ q).data.toList.length = (s ++ q).size from rfl, ByteArray.size_append]; omega
  have TR := Lib.hid tr'; clear tr tr'
  have HB := Lib.hid (hb2.trans (hb3.mono hb2.size)); clear hb3
  go_wp2_with ((with_reducible refine wpList_bytes_of 9 55 5 (.tmp 21) r (some 22) Tryz.underlying9 Tryz.underlying55 Tryz.underlying5 ?hgd ?ho ?hd ?hx ?_); (case hgd => rfl); (case ho => rfl); (case hd => rfl); (case hx => rfl); (intro g cap z w4 l4 B4 e4 z4 hcap); (rw [← hL]))
  have hg0 : w.heap.size ≤ g := Nat.le_trans HB.out.size l4
  have hR : Row w4 g (bytesV T ++ z) 5 := by rw [← show r.data.toList = T from TR.out]; exact B4
  have hbel : Below w.heap.size w w4 := HB.out.trans (e4.mono hg0)
  have hcap' : L ≤ cap := by omega
  clear B4 e4 hcap
  go_loopw [6, 7] (fun vl vp wr => ∃ j : Nat, 60 * j ≤ L ∧ (∀ i, i < j → 60 < L - 60 * i) ∧ vl = .slice (some ⟨g, 60 * j, none⟩) (L - 60 * j) (cap - 60 * j) ∧ wr.ownsRow (g + 1) 9 1 vp j (strsV (lines T j)) ∧ Row wr g (bytesV T ++ z) 5 ∧ Below w.heap.size w wr) (fun vl _ _ => match vl with | .slice _ l _ => l | _ => 0)
  case atStart => exact ⟨0, by omega, fun i hi => by omega, by simp [hL], World.ownsRow_nil _ _ _ _, hR, hbel⟩
  case round =>
    clear hR hbel
    obtain ⟨j, hj, hlong, rfl, hown, hR, hbel⟩ := hrel
    have HLG := Lib.hid hlong; clear hlong
    obtain ⟨N, hN⟩ : ∃ N, N = L - 60 * j := ⟨_, rfl⟩
    obtain ⟨C, hC⟩ : ∃ C, C = cap - 60 * j := ⟨_, rfl⟩
    have hNC : N ≤ C := by omega
    obtain ⟨p, hp⟩ : ∃ p, p = 60 * j := ⟨_, rfl⟩
    rw [← hN, ← hC, ← hp]
    have HP := Lib.hid hp
    have HN := Lib.hid hN
    have HC := Lib.hid hC
    have hj2 : j ≤ 200 := by omega
    clear hN hC hp
    by_cases h60 : 60 < N
    · have h60' : (60 : Int) < N := by omega
      have hc60 : (60 : Int) ≤ C := by omega
      obtain ⟨y, hy⟩ : ∃ y, y = (T.drop (60 * j)).take 60 := ⟨_, rfl⟩
      have HY := Lib.hid hy
      have hrng : wr.rangeAt g p (bytesV y) := by
        have h := hR
        rw [bytesV_take T (60 * j) 60, List.append_assoc, ← hy] at h
        exact h.rangeMid (by rw [HP.out]; simp [bytesV, hTL]; omega)
      have hlen : 60 = y.length := by rw [hy, List.length_take, List.length_drop, hTL]; have := HN.out; omega
      have HLEN := Lib.hid hlen
      have HR := Lib.hid hR
      have HRG := Lib.hid hrng
      have HO := Lib.hid hown
      have HB5 := Lib.hid hbel
      clear hR hrng hown hbel hy hlen
      obtain ⟨wo, rfl⟩ : ∃ wo : World, wo = wr := ⟨_, rfl⟩
      go_wp2_with (first
        | ((with_reducible refine wpList_string_bytes 55 9 5 (.tmp 28) y g p 60 60 (some 29) Tryz.underlying55 Tryz.underlying5 Tryz.underlying9 HRG.out HLEN.out ?hgd ?ho ?hd ?hx ?_); (case hgd => rfl); (case ho => rfl); (case hd => rfl); (case hx => rfl))
        | ((with_reducible refine wpList_slice_new 68 9 1 ?parts [str y] (.string ⟨#[]⟩) 1 16 (some 30) Tryz.underlying68 infoStr (by omega) (by omega) ?hgd ?ho ?hd ?hf ?_); (case hgd => rfl); (case ho => rfl); (case hd => rfl); (case hf => kernel_rfl); (intro g5 w5 l5 B5 e5 z5))
        | (at_builtin; refine wpList_append_own _ rfl _ _ 68 rfl (g + 1) 9 i0 (.string ⟨#[]⟩) 1 16 Tryz.underlying68 hi hz0 hz1 hz2 rfl (by decide) _ _ _ rfl (own_below (e5.mono l5) HO.out) ⟨g5, 0, none⟩ 1 1 [str y] rfl rfl (cells_add B5) (fun x hx => by simp at hx; subst hx; rfl) (by unfold maxLen; omega) (by omega) (by have := HR.out.lt; have := e5.size; omega) ?_; intro v' w6 own6 grow6 nil6))
      have hgl := HR.out.lt
      have hb6 : Below (g + 1) wo w6 := below_own (e5.mono (by omega)) (own_below (e5.mono l5) HO.out) grow6 (Nat.le_refl _) (by have := e5.size; omega)
      have HB6 := Lib.hid hb6
      have HO6 := Lib.hid own6
      clear hb6 own6 grow6 nil6
      go_roundw
      case rel =>
        refine ⟨j + 1, by have := HN.out; omega, ?_, ?_, ?_, HR.out.below HB6.out (by omega), HB5.out.trans (HB6.out.mono (by omega))⟩
        · intro i hi
          by_cases h : i < j
          · exact HLG.out i h
          · have := HN.out
            have : i = j := by omega
            subst this
            omega
        · rw [HP.out, HN.out, HC.out, show 60 * j + 60 = 60 * (j + 1) by omega, show L - 60 * j - 60 = L - 60 * (j + 1) by omega, show cap - 60 * j - 60 = cap - 60 * (j + 1) by omega]
        · rw [lines_succ, ← HY.out, strsV_append]
          exact HO6.out
      case measure => show N - 60 < N; omega
    · have h60' : (N : Int) ≤ 60 := by omega
      obtain ⟨y, hy⟩ : ∃ y, y = T.drop (60 * j) := ⟨_, rfl⟩
      have HY := Lib.hid hy
      have hrng : wr.rangeAt g p (bytesV y) := by
        have h := hR
        rw [show bytesV T = bytesV (T.take (60 * j)) ++ bytesV y by rw [hy, ← bytesV_append, List.take_append_drop]] at h
        exact h.rangeMid (by rw [HP.out]; simp [bytesV, hTL]; omega)
      have hlen : N = y.length := by rw [hy, List.length_drop, hTL]; exact HN.out
      have HLEN := Lib.hid hlen
      have HR := Lib.hid hR
      have HRG := Lib.hid hrng
      have HO := Lib.hid hown
      have HB5 := Lib.hid hbel
      clear hR hrng hown hbel hy hlen
      obtain ⟨wo, rfl⟩ : ∃ wo : World, wo = wr := ⟨_, rfl⟩
      go_wp2_with (first
        | ((with_reducible refine wpList_string_bytes 55 9 5 (.tmp 37) y g p N C (some 38) Tryz.underlying55 Tryz.underlying5 Tryz.underlying9 HRG.out HLEN.out ?hgd ?ho ?hd ?hx ?_); (case hgd => rfl); (case ho => rfl); (case hd => rfl); (case hx => rfl))
        | ((with_reducible refine wpList_slice_new 68 9 1 ?parts2 [str y] (.string ⟨#[]⟩) 1 16 (some 39) Tryz.underlying68 infoStr (by omega) (by omega) ?hgd ?ho ?hd ?hf ?_); (case hgd => rfl); (case ho => rfl); (case hd => rfl); (case hf => kernel_rfl); (intro g5 w5 l5 B5 e5 z5))
        | (at_builtin; refine wpList_append_own _ rfl _ _ 68 rfl (g + 1) 9 i0 (.string ⟨#[]⟩) 1 16 Tryz.underlying68 hi hz0 hz1 hz2 rfl (by decide) _ _ _ rfl (own_below (e5.mono l5) HO.out) ⟨g5, 0, none⟩ 1 1 [str y] rfl rfl (cells_add B5) (fun x hx => by simp at hx; subst hx; rfl) (by unfold maxLen; omega) (by omega) (by have := HR.out.lt; have := e5.size; omega) ?_; intro v' w6 own6 grow6 nil6))
      have hgl := HR.out.lt
      have hb6 : Below (g + 1) wo w6 := below_own (e5.mono (by omega)) (own_below (e5.mono l5) HO.out) grow6 (Nat.le_refl _) (by have := e5.size; omega)
      obtain ⟨g8, cap8, z8, hv8, hc8, hg8, hblk8⟩ := own_split own6 (by omega)
      subst hv8
      have hjoin : Lib.join (lines T j ++ [y]) [10] = wrapL T := by
        rw [HY.out]
        exact join_lines j T (fun i hi => by rw [hTL]; exact HLG.out i hi) (by rw [hTL]; have := HN.out; omega)
      have hxl : (textsB (lines T j ++ [y])).length = j + 1 := by simp [textsB, lines]
      have hJ := Tryz.strings_Join g8 0 cap8 (textsB (lines T j ++ [y])) ⟨#[10]⟩ w6 (fun i x hx => by
          rw [Nat.zero_add]
          refine hblk8.cell ?_
          rw [show strsV (lines T j) ++ [str y] = (textsB (lines T j ++ [y])).map Value.string by rw [← textsB_strs, strsV_append]; rfl]
          rw [List.getElem?_append_left (by rw [List.length_map]; exact (List.getElem?_eq_some_iff.1 hx).1), List.getElem?_map, hx]
          rfl) hblk8.lt (by rw [hxl]; omega) (by rw [hxl]; exact hc8) (by
          rw [textsB_data, show (⟨#[10]⟩ : ByteArray).data.toList = [10] from rfl, hjoin]
          have := wrapN_length T.length T
          unfold wrapL
          omega)
      rw [hxl, textsB_data, show (⟨#[10]⟩ : ByteArray).data.toList = [10] from rfl, hjoin] at hJ
      have hbw : Below w.heap.size w w6 := HB5.out.trans (hb6.mono (by omega))
      obtain ⟨jb, hjb, tjb⟩ : ∃ jb : ByteArray, jb = ⟨(wrapL T).toArray⟩ ∧ Txt jb (wrapL T) := ⟨_, rfl, Txt.mk _⟩
      rw [← hjb] at hJ
      refine hJ.mono ?_
      rintro e w7 ⟨rfl, hb7⟩
      have HB7 := Lib.hid (hbw.trans (hb7.mono hbw.size))
      clear hJ hb7 hb6 hblk8 own6 grow6
      have hws : jb.size ≤ 20000 := by
        have := wrapN_length T.length T
        rw [tjb.size]; unfold wrapL; omega
      have TJ := Lib.hid tjb
      clear hjb tjb
      go_wp2_with fail
      go_ret2
      refine ⟨.inl ⟨OK.out, _, rfl, ?_⟩, HB7.out⟩
      refine (((Txt.self name).append (Txt.mk [58])).append TJ.out).cast ?_
      unfold armPut
      rw [HT.out]
      simp
end Go.Proofs.YtgfaadggalnbgaaGreatDoor
