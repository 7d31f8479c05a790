/- Walks of the documents' Cut, Unpack, Take (chapters 1, 19, 21), Put, Check (chapter 21). -/
import Derived.Test.YtgfaadggalnbgaaGreatDoorTakeR
import Derived.Test.YtgfaadggalnbgaaGreatDoorRef10
namespace Go.Proofs.YtgfaadggalnbgaaGreatDoor
set_option linter.unusedSimpArgs false
set_option linter.unusedVariables false
open Go Go.RowKit
set_option linter.unusedVariables false

set_option maxHeartbeats 1000000 in
theorem rcut_walk (s : ByteArray) (w : World) (hs : s.size ≤ 1073741824) :
    Calls Tryz.prog 69 #[.string s] w fun e w' => CutEnd s.data.toList e ∧ Below w.heap.size w w' := by
  have hl : s.data.toList.length = s.size := rfl
  by_cases c1 : s.size < 4
  · have d1 : (s.size : Int) < 4 := by omega
    have e1 : cutS s.data.toList = none := by unfold cutS; rw [if_pos (by rw [hl]; omega)]
    have E1 := Lib.hid e1
    clear e1 hl c1
    go_enter Tryz.func69, Tryz.ntmps69
    go_wp2_with fail
    go_ret3
    exact ⟨.inr ⟨E1.out, rfl⟩, Below.refl _ _⟩
  obtain ⟨n, hn⟩ : ∃ n, n = beNum (s.data.toList.take 4) := ⟨_, rfl⟩
  have hlt := beNum_lt (s.data.toList.take 4)
  have hl4 : (s.data.toList.take 4).length = 4 := by rw [List.length_take, hl]; omega
  rw [hl4, ← hn] at hlt
  have hn4 : n < 4294967296 := by simpa using hlt
  have tg : Txt (s.extract 0 4) (s.data.toList.take 4) := ((Txt.self s).extract 0 4).cast (by simp)
  obtain ⟨t, ht⟩ : ∃ t, s.extract 4 s.size = t := ⟨_, rfl⟩
  have tt : Txt t (s.data.toList.drop 4) := by rw [← ht]; exact ((Txt.self s).extract 4 s.size).cast (by rw [List.take_of_length_le (by rw [hl]; omega)])
  have tz : t.size = s.size - 4 := by rw [tt.size, List.length_drop, hl]
  have TG := Lib.hid tg
  have TT := Lib.hid tt
  have HN := Lib.hid hn
  have HL := Lib.hid hl
  have TZ := Lib.hid tz
  have HT := Lib.hid ht
  have d1 : (4 : Int) ≤ s.size := by omega
  clear tg tt hl hlt hl4
  by_cases c2 : t.size < n
  · have e1 : cutS s.data.toList = none := by unfold cutS; rw [if_pos (by rw [HL.out, ← HN.out]; omega)]
    have E1 := Lib.hid e1
    have d2 : (s.size : Int) - 4 < n := by omega
    clear e1 hn tz c2 c1
    go_enter Tryz.func69, Tryz.ntmps69
    go_wp2_with fail
    refine (rget_walk (s.extract 0 4) _).mono ?_
    rintro e w1 ⟨he, rfl⟩
    rcases he with ⟨hok, rfl⟩ | ⟨hno, rfl⟩
    rotate_left
    · exfalso
      rw [TG.out, List.length_take, HL.out, ← HN.out] at hno
      omega
    rw [TG.out, ← HN.out]
    clear hok
    go_wp2_with fail
    go_ret3
    exact ⟨.inr ⟨E1.out, rfl⟩, Below.refl _ _⟩
  · have e1 : cutS s.data.toList = some ((s.data.toList.drop 4).take n, (s.data.toList.drop 4).drop n) := by unfold cutS; rw [if_neg (by rw [HL.out, ← HN.out]; omega), ← HN.out]
    have E1 := Lib.hid e1
    have d2 : (n : Int) ≤ (s.size : Int) - 4 := by omega
    have d5 : (4 : Int) + (n : Int) ≤ (s.size : Int) := by omega
    have d6 : (4 : Int) ≤ (4 : Int) + (n : Int) := by omega
    have d7 : ((4 : Int) + (n : Int)).toNat = 4 + n := by omega
    have d8 : IntKind.i64.wrap ((4 : Int) + (n : Int)) = (4 : Int) + (n : Int) := by rw [IntWalk.i64_in _ ⟨by omega, by omega⟩]
    have d3 : (0 : Int) ≤ (n : Int) := by omega
    clear e1 hn tz c2 c1
    go_enter Tryz.func69, Tryz.ntmps69
    go_wp2_with fail
    refine (rget_walk (s.extract 0 4) _).mono ?_
    rintro e w1 ⟨he, rfl⟩
    rcases he with ⟨hok, rfl⟩ | ⟨hno, rfl⟩
    rotate_left
    · exfalso
      rw [TG.out, List.length_take, HL.out, ← HN.out] at hno
      omega
    rw [TG.out, ← HN.out]
    clear hok
    go_wp2_with fail
    go_quiet (fail)
    go_wp2_with fail
    go_ret3
    refine ⟨.inl ⟨_, _, _, _, E1.out, rfl, ?_, ?_⟩, ⟨rfl, rfl, rfl, Nat.le_refl _, fun _ _ => rfl⟩⟩
    · exact ((Txt.self s).extract 4 (4 + n)).cast (by rw [List.drop_take]; simp)
    · exact ((Txt.self s).extract (4 + n) s.size).cast (by rw [List.take_of_length_le (by rw [HL.out]; omega), List.drop_drop])

set_option maxRecDepth 100000 in
set_option maxHeartbeats 4000000 in
theorem runpack_walk (v : Value) (ws : List Nat) (s : ByteArray) (w : World) (hv : IntRow w v (ws.map (fun (a : Nat) => (a : Int)))) (hw : ∀ (k a : Nat), ws[k]? = some a → 1 ≤ a ∧ a ≤ 8) (hsum : ws.sum = s.size) (hne : 0 < ws.length) (hlen : ws.length ≤ 16) :
    Calls Tryz.prog 68 #[v, .string s] w fun e w' => UnpackEnd ws s.data.toList w w' e ∧ Below w.heap.size w w' := by
  obtain ⟨g, o, c, rfl, hg, hc⟩ := hv.at (by rw [List.length_map]; exact hne)
  have hl : s.data.toList.length = s.size := rfl
  obtain ⟨n, hn⟩ : ∃ n, n = ws.length := ⟨_, rfl⟩
  rw [List.length_map, ← hn]
  have hcell : ∀ (k a : Nat), ws[k]? = some a → w.cell? ⟨g, o + k, none⟩ = some (.int .i64 (a : Int)) := fun k a ha => hc k a (by rw [List.getElem?_map, ha]; rfl)
  have hszb : s.size ≤ 128 := by
    have : ∀ k, k ≤ ws.length → sumTo ws k ≤ 8 * k := by
      intro k
      induction k with
      | zero => intro _; simp [sumTo]
      | succ k ih =>
        intro hk
        obtain ⟨a, ha⟩ : ∃ a, ws[k]? = some a := ⟨_, List.getElem?_eq_getElem (by omega)⟩
        have := hw k a ha
        rw [sumTo_succ ha]
        have := ih (by omega)
        omega
    have h := this ws.length (Nat.le_refl _)
    rw [sumTo_all] at h
    omega
  have hn16 : n ≤ 16 := by omega
  have hn0 : 0 < n := by omega
  have HN := Lib.hid hn; clear hn
  have HC := Lib.hid hcell; clear hcell
  have HW := Lib.hid hw; clear hw
  have HS := Lib.hid hsum; clear hsum
  have HL := Lib.hid hl; clear hl
  clear hv hc hne hlen
  obtain ⟨j0, ji, jz0, jz1, jz2⟩ := info_parts infoI
  go_enter Tryz.func68, Tryz.ntmps68
  go_wp2_with fail
  go_loop [6, 7] (fun x i => ∃ k : Nat, k ≤ n ∧ i = .int .i64 k ∧ x = .int .i64 ((sumTo ws k : Nat) : Int)) (fun _ i => n - (intOf i).toNat)
  case atStart => exact ⟨0, by omega, rfl, rfl⟩
  case round =>
    obtain ⟨k, hk, rfl, rfl⟩ := hrel
    obtain ⟨x, hx⟩ : ∃ x, x = sumTo ws k := ⟨_, rfl⟩
    rw [← hx]
    have hx8 : x ≤ 128 := by have := sumTo_le ws k; have := HS.out; omega
    have HX := Lib.hid hx; clear hx
    by_cases hlt : k < n
    · have hlt' : (k : Int) < n := by omega
      have h00 : (0 : Int) ≤ (k : Int) := by omega
      obtain ⟨a, ha⟩ : ∃ a, ws[k]? = some a := ⟨_, List.getElem?_eq_getElem (by rw [← HN.out]; exact hlt)⟩
      have hca : w.cell? ⟨g, o + k, none⟩ = some (.int .i64 (a : Int)) := HC.out k a ha
      obtain ⟨a1, a2⟩ := HW.out k a ha
      have hsu := sumTo_succ ha
      rw [← HX.out] at hsu
      have HSU := Lib.hid hsu; clear hsu ha
      have q1 : ¬ (a : Int) < 1 := by omega
      have q2 : ¬ (8 : Int) < a := by omega
      go_wp2_with fail
      go_round
      case rel => exact ⟨k + 1, by omega, by go_num, by rw [HSU.out]; go_num⟩
      case measure => simp [intOf]; omega
    · obtain rfl : k = n := by omega
      have hxs : (x : Int) = s.size := by rw [HX.out, HN.out, sumTo_all, HS.out]
      go_wp2_with fail
      go_loopw [8, 9, 10] (fun vo y i wr => ∃ (j : Nat) (ns : List Int), j ≤ k ∧ i = .int .i64 j ∧ y = .int .i64 ((sumTo ws j : Nat) : Int) ∧ UnpackAt ws s.data.toList j ns ∧ wr.ownsRow w.heap.size 3 1 vo j (ns.map (Value.int .i64)) ∧ Below w.heap.size w wr) (fun _ _ i _ => k - (intOf i).toNat)
      case atStart => exact ⟨0, [], by omega, rfl, rfl, UnpackAt.start _ _, World.ownsRow_nil _ _ _ _, Below.refl _ _⟩
      case round =>
        obtain ⟨j, ns, hj, rfl, rfl, hat, hown, hbel⟩ := hrel
        obtain ⟨q, d, rfl⟩ := own_shape hown
        have HO := Lib.hid hown; clear hown
        have HAT := Lib.hid hat; clear hat
        by_cases hlt : j < k
        · have hlt' : (j : Int) < k := by omega
          have h00 : (0 : Int) ≤ (j : Int) := by omega
          obtain ⟨a, ha⟩ : ∃ a, ws[j]? = some a := ⟨_, List.getElem?_eq_getElem (by rw [← HN.out]; exact hlt)⟩
          have hca : wr.cell? ⟨g, o + j, none⟩ = some (.int .i64 (a : Int)) := by rw [hbel.cell (by show g < w.heap.size; exact hg)]; exact HC.out j a ha
          obtain ⟨a1, a2⟩ := HW.out j a ha
          obtain ⟨A, hA⟩ : ∃ A, sumTo ws j = A := ⟨_, rfl⟩
          have hsu := sumTo_succ ha
          rw [hA] at hsu ⊢
          have hts : A + a ≤ s.size := by
            have e3 := sumTo_le ws (j + 1)
            have e4 := HS.out
            omega
          have TX : Hid (Txt (s.extract A (A + a)) ((s.data.toList.drop A).take a)) := Lib.hid (((Txt.self s).extract A (A + a)).cast (by rw [List.drop_take]; simp))
          have hts' : (A : Int) + (a : Int) ≤ s.size := by omega
          have hA0 : (0 : Int) ≤ (A : Int) := by omega
          have hA1 : (A : Int) ≤ (A : Int) + (a : Int) := by omega
          have hA2 : ((A : Int) + (a : Int)).toNat = A + a := by omega
          have HSU := Lib.hid hsu; clear hsu
          have HA := Lib.hid ha; clear ha
          have HAA := Lib.hid hA; clear hA
          go_wp2_with fail
          refine (rget_walk (s.extract A (A + a)) _).mono ?_
          rintro e w2 ⟨he, rfl⟩
          have HBE := Lib.hid hbel
          have HO2 := HO
          clear hA2
          rcases he with ⟨hok, rfl⟩ | ⟨hno, rfl⟩
          · have hgo : getOk ((s.data.toList.drop A).take a) = true := by rw [getOk_iff, ← show (s.extract A (A + a)).data.toList = _ from TX.out]; exact hok
            rw [← HAA.out] at hgo
            have hnx := HAT.out.next HA.out hgo
            rw [HAA.out, ← show (s.extract A (A + a)).data.toList = _ from TX.out] at hnx
            have HNX := Lib.hid hnx
            obtain ⟨z, hz⟩ : ∃ z, ((beNum (s.extract A (A + a)).data.toList : Nat) : Int) = z := ⟨_, rfl⟩
            rw [hz] at HNX ⊢
            clear hz hok hgo hnx
            go_wp2_with (first
              | ((with_reducible refine wpList_slice_new 71 3 1 ?parts [.int .i64 z] (.int .i64 0) 1 8 (some 65) Tryz.underlying71 infoI (by omega) (by omega) ?hgd ?ho ?hd ?hf ?_); (case hgd => rfl); (case ho => rfl); (case hd => rfl); (case hf => kernel_rfl); (intro g3 w3 l3 B3 e3 z3); (have own3 := own_below (e3.mono l3) HO2.out))
              | (at_builtin; refine wpList_append_own_wide _ rfl _ _ 71 rfl w.heap.size 3 j0 (.int .i64 0) 1 8 Tryz.underlying71 ji jz0 jz1 jz2 rfl (by decide) _ _ _ rfl own3 ⟨g3, 0, none⟩ 1 1 [.int .i64 z] rfl rfl (cells_add B3) (by intro v hv; simp at hv; subst hv; rfl) (by unfold maxLen; omega) (by omega) (by have := HBE.out.size; have := e3.size; omega) ?_; intro v' w5 own5 grow5 nil5; have hca5 : w5.cell? ⟨g, o + j, none⟩ = some (.int .i64 (a : Int)) := (by rw [(below_own (HBE.out.trans (e3.mono (Nat.le_trans HBE.out.size l3))) own3 grow5 (Nat.le_refl _) (HBE.out.trans (e3.mono (Nat.le_trans HBE.out.size l3))).size).cell (by show g < w.heap.size; exact hg)]; exact HC.out j a HA.out))
              | fail)
            have b3 := HBE.out.trans (e3.mono (Nat.le_trans HBE.out.size l3))
            clear hca5
            go_roundw
            case rel => exact ⟨j + 1, ns ++ [z], by omega, by go_num, by rw [HSU.out]; go_num, HNX.out, by rw [List.map_append]; exact own5, below_own b3 own3 grow5 (Nat.le_refl _) b3.size⟩
            case measure => simp [intOf]; omega
          · have hgo : getOk ((s.data.toList.drop (sumTo ws j)).take a) = false := by
              rw [HAA.out, ← show (s.extract A (A + a)).data.toList = _ from TX.out]
              cases hh : getOk (s.extract A (A + a)).data.toList with
              | false => rfl
              | true => exact absurd (getOk_iff.1 hh) hno
            have hnx := HAT.out.no HA.out hgo
            have HNX := Lib.hid hnx
            clear hgo hnx hno
            go_wp2_with fail
            go_ret2
            exact ⟨.inr ⟨HNX.out, rfl⟩, HBE.out⟩
        · obtain rfl : j = k := by omega
          go_wp2_with fail
          go_ret2
          refine ⟨.inl ⟨ns, _, HAT.out.done (by rw [← HN.out]; omega), rfl, ?_, by rw [HAT.out.len, HN.out]⟩, hbel⟩
          rw [HAT.out.len]
          exact HO.out
end Go.Proofs.YtgfaadggalnbgaaGreatDoor
