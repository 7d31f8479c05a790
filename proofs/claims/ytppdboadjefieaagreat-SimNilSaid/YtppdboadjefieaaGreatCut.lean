/- Walks of octet.Cut and octet.Unpack (chapter 1). -/
import Derived.Test.YtppdboadjefieaaGreatTake0
import Derived.Test.YtppdboadjefieaaGreatG7
import Derived.Test.YtppdboadjefieaaGreatStep
import Derived.Deep.RegionWith
import Derived.Deep.QuietTactic
import Derived.BigQuiet
namespace Go.Proofs.YtppdboadjefieaaGreat
set_option linter.unusedSimpArgs false
set_option linter.unusedVariables false
open Go Go.RowKit
set_option linter.unusedVariables false

/-- How Cut ends. -/
def CutEnd (l : List UInt8) (e : Ending) : Prop :=
  (∃ a b x y, cutS l = some (a, b) ∧ e = .returned (.tuple #[.string x, .string y, .int .i64 0]) ∧ Txt x a ∧ Txt y b) ∨
  (cutS l = none ∧ e = .returned (.tuple #[.string ⟨#[]⟩, .string ⟨#[]⟩, .int .i64 3]))

set_option maxHeartbeats 1000000 in
theorem ocut_walk (s : ByteArray) (w : World) :
    Calls Tryz.prog 254 #[.string s] w fun e w' => CutEnd s.data.toList e ∧ Below w.heap.size w w' := by
  have hl : s.data.toList.length = s.size := rfl
  by_cases c1 : s.size < 4
  · have d1 : (s.size : Int) < 4 := by omega
    have e1 : cutS s.data.toList = none := by unfold cutS; rw [if_pos (by rw [hl]; omega)]
    have E1 := Lib.hid e1
    clear e1 hl c1
    go_enter Tryz.func254, Tryz.ntmps254
    go_wp2_with fail
    go_ret3
    exact ⟨.inr ⟨E1.out, rfl⟩, Below.refl _ _⟩
  obtain ⟨n, hn⟩ : ∃ n, n = beNum (s.data.toList.take 4) := ⟨_, rfl⟩
  have hlt := beNum_lt (s.data.toList.take 4)
  have hl4 : (s.data.toList.take 4).length = 4 := by rw [List.length_take, hl]; omega
  rw [hl4, ← hn] at hlt
  have hn4 : n < 4294967296 := by simpa using hlt
  have tg : Txt (s.extract 0 4) (s.data.toList.take 4) := ((Txt.self s).extract 0 4).cast (by simp)
  obtain ⟨t, ht⟩ : ∃ t, s.extract 4 s.size = t := ⟨_, rfl⟩
  have tt : Txt t (s.data.toList.drop 4) := by rw [← ht]; exact ((Txt.self s).extract 4 s.size).cast (by rw [List.take_of_length_le (by rw [hl]; omega)])
  have tz : t.size = s.size - 4 := by rw [tt.size, List.length_drop, hl]
  have TG := Lib.hid tg
  have TT := Lib.hid tt
  have HN := Lib.hid hn
  have HL := Lib.hid hl
  have TZ := Lib.hid tz
  have HT := Lib.hid ht
  have d1 : (4 : Int) ≤ s.size := by omega
  clear tg tt hl hlt hl4
  by_cases c2 : t.size < n
  · have e1 : cutS s.data.toList = none := by unfold cutS; rw [if_pos (by rw [HL.out, ← HN.out]; omega)]
    have E1 := Lib.hid e1
    have d2 : (t.size : Int) < n := by omega
    clear e1 hn tz c2 c1
    go_enter Tryz.func254, Tryz.ntmps254
    go_wp2_with fail
    refine (oget_walk (s.extract 0 4) _).mono ?_
    rintro e w1 ⟨he, rfl⟩
    rcases he with ⟨hok, rfl⟩ | ⟨hno, rfl⟩
    rotate_left
    · exfalso
      rw [TG.out, List.length_take, HL.out, ← HN.out] at hno
      omega
    rw [TG.out, ← HN.out]
    clear hok
    go_wp2_with fail
    go_ret3
    exact ⟨.inr ⟨E1.out, rfl⟩, Below.refl _ _⟩
  · have e1 : cutS s.data.toList = some ((s.data.toList.drop 4).take n, (s.data.toList.drop 4).drop n) := by unfold cutS; rw [if_neg (by rw [HL.out, ← HN.out]; omega), ← HN.out]
    have E1 := Lib.hid e1
    have d2 : (n : Int) ≤ (t.size : Int) := by omega
    have d3 : (0 : Int) ≤ (n : Int) := by omega
    clear e1 hn tz c2 c1
    go_enter Tryz.func254, Tryz.ntmps254
    go_wp2_with fail
    refine (oget_walk (s.extract 0 4) _).mono ?_
    rintro e w1 ⟨he, rfl⟩
    rcases he with ⟨hok, rfl⟩ | ⟨hno, rfl⟩
    rotate_left
    · exfalso
      rw [TG.out, List.length_take, HL.out, ← HN.out] at hno
      omega
    rw [TG.out, ← HN.out]
    clear hok
    go_wp2_with fail
    go_quiet (fail)
    go_wp2_with fail
    go_ret3
    refine ⟨.inl ⟨_, _, _, _, E1.out, rfl, ?_, ?_⟩, ⟨rfl, rfl, rfl, Nat.le_refl _, fun _ _ => rfl⟩⟩
    · exact (TT.out.extract 0 n).cast (by simp)
    · exact (TT.out.extract n t.size).cast (by rw [List.take_of_length_le (by rw [← TT.out.size]; omega)])

theorem infoI : (Tryz.prog.info? 3).map (fun i => (i.zero, i.size, i.bytes)) = some (some (.int .i64 0), 1, 8) := by kernel_rfl

/-- The closure of Unpack: so many bytes off the text. -/
theorem cut1_walk (b k : Nat) (s : ByteArray) (w : World) (hb : Blk w b [.string s] 9) (hk : k ≤ s.size) :
    Calls Tryz.prog 329 #[.int .i64 (k : Int), .pointer (some ⟨b, 0, none⟩)] w fun e w' => ∃ x y, e = .returned (.string x) ∧ Txt x (s.data.toList.take k) ∧ Txt y (s.data.toList.drop k) ∧ w' = w.setCell ⟨b, 0, none⟩ (.string y) := by
  have hl : s.data.toList.length = s.size := rfl
  have HL := Lib.hid hl; clear hl
  have h0 := hb.cell (i := 0) rfl
  have h1 := hb.free 0
  have d0 : (0 : Int) ≤ (k : Int) := by omega
  have d1 : (k : Int) ≤ s.size := by omega
  go_enter Tryz.func329, Tryz.ntmps329
  go_wp2_with fail
  go_ret
  refine ⟨_, _, rfl, ?_, ?_, rfl⟩
  · exact ((Txt.self s).extract 0 k).cast (by simp)
  · exact ((Txt.self s).extract k s.size).cast (by rw [List.take_of_length_le (by rw [HL.out]; omega)])

/-- The widths of the numbers ahead of a place, together. -/
def sumTo (ws : List Nat) (k : Nat) : Nat := (ws.take k).sum
theorem sumTo_succ {ws : List Nat} {k a : Nat} (h : ws[k]? = some a) : sumTo ws (k + 1) = sumTo ws k + a := by
  obtain ⟨h1, rfl⟩ := List.getElem?_eq_some_iff.1 h
  unfold sumTo
  rw [List.take_succ_eq_append_getElem h1, List.sum_append]
  simp
theorem sumTo_all (ws : List Nat) : sumTo ws ws.length = ws.sum := by unfold sumTo; rw [List.take_length]
theorem sumTo_le (ws : List Nat) (k : Nat) : sumTo ws k ≤ ws.sum := by
  have h := List.take_append_drop k ws
  unfold sumTo
  conv => rhs; rw [← h]
  rw [List.sum_append]
  omega
/-- How Unpack ends. -/
def UnpackEnd (ws : List Nat) (l : List UInt8) (w w' : World) (e : Ending) : Prop :=
  (∃ ns vo, unpackS ws l = some ns ∧ e = .returned (.tuple #[vo, .int .i64 0]) ∧ w'.ownsRow w.heap.size 3 1 vo ns.length (ns.map (Value.int .i64)) ∧ ns.length = ws.length) ∨
  (unpackS ws l = none ∧ e = .returned (.tuple #[.slice none 0 0, .int .i64 3]))
/-- What has been taken, and what is still to be taken. -/
structure UnpackAt (ws : List Nat) (l : List UInt8) (k : Nat) (ns : List Int) : Prop where
  len : ns.length = k
  all : unpackS ws l = (unpackS (ws.drop k) (l.drop (sumTo ws k))).map (ns ++ ·)
theorem UnpackAt.start (ws : List Nat) (l : List UInt8) : UnpackAt ws l 0 [] := ⟨rfl, by simp [sumTo]⟩
theorem UnpackAt.no {ws : List Nat} {l : List UInt8} {k a : Nat} {ns : List Int} (h : UnpackAt ws l k ns) (ha : ws[k]? = some a) (hg : getOk ((l.drop (sumTo ws k)).take a) = false) : unpackS ws l = none := by
  rw [h.all]
  obtain ⟨h1, rfl⟩ := List.getElem?_eq_some_iff.1 ha
  rw [List.drop_eq_getElem_cons h1]
  simp only [unpackS]
  rw [hg]
  rfl
theorem UnpackAt.next {ws : List Nat} {l : List UInt8} {k a : Nat} {ns : List Int} (h : UnpackAt ws l k ns) (ha : ws[k]? = some a) (hg : getOk ((l.drop (sumTo ws k)).take a) = true) :
    UnpackAt ws l (k + 1) (ns ++ [((beNum ((l.drop (sumTo ws k)).take a) : Nat) : Int)]) := by
  refine ⟨by rw [List.length_append, h.len]; rfl, ?_⟩
  have e : l.drop (sumTo ws k + a) = (l.drop (sumTo ws k)).drop a := by rw [List.drop_drop]
  rw [h.all, sumTo_succ ha, e]
  obtain ⟨h1, rfl⟩ := List.getElem?_eq_some_iff.1 ha
  rw [List.drop_eq_getElem_cons h1]
  simp only [unpackS]
  rw [hg, if_pos rfl, Option.map_map]
  congr 1
  funext x
  simp
theorem UnpackAt.done {ws : List Nat} {l : List UInt8} {k : Nat} {ns : List Int} (h : UnpackAt ws l k ns) (hk : ws.length ≤ k) : unpackS ws l = some ns := by
  rw [h.all, List.drop_of_length_le hk]
  simp [unpackS]

set_option maxRecDepth 100000 in
set_option maxHeartbeats 4000000 in
theorem unpack_walk (v : Value) (ws : List Nat) (s : ByteArray) (w : World) (hv : IntRow w v (ws.map (fun (a : Nat) => (a : Int)))) (hw : ∀ (k a : Nat), ws[k]? = some a → 1 ≤ a ∧ a ≤ 8) (hsum : ws.sum = s.size) (hne : 0 < ws.length) (hlen : ws.length ≤ 16) :
    Calls Tryz.prog 253 #[v, .string s] w fun e w' => UnpackEnd ws s.data.toList w w' e ∧ Below w.heap.size w w' := by
  obtain ⟨g, o, c, rfl, hg, hc⟩ := hv.at (by rw [List.length_map]; exact hne)
  have hl : s.data.toList.length = s.size := rfl
  obtain ⟨n, hn⟩ : ∃ n, n = ws.length := ⟨_, rfl⟩
  rw [List.length_map, ← hn]
  have hcell : ∀ (k a : Nat), ws[k]? = some a → w.cell? ⟨g, o + k, none⟩ = some (.int .i64 (a : Int)) := fun k a ha => hc k a (by rw [List.getElem?_map, ha]; rfl)
  have hszb : s.size ≤ 128 := by
    have : ∀ k, k ≤ ws.length → sumTo ws k ≤ 8 * k := by
      intro k
      induction k with
      | zero => intro _; simp [sumTo]
      | succ k ih =>
        intro hk
        obtain ⟨a, ha⟩ : ∃ a, ws[k]? = some a := ⟨_, List.getElem?_eq_getElem (by omega)⟩
        have := hw k a ha
        rw [sumTo_succ ha]
        have := ih (by omega)
        omega
    have h := this ws.length (Nat.le_refl _)
    rw [sumTo_all] at h
    omega
  have hn16 : n ≤ 16 := by omega
  have hn0 : 0 < n := by omega
  have HN := Lib.hid hn; clear hn
  have HC := Lib.hid hcell; clear hcell
  have HW := Lib.hid hw; clear hw
  have HS := Lib.hid hsum; clear hsum
  have HL := Lib.hid hl; clear hl
  clear hv hc hne hlen
  have hmf : ∀ (fn : Fn) (first cap : Array Value) (w : World), (Instr.makeFunc fn first cap).run Tryz.prog w = .ok (.func fn first cap) w := fun _ _ _ _ => rfl
  obtain ⟨j0, ji, jz0, jz1, jz2⟩ := info_parts infoI
  go_enter Tryz.func253, Tryz.ntmps253
  go_wp2_with ((with_reducible refine wpList_box_one 9 (.tmp 1) (.string s) rfl (some 3) ?hgd ?ho ?hd ?hx ?_); (case hgd => rfl); (case ho => rfl); (case hd => rfl); (case hx => rfl); (intro b w1 l1 B1 e1 z1))
  have hbel1 := e1.mono l1
  have HB1 := Lib.hid B1
  clear B1
  go_loop [6, 17] (fun x i => ∃ k : Nat, k ≤ n ∧ i = .int .i64 k ∧ x = .int .i64 ((sumTo ws k : Nat) : Int)) (fun _ i => n - (intOf i).toNat)
  case atStart => exact ⟨0, by omega, rfl, rfl⟩
  case round =>
    obtain ⟨k, hk, rfl, rfl⟩ := hrel
    obtain ⟨x, hx⟩ : ∃ x, x = sumTo ws k := ⟨_, rfl⟩
    rw [← hx]
    have hx8 : x ≤ 128 := by have := sumTo_le ws k; have := HS.out; omega
    have HX := Lib.hid hx; clear hx
    by_cases hlt : k < n
    · have hlt' : (k : Int) < n := by omega
      have h00 : (0 : Int) ≤ (k : Int) := by omega
      obtain ⟨a, ha⟩ : ∃ a, ws[k]? = some a := ⟨_, List.getElem?_eq_getElem (by rw [← HN.out]; exact hlt)⟩
      have hca : w1.cell? ⟨g, o + k, none⟩ = some (.int .i64 (a : Int)) := by rw [hbel1.cell (by show g < w.heap.size; exact hg)]; exact HC.out k a ha
      obtain ⟨a1, a2⟩ := HW.out k a ha
      have hsu := sumTo_succ ha
      rw [← HX.out] at hsu
      have HSU := Lib.hid hsu; clear hsu ha
      have q1 : ¬ (a : Int) < 1 := by omega
      have q2 : ¬ (8 : Int) < a := by omega
      go_wp2_with fail
      go_round
      case rel => exact ⟨k + 1, by omega, by go_num, by rw [HSU.out]; go_num⟩
      case measure => simp [intOf]; omega
    · obtain rfl : k = n := by omega
      have hxs : (x : Int) = s.size := by rw [HX.out, HN.out, sumTo_all, HS.out]
      have hbc := HB1.out.cell (i := 0) rfl
      go_wp2_with fail
      clear hbc
      go_loopw [10, 38] (fun vo i wr => ∃ (j : Nat) (t : ByteArray) (ns : List Int), j ≤ k ∧ i = .int .i64 j ∧ UnpackAt ws s.data.toList j ns ∧ Txt t (s.data.toList.drop (sumTo ws j)) ∧ Blk wr b [.string t] 9 ∧ wr.ownsRow (b + 1) 3 1 vo j (ns.map (Value.int .i64)) ∧ Below w.heap.size w wr) (fun _ i _ => k - (intOf i).toNat)
      case atStart => exact ⟨0, s, [], by omega, rfl, UnpackAt.start _ _, Txt.self s, HB1.out, World.ownsRow_nil _ _ _ _, hbel1⟩
      case round =>
        obtain ⟨j, t, ns, hj, rfl, hat, tt, hblk, hown, hbel⟩ := hrel
        obtain ⟨q, d, rfl⟩ := own_shape hown
        have HO := Lib.hid hown; clear hown
        have HB := Lib.hid hblk; clear hblk
        have HAT := Lib.hid hat; clear hat
        have TT := Lib.hid tt; clear tt
        by_cases hlt : j < k
        · have hlt' : (j : Int) < k := by omega
          have h00 : (0 : Int) ≤ (j : Int) := by omega
          obtain ⟨a, ha⟩ : ∃ a, ws[j]? = some a := ⟨_, List.getElem?_eq_getElem (by rw [← HN.out]; exact hlt)⟩
          have hca : wr.cell? ⟨g, o + j, none⟩ = some (.int .i64 (a : Int)) := by rw [hbel.cell (by show g < w.heap.size; exact hg)]; exact HC.out j a ha
          obtain ⟨a1, a2⟩ := HW.out j a ha
          have hts : a ≤ t.size := by
            have e1 := TT.out.size
            rw [List.length_drop, HL.out] at e1
            have e2 := sumTo_succ ha
            have e3 := sumTo_le ws (j + 1)
            have e4 := HS.out
            omega
          have HA := Lib.hid ha; clear ha
          go_wp2_with fail
          refine (cut1_walk b a t _ HB.out hts).mono ?_
          rintro e w2 ⟨x1, y1, rfl, tx, ty, rfl⟩
          have TX := Lib.hid (tx.cast (by rw [show t.data.toList = _ from TT.out])); clear tx
          have TY : Hid (Txt y1 (s.data.toList.drop (sumTo ws (j + 1)))) := Lib.hid (ty.cast (by rw [show t.data.toList = _ from TT.out, sumTo_succ HA.out, List.drop_drop]))
          clear ty
          go_wp2_with fail
          refine (oget_walk x1 _).mono ?_
          rintro e w2 ⟨he, rfl⟩
          have HB2 := Lib.hid (HB.out.set 0 (.string y1))
          have HO2 := Lib.hid (own_set (u := .string y1) (i := 0) HO.out (Nat.lt_succ_self b))
          have hbel2 : Below w.heap.size w (wr.setCell ⟨b, 0, none⟩ (.string y1)) := hbel.setCell (by show w.heap.size ≤ b; exact l1) _
          have HBE := Lib.hid hbel2
          obtain ⟨w4, hw4⟩ : ∃ w4, wr.setCell ⟨b, 0, none⟩ (.string y1) = w4 := ⟨_, rfl⟩
          rw [hw4] at HB2 HO2 HBE ⊢
          clear hbel2 hw4 hbel HB HO hca
          rcases he with ⟨hok, rfl⟩ | ⟨hno, rfl⟩
          · have hgo : getOk ((s.data.toList.drop (sumTo ws j)).take a) = true := by rw [getOk_iff, ← show x1.data.toList = _ from TX.out]; exact hok
            have hnx := HAT.out.next HA.out hgo
            rw [← show x1.data.toList = _ from TX.out] at hnx
            have HNX := Lib.hid hnx
            obtain ⟨z, hz⟩ : ∃ z, ((beNum x1.data.toList : Nat) : Int) = z := ⟨_, rfl⟩
            rw [hz] at HNX ⊢
            clear hz hok hgo hnx
            go_wp2_with (first
              | ((with_reducible refine wpList_slice_new 58 3 1 ?parts [.int .i64 z] (.int .i64 0) 1 8 (some 54) Tryz.underlying58 infoI (by omega) (by omega) ?hgd ?ho ?hd ?hf ?_); (case hgd => rfl); (case ho => rfl); (case hd => rfl); (case hf => kernel_rfl); (intro g3 w3 l3 B3 e3 z3); (have own3 := own_below (e3.mono l3) HO2.out))
              | (at_builtin; refine wpList_append_own_wide _ rfl _ _ 58 rfl (b + 1) 3 j0 (.int .i64 0) 1 8 Tryz.underlying58 ji jz0 jz1 jz2 rfl (by decide) _ _ _ rfl own3 ⟨g3, 0, none⟩ 1 1 [.int .i64 z] rfl rfl (cells_add B3) (by intro v hv; simp at hv; subst hv; rfl) (by unfold maxLen; omega) (by omega) (by have := HB2.out.lt; have := e3.size; omega) ?_; intro v' w5 own5 grow5 nil5)
              | fail)
            have b3 := HBE.out.trans (e3.mono (Nat.le_trans HBE.out.size l3))
            have B5 := (HB2.out.below e3 (by have := HB2.out.lt; omega)).grown grow5 (own_ne own3 (by omega))
            go_wp2_with fail
            go_roundw
            case rel => exact ⟨j + 1, y1, ns ++ [z], by omega, by go_num, HNX.out, TY.out, B5, by rw [List.map_append]; exact own5, below_own b3 own3 grow5 (by omega) b3.size⟩
            case measure => simp [intOf]; omega
          · have hgo : getOk ((s.data.toList.drop (sumTo ws j)).take a) = false := by
              rw [← show x1.data.toList = _ from TX.out]
              cases hh : getOk x1.data.toList with
              | false => rfl
              | true => exact absurd (getOk_iff.1 hh) hno
            have hnx := HAT.out.no HA.out hgo
            have HNX := Lib.hid hnx
            clear hgo hnx hno
            go_wp2_with fail
            go_ret2
            exact ⟨.inr ⟨HNX.out, rfl⟩, HBE.out⟩
        · obtain rfl : j = k := by omega
          go_wp2_with fail
          go_ret2
          refine ⟨.inl ⟨ns, _, HAT.out.done (by rw [← HN.out]; omega), rfl, ?_, by rw [HAT.out.len, HN.out]⟩, hbel⟩
          rw [HAT.out.len]
          exact own_base HO.out (by omega)
end Go.Proofs.YtppdboadjefieaaGreat
