/- Walk of the documents' Pick (chapter 38). -/
import Derived.Test.YtacoibiafpdoaaaSmp4
import Derived.Deep.RegionLaw
namespace Go.Proofs.Ytacoibiafpdoaaa
open Go Go.RowKit
set_option linter.unusedVariables false

def rowV (g : Nat → Nat) (t : Nat) : List Value := (List.range t).map (fun j => .int .i64 ((g j : Nat) : Int))
theorem rowV_length (g : Nat → Nat) (t : Nat) : (rowV g t).length = t := by simp [rowV]
theorem rowV_succ (g : Nat → Nat) (t : Nat) : rowV g (t + 1) = rowV g t ++ [.int .i64 ((g t : Nat) : Int)] := by simp [rowV, List.range_succ]
theorem rowV_at (g : Nat → Nat) {t j : Nat} (h : j < t) : (rowV g t)[j]? = some (.int .i64 ((g j : Nat) : Int)) := by simp [rowV, h]
theorem rowV_swap (g : Nat → Nat) {t i k : Nat} (hi : i < t) (hk : k < t) (z : List Value) :
    (((rowV g t ++ z).set k (.int .i64 ((g i : Nat) : Int))).set i (.int .i64 ((g k : Nat) : Int))) = rowV (swapF g i k) t ++ z := by
  rw [List.set_append_left _ _ (by rw [rowV_length]; exact hk), List.set_append_left _ _ (by rw [List.length_set, rowV_length]; exact hi)]
  congr 1
  apply List.ext_getElem?
  intro j
  by_cases hj : j < t
  · rw [rowV_at _ hj]
    unfold swapF
    by_cases h1 : j = i
    · subst h1
      rw [List.getElem?_set_self (by rw [List.length_set, rowV_length]; exact hj), if_pos rfl]
    · rw [List.getElem?_set_ne (by omega), if_neg h1]
      by_cases h2 : j = k
      · subst h2
        rw [List.getElem?_set_self (by rw [rowV_length]; exact hj), if_pos rfl]
      · rw [List.getElem?_set_ne (by omega), if_neg h2, rowV_at _ hj]
  · rw [List.getElem?_eq_none (by rw [List.length_set, List.length_set, rowV_length]; omega), List.getElem?_eq_none (by rw [rowV_length]; omega)]

/-- append to a row of the call's own, as one step of a region that draws its order. -/
theorem step_append_own {P : Program} {ops : Array Oper} {o : Oper} {a : Act} {w : World} {K : Act → World → Prop} {Q : Exit → Act → World → Prop} {E : Prop}
    (hgd : o.guard = none) (s x : Operand) (t : TypeId)
    (ho : o.op = .call { callee := .builtin .append, args := #[s, x], argTypes := #[t, t] })
    (base : Nat) (e : TypeId) (i : TypeInfo) (z : Value) (size bytes : Nat) (ht : P.underlying t = some (.slice e)) (hi : P.info? e = some i) (hz : i.zero = some z)
    (hsize : i.size = size) (hby : i.bytes = bytes) (hzs : z.cells.size = size) (hsz : 0 < size)
    (v : Value) (n : Nat) (xs : List Value) (hs : a.eval s = v) (hown : w.ownsRow base e size v n xs)
    (ad : Addr) (m c : Nat) (news : List Value) (hx : a.eval x = .slice (some ad) m c) (hl : news.length = m * size) (hnews : ∀ j u, news[j]? = some u → w.cell? (ad.add j) = some u) (h1 : ∀ u ∈ news, u.oneCell' = true)
    (h63 : n + m ≤ maxLen) (hbytes : ((n + m) + (n + m) / 4 + 192) * bytes ≤ 281474976710656) (hbase : base ≤ w.heap.size)
    (h : ∀ v' w', w'.ownsRow base e size v' (n + m) (xs ++ news) → w.grownBy w' v.ownBlock → (v' = .slice none 0 0 ↔ v = .slice none 0 0 ∧ m = 0) → K (a.put o.dst v') w') :
    if Region.wanted o (yielded ops a.tmps) = true then Oper.wp P o a w K Q else E := by
  have hw : Region.wanted o (yielded ops a.tmps) = true := by simp [Region.wanted, hgd]
  rw [if_pos hw]
  exact wp_append_own_wide w s x t ho base e i z size bytes ht hi hz hsize hby hzs hsz v n xs hs hown ad m c news hx hl hnews h1 h63 hbytes hbase h

set_option maxRecDepth 100000 in
set_option maxHeartbeats 2000000 in
theorem rpick38_walk (s : ByteArray) (f o l : Int) (n t m : Nat) (w : World) (h1 : (s.size : Int) = 32) (h2 : rightB f o l = true) (h3 : n ≤ 64) (ht : totalS f o l = (t : Int)) (ht4 : t ≤ 4096) (hmin : min n t = m) :
    Calls Try.prog 78 #[.string s, .int .i64 f, .int .i64 o, .int .i64 l, .int .i64 (n : Int)] w fun e w' => ∃ v, e = .returned v ∧ w'.ownsRow w.heap.size 85 2 v m (flatA (pickS s.data.toList f l t m)) ∧ Below w.heap.size w w' := by
  obtain ⟨g1, g2, g3, g4, g5, g6⟩ := rightB_iff.1 h2
  have hm1 : m ≤ t := by omega
  have hm2 : m ≤ n := by omega
  have hm3 : m = n ∨ m = t := by omega
  have HT := Lib.hid ht; clear ht
  clear h2 g6 hmin
  have HM3 := Lib.hid hm3; clear hm3
  obtain ⟨i0, hi, hz0, hz1, hz2⟩ := info_parts infoAsk
  obtain ⟨j0, ji, jz0, jz1, jz2⟩ := info_parts infoInt
  go_enter Try.func78, Try.ntmps78
  go_wp2_with fail
  refine (rtotal38_walk f o l _).mono ?_
  rintro e w1 ⟨rfl, rfl⟩
  rw [HT.out]
  go_wp2_with fail
  go_loopw [12, 13] (fun v i wr => ∃ k : Nat, k ≤ t ∧ i = .int .i64 k ∧ wr.ownsRow w.heap.size 3 1 v k (rowV (fun j => j) k) ∧ Below w.heap.size w wr) (fun _ i _ => t - (intOf i).toNat)
  case atStart => exact ⟨0, by omega, rfl, World.ownsRow_nil _ _ _ _, Below.refl _ _⟩
  case round =>
    obtain ⟨k, hk, rfl, hown, hbel⟩ := hrel
    obtain ⟨q, d, rfl⟩ := own_shape hown
    have HO := Lib.hid hown; clear hown
    by_cases hlt : k < t
    · have hlt' : (k : Int) < t := by omega
      go_wp2_with (first
        | ((with_reducible refine wpList_slice_new 54 3 1 ?parts [.int .i64 (k : Int)] (.int .i64 0) 1 8 (some 29) Try.underlying54 infoInt (by omega) (by omega) ?hgd ?ho ?hd ?hf ?_); (case hgd => rfl); (case ho => rfl); (case hd => rfl); (case hf => kernel_rfl); (intro g w2 l2 B2 e2 z2); (have own2 := own_below (e2.mono l2) HO.out))
        | (at_builtin; refine wpList_append_own_wide _ rfl _ _ 54 rfl w.heap.size 3 j0 (.int .i64 0) 1 8 Try.underlying54 ji jz0 jz1 jz2 rfl (by decide) _ _ _ rfl own2 ⟨g, 0, none⟩ 1 1 [.int .i64 (k : Int)] rfl rfl (cells_add B2) (by intro v hv; simp at hv; subst hv; rfl) (by unfold maxLen; omega) (by omega) (by have := hbel.size; have := e2.size; omega) ?_; intro v' w3 own3 grow3 nil3)
        | fail)
      have b2 := hbel.trans (e2.mono (Nat.le_trans hbel.size l2))
      go_roundw
      case rel => exact ⟨k + 1, by omega, by go_num, by rw [rowV_succ]; exact own3, below_own b2 own2 grow3 (Nat.le_refl _) b2.size⟩
      case measure => simp [intOf]; omega
    · obtain rfl : k = t := by omega
      by_cases hk0 : k = 0
      · subst hk0
        obtain rfl : m = 0 := by omega
        clear HO
        go_wp2_with fail
        go_loopw [14, 15] (fun v i w4 => v = .slice none 0 0 ∧ i = .int .i64 0 ∧ wr = w4) (fun _ _ _ => 0)
        case atStart => exact ⟨rfl, rfl, rfl⟩
        case round =>
          obtain ⟨rfl, rfl, rfl⟩ := hrel
          by_cases hn0 : (0 : Int) < n
          · go_wp2_with fail
            go_ret
            exact ⟨_, rfl, World.ownsRow_nil _ _ _ _, hbel⟩
          · have hn1 : (n : Int) ≤ 0 := by omega
            have hn2 : ¬ 0 < n := by omega
            go_wp2_with fail
            go_ret
            exact ⟨_, rfl, World.ownsRow_nil _ _ _ _, hbel⟩
      · obtain ⟨g, cap, z, hq, hcap, hgb, hblk⟩ := own_split HO.out (by omega)
        injection hq with hq _ hq2
        subst hq hq2
        have HB := Lib.hid hblk
        obtain ⟨S, hS⟩ : ∃ S, S = wr.heap.size := ⟨_, rfl⟩
        have hgw : g < S := by rw [hS]; exact hblk.lt
        have hSS : S ≤ wr.heap.size := by omega
        have hS0 : w.heap.size ≤ S := by rw [hS]; exact hbel.size
        have HSS := Lib.hid hS
        clear hblk HO hS
        go_wp2_with fail
        go_loopw [14, 15] (fun v i w4 => ∃ j : Nat, j ≤ m ∧ i = .int .i64 j ∧ Blk w4 g (rowV (rowS s.data.toList k j) k ++ z) 3 ∧ w4.ownsRow S 85 2 v j (flatA (pickS s.data.toList f l k j)) ∧ Below w.heap.size w w4 ∧ S ≤ w4.heap.size) (fun _ i _ => m - (intOf i).toNat)
        case atStart => exact ⟨0, by omega, rfl, HB.out, World.ownsRow_nil _ _ _ _, hbel, hSS⟩
        case round =>
          clear HB hSS
          obtain ⟨j, hj, rfl, hblk, hown, hbel4, hsz4⟩ := hrel
          obtain ⟨q, d, rfl⟩ := own_shape hown
          have HO := Lib.hid hown; clear hown
          have HB := Lib.hid hblk; clear hblk
          by_cases hjm : j < m
          · have j1 : (j : Int) < n := by omega
            have j2 : (j : Int) < k := by omega
            obtain ⟨r, Hr⟩ : ∃ r, Hid (numS s.data.toList j (k - j) = r) := ⟨_, rfl⟩
            have hrt : r < k - j := by rw [← Hr.out]; exact numS_lt (by omega)
            have hsub : ((k : Int) - (j : Int)) = ((k - j : Nat) : Int) := by omega
            have HSUB := Lib.hid hsub; clear hsub
            obtain ⟨K, hK⟩ : ∃ K : Nat, K = j + r := ⟨_, rfl⟩
            have hKi : (j : Int) + (r : Int) = (K : Int) := by omega
            have hKk : K < k := by omega
            have hKk' : (K : Int) < k := by omega
            have HK := Lib.hid hK; clear hK
            obtain ⟨X, HX⟩ : ∃ X, Hid (rowS s.data.toList k j K = X) := ⟨_, rfl⟩
            obtain ⟨Y, HY⟩ : ∃ Y, Hid (rowS s.data.toList k j j = Y) := ⟨_, rfl⟩
            have hXt : X < k := by rw [← HX.out]; exact rowS_lt j (by omega) _ (by omega)
            have hYt : Y < k := by rw [← HY.out]; exact rowS_lt j (by omega) _ (by omega)
            go_wp2_with fail
            rw [HSUB.out]
            refine (rnumber38_walk s j (k - j) _ h1 (by omega) (by omega) (by omega)).mono ?_
            rintro e w5 ⟨rfl, hb5⟩
            rw [Hr.out]
            have B5 := HB.out.below hb5 HB.out.lt
            have cK : w5.cell? ⟨g, K, none⟩ = some (.int .i64 (X : Int)) := B5.cell (by rw [List.getElem?_append_left (by rw [rowV_length]; exact hKk), rowV_at _ hKk, HX.out])
            have cj : w5.cell? ⟨g, j, none⟩ = some (.int .i64 (Y : Int)) := B5.cell (by rw [List.getElem?_append_left (by rw [rowV_length]; omega), rowV_at _ (by omega), HY.out])
            have fK : w5.frozen? ⟨g, K, none⟩ = false := B5.free _
            have fj : w5.frozen? ⟨g, j, none⟩ = false := B5.free _
            obtain ⟨y2, hy2⟩ : ∃ y, (w5.setCell ⟨g, K, none⟩ (.int .i64 (Y : Int))).cell? ⟨g, j, none⟩ = some y := ⟨_, (B5.set K _).cell (List.getElem?_eq_getElem (by rw [List.length_set, List.length_append, rowV_length]; omega))⟩
            have hqw : IntKind.i64.wrap (f + (X : Int) / l) = f + (X : Int) / l := by
              have q0 : 0 ≤ (X : Int) / l := Int.ediv_nonneg (by omega) (by omega)
              have q1 : (X : Int) / l ≤ X := Int.ediv_le_self _ (by omega)
              exact IntWalk.i64_in _ (by omega)
            have qd : (X : Int).tdiv l = (X : Int) / l := Int.tdiv_eq_ediv_of_nonneg (by omega)
            have qm : (X : Int).tmod l = (X : Int) % l := Int.tmod_eq_emod_of_nonneg (by omega)
            have hl0 : l ≠ 0 := by omega
            have qr : IntKind.i64.wrap ((X : Int) / l) = (X : Int) / l := by
              have q0 : 0 ≤ (X : Int) / l := Int.ediv_nonneg (by omega) (by omega)
              have q1 : (X : Int) / l ≤ X := Int.ediv_le_self _ (by omega)
              exact IntWalk.i64_in _ (by omega)
            go_wp2_with fail
            have hb4 := hbel4.trans (hb5.mono hbel4.size)
            have B6 : Blk ((w5.setCell ⟨g, K, none⟩ (.int .i64 (Y : Int))).setCell ⟨g, j, none⟩ (.int .i64 (X : Int))) g (rowV (rowS s.data.toList k (j + 1)) k ++ z) 3 := by
              refine ((B5.set K _).set j _).ext ?_
              have h := rowV_swap (rowS s.data.toList k j) (i := j) (k := K) (t := k) (by omega) hKk z
              rw [HX.out, HY.out] at h
              rw [h]
              show _ = rowV (swapF (rowS s.data.toList k j) j (j + numS s.data.toList j (k - j))) k ++ z
              rw [Hr.out, ← HK.out]
            have bel6 : Below w.heap.size w ((w5.setCell ⟨g, K, none⟩ (.int .i64 (Y : Int))).setCell ⟨g, j, none⟩ (.int .i64 (X : Int))) := (hb4.setCell (by exact hgb) _).setCell (by exact hgb) _
            have own6 := own_set (i := j) (u := .int .i64 (X : Int)) (own_set (i := K) (u := .int .i64 (Y : Int)) (own_below hb5 HO.out) hgw) hgw
            have sz6 : S ≤ ((w5.setCell ⟨g, K, none⟩ (.int .i64 (Y : Int))).setCell ⟨g, j, none⟩ (.int .i64 (X : Int))).heap.size := by
              have := hb5.size
              simp [World.setCell]
              omega
            have hpk : pickS s.data.toList f l k (j + 1) = pickS s.data.toList f l k j ++ [⟨f + (X : Int) / l, (X : Int) % l⟩] := by
              rw [pickS_succ]
              have : pickX s.data.toList k j = X := by unfold pickX; rw [Hr.out, ← HK.out, HX.out]
              rw [this]
            have HPK := Lib.hid hpk
            clear hpk cK cj fK fj hy2 B5 hb5 hb4 HB HO HX HY Hr
            generalize (w5.setCell ⟨g, K, none⟩ (.int .i64 (Y : Int))).setCell ⟨g, j, none⟩ (.int .i64 (X : Int)) = w6 at B6 bel6 own6 sz6 ⊢
            have hX : 0 ≤ (X : Int) / l := Int.ediv_nonneg (by omega) (by omega)
            have B7 := Blk.new w6.drew (AskD.cells ⟨f + (X : Int) / l, (X : Int) % l⟩) 85
            have own7 := World.ownsRow.alloc (own_drew own6) (.cells (AskD.cells ⟨f + (X : Int) / l, (X : Int) % l⟩).toArray 85)
            go_region_law (first
              | (refine step_append_own rfl _ _ 89 rfl S 85 i0 (.agg (AskD.cells ⟨0, 0⟩).toArray) 2 16 Try.underlying89 hi hz0 hz1 hz2 rfl (by decide) _ _ _ rfl own7 ⟨w6.drew.heap.size, 0, none⟩ 1 1 (AskD.cells ⟨f + (X : Int) / l, (X : Int) % l⟩) rfl rfl (cells_add B7) (AskD.cells_one _) (by unfold maxLen; omega) (by omega) (by have h9 : w6.drew.heap.size = w6.heap.size := rfl; simp; omega) ?_; intro v' w8 own8 grow8 nil8)
              | fail)
            have b7 := (B6.drew).alloc (.cells (AskD.cells ⟨f + (X : Int) / l, (X : Int) % l⟩).toArray 85)
            have bel7 := (bel6.drew).alloc bel6.size (.cells (AskD.cells ⟨f + (X : Int) / l, (X : Int) % l⟩).toArray 85)
            go_wp2_with fail
            go_roundw
            case rel =>
              refine ⟨j + 1, by omega, by go_num, b7.grown grow8 (own_ne own7 hgw), ?_, below_own bel7 own7 grow8 hS0 bel7.size, ?_⟩
              · rw [HPK.out, flatA_snoc]
                exact own8
              · have h9 := grow8.size
                have h10 : w6.drew.heap.size = w6.heap.size := rfl
                simp at h9
                omega
            case measure => simp [intOf]; omega
          · obtain rfl : j = m := by omega
            by_cases j1 : (j : Int) < n
            · have j2 : (k : Int) ≤ j := by have := HM3.out; omega
              have j3 : ¬ j < k := by have := HM3.out; omega
              go_wp2_with fail
              go_ret
              exact ⟨_, rfl, own_base HO.out hS0, hbel4⟩
            · have j2 : (n : Int) ≤ j := by omega
              have j3 : ¬ j < n := by omega
              go_wp2_with fail
              go_ret
              exact ⟨_, rfl, own_base HO.out hS0, hbel4⟩
end Go.Proofs.Ytacoibiafpdoaaa
