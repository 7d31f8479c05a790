/- Walks of package sha: the sum of a hash, and of texts one behind the other. -/
import Derived.Test.YtacoibiafpdoaaaWSha6
namespace Go.Proofs.Ytacoibiafpdoaaa
open Go Go.RowKit
set_option linter.unusedVariables false

theorem sha_hst (m : List UInt8) : (hst (m ++ padL m.length)).text = sha m := rfl

theorem zeroHash (w : World) : Sem.run Try.prog (zeroValue 147) w = .ok (.agg (.bool false :: (S8.zero.cells ++ [.string ⟨#[]⟩, .int .i64 0]) : List Value).toArray) w := by kernel_rfl

theorem hcells_one (st : S8) (r : ByteArray) (n : Nat) : ∀ v ∈ hcells st r n, v.oneCell' = true := by
  intro v hv
  simp only [hcells, S8.cells, List.mem_cons, List.not_mem_nil, or_false, List.cons_append, List.nil_append] at hv
  rcases hv with rfl | rfl | rfl | rfl | rfl | rfl | rfl | rfl | rfl | rfl | rfl <;> rfl

set_option maxRecDepth 100000 in
set_option maxHeartbeats 1000000 in
theorem hsum_walk (b : Nat) (m : List UInt8) (w : World) (hb : HashAt w b m) (hn : m.length ≤ 536870912) :
    Calls Try.prog 102 #[.pointer (some ⟨b, 0, none⟩)] w fun e w' => ∃ r, e = .returned (.string r) ∧ Txt r (sha m) ∧ Below w.heap.size w w' := by
  obtain ⟨r, tr, hblk⟩ := hb
  obtain ⟨n, Hn⟩ : ∃ n, Hid (n = m.length) := ⟨_, rfl⟩
  rw [← Hn.out] at hblk hn
  have c10 : w.cell? ⟨b, 10, none⟩ = some (.int .i64 n) := hblk.cell rfl
  have hbs : b < w.heap.size := hblk.lt
  have HB := Lib.hid hblk; clear hblk
  go_enter Try.func102, Try.ntmps102
  go_wp2_with fail
  refine (there_walk b (hst m) r n _ HB.out).mono ?_
  rintro e w1 ⟨rfl, rfl⟩
  go_wp2_with (first
    | ((with_reducible refine wpList_load_blk 147 (.tmp 10) b (hcells (hst m) r n) 147 _ HB.out Try.underlying147 rfl (hcells_size _ _ _) ?hgd ?ho ?hx ?_); (case hgd => rfl); (case ho => rfl); (case hx => rfl))
    | ((with_reducible refine wpList_alloc_new 147 _ zeroHash (some 3) ?hgd ?ho ?hd ?_); (case hgd => rfl); (case ho => rfl); (case hd => rfl); (intro c w2 l2 B2 e2 z2); (have c10' : w2.cell? ⟨b, 10, none⟩ = some (.int .i64 n) := (HB.out.below e2 (by omega)).cell rfl))
    | ((with_reducible refine wpList_store_new 147 (.tmp 3) (.tmp 11) c _ (hcells (hst m) r n) 147 B2 ?hl (hcells_size _ _ _) (hcells_one _ _ _) ?hgd ?ho ?hx ?hy ?_); (case hgd => rfl); (case ho => rfl); (case hx => rfl); (case hy => rfl); (case hl => rfl); (intro w3 B3 o3); (have c10'' : w3.cell? ⟨b, 10, none⟩ = some (.int .i64 n) := (o3.blk (HB.out.below e2 (by omega)) (by omega)).cell rfl)))
  refine (pad_walk n _ (by omega)).mono ?_
  rintro e w4 ⟨p, rfl, tp, hb4⟩
  have q3 := Lib.hid o3.size
  have H3 : HashAt w4 c m := ⟨r, tr, by rw [← Hn.out]; exact B3.below hb4 (by have := q3.out; omega)⟩
  have hp : p.size ≤ 72 := by rw [tp.size, padL_length]; omega
  clear c10' c10'' c10 B3 B2
  go_wp2_with fail
  refine (put_walk c m p w4 H3 (by rw [← Hn.out]; omega)).mono ?_
  rintro e w5 ⟨rfl, ⟨r5, t5, B5⟩, k5⟩
  rw [tp] at B5
  have B5' := Lib.hid B5
  have rng : w5.rangeAt c 1 (hst (m ++ padL n)).cells := by
    have := B5.rangeMid (x := [.bool true]) (y := (hst (m ++ padL n)).cells) (z := [.string r5, .int .i64 (((m ++ padL n).length : Nat) : Int)]) (off := 1) rfl
    exact this
  clear B5
  have RG := Lib.hid rng; clear rng
  have HK := Lib.hid k5; clear k5
  go_wp2_with ((with_reducible refine wpList_load_mid ?hgd 144 (.tmp 22) ?ho c 1 ?hx (hst (m ++ padL n)).cells _ RG.out Try.underlying144 rfl (size8 _) ?_); (case hgd => rfl); (case ho => rfl); (case hx => rfl))
  refine (text_walk _ (hst_ok _) _).mono ?_
  rintro e w6 ⟨r6, rfl, t6, hb6⟩
  go_wp2_with fail
  go_ret
  refine ⟨r6, rfl, t6.cast (by rw [Hn.out]; exact sha_hst m), ?_⟩
  have hb3 : Below w.heap.size w w3 := o3.below (e2.mono l2) l2
  have h43 := hb4.size
  have := q3.out
  have hb5 := HK.out.below (hb3.trans (hb4.mono (by omega))) l2 (by omega)
  exact hb5.trans (hb6.mono (by have := HK.out.size; omega))

/-- A row of texts: what a variadic call hands over. -/
def StrRow (w : World) (v : Value) (xs : List ByteArray) : Prop :=
  (v = .slice none 0 0 ∧ xs = []) ∨
  ∃ g o c, v = .slice (some ⟨g, o, none⟩) xs.length c ∧ g < w.heap.size ∧ ∀ (j : Nat) (x : ByteArray), xs[j]? = some x → w.cell? ⟨g, o + j, none⟩ = some (.string x)

theorem StrRow.new (w : World) (xs : List ByteArray) (c : Nat) (t : TypeId) : StrRow (w.alloc (.cells (xs.map Value.string).toArray t)) (.slice (some ⟨w.heap.size, 0, none⟩) xs.length c) xs := by
  refine .inr ⟨_, _, _, rfl, by simp, fun j x hx => ?_⟩
  rw [Nat.zero_add]
  exact (Blk.new w (xs.map Value.string) t).cell (by simp [hx])

theorem StrRow.below {w w' : World} {v : Value} {xs : List ByteArray} (h : StrRow w v xs) {B : Nat} (hb : Below B w w') (hB : w.heap.size ≤ B) : StrRow w' v xs := by
  rcases h with h | ⟨g, o, c, h1, h2, h3⟩
  · exact .inl h
  · exact .inr ⟨g, o, c, h1, by have := hb.size; omega, fun j x hx => by rw [hb.cell (by show g < B; omega)]; exact h3 j x hx⟩

/-- All texts, one behind the other. -/
def catL (xs : List ByteArray) : List UInt8 := xs.flatMap fun x => x.data.toList
theorem catL_snoc (xs : List ByteArray) (k : Nat) (x : ByteArray) (h : xs[k]? = some x) : catL (xs.take (k + 1)) = catL (xs.take k) ++ x.data.toList := by
  obtain ⟨hk, rfl⟩ := List.getElem?_eq_some_iff.1 h
  unfold catL
  rw [List.take_succ_eq_append_getElem hk, List.flatMap_append]
  simp
theorem catL_take_le (xs : List ByteArray) (k : Nat) : (catL (xs.take k)).length ≤ (catL xs).length := by
  have : catL xs = catL (xs.take k) ++ catL (xs.drop k) := by
    unfold catL; rw [← List.flatMap_append, List.take_append_drop]
  rw [this, List.length_append]; omega

set_option maxRecDepth 100000 in
set_option maxHeartbeats 1000000 in
theorem sum_row (g o c : Nat) (xs : List ByteArray) (w : World) (hg : g < w.heap.size) (hc : ∀ (j : Nat) (x : ByteArray), xs[j]? = some x → w.cell? ⟨g, o + j, none⟩ = some (.string x))
    (hn : (catL xs).length ≤ 536870912) (hx : xs.length ≤ 1073741824) :
    Calls Try.prog 39 #[.slice (some ⟨g, o, none⟩) xs.length c] w fun e w' => ∃ r, e = .returned (.string r) ∧ Txt r (sha (catL xs)) ∧ Below w.heap.size w w' := by
  have Hc := Lib.hid hc; clear hc
  go_enter Try.func39, Try.ntmps39
  go_wp2_with fail
  refine (new_walk _).mono ?_
  rintro e w1 ⟨b, rfl, l1, B1, hb1, z1⟩
  have h0 : Hid (HashAt w1 b []) := ⟨⟨#[]⟩, rfl, B1⟩
  clear B1
  go_wp2_with fail
  go_loopw [9] (fun i wr => ∃ k : Nat, k ≤ xs.length ∧ i = .int .i64 k ∧ HashAt wr b (catL (xs.take k)) ∧ Below w.heap.size w wr) (fun i _ => xs.length - (intOf i).toNat)
  case atStart => exact ⟨0, by omega, rfl, h0.out, hb1⟩
  case round =>
    clear h0 hb1 z1
    obtain ⟨k, hk, rfl, hH, hbel⟩ := hrel
    have HH := Lib.hid hH; clear hH
    by_cases hlt : k < xs.length
    · have hlt' : (k : Int) < xs.length := by omega
      obtain ⟨x, hxk⟩ : ∃ x, xs[k]? = some x := ⟨_, List.getElem?_eq_getElem hlt⟩
      have ck : wr.cell? ⟨g, o + k, none⟩ = some (.string x) := by
        rw [hbel.cell (by show g < w.heap.size; exact hg)]; exact Hc.out k x hxk
      have hsn := catL_snoc xs k x hxk
      have hle := catL_take_le xs (k + 1)
      rw [hsn, List.length_append] at hle
      have HX := Lib.hid hsn; clear hsn hxk
      have hle' : (catL (xs.take k)).length + x.size ≤ (catL xs).length := hle
      clear hle
      go_wp2_with fail
      refine (put_walk b _ x _ HH.out (by omega)).mono ?_
      rintro e w2 ⟨rfl, hh2, k2⟩
      have H2 := Lib.hid hh2; clear hh2
      have K2 := Lib.hid k2; clear k2
      go_wp2_with fail
      go_roundw
      case rel => exact ⟨k + 1, by omega, by go_num, by rw [HX.out]; exact H2.out, K2.out.below hbel l1 hbel.size⟩
      case measure => simp [intOf]; omega
    · obtain rfl : k = xs.length := by omega
      have hall : Hid (catL (xs.take xs.length) = catL xs) := by show _ = _; rw [List.take_length]
      go_wp2_with fail
      refine (hsum_walk b _ wr HH.out (by rw [hall.out]; omega)).mono ?_
      rintro e w2 ⟨r, rfl, tr, hb2⟩
      go_wp2_with fail
      go_ret
      exact ⟨r, rfl, tr.cast (by rw [hall.out]), hbel.trans (hb2.mono hbel.size)⟩
end Go.Proofs.Ytacoibiafpdoaaa
