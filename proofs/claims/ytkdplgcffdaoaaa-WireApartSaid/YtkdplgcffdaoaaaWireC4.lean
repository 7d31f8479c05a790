/- Walk of wire.Check (chapter 27): may a message be? -/
import Derived.Test.YtkdplgcffdaoaaaWireC3
namespace Go.Proofs.Ytkdplgcffdaoaaa
set_option linter.unusedSimpArgs false
set_option linter.unusedVariables false
open Go Go.RowKit
set_option linter.unusedVariables false

def toldZ (t : ToldD) : Bool := decide (t.askE = 0 ∧ t.askL = 0) && !t.gone && decide (t.slot = 0) && decide (t.cipher = ⟨#[]⟩) && !t.found && decide (t.at_ = 0) && decide (t.here = LeafD.zero) && decide (t.ahead = LeafD.zero) && decide (t.up.length + t.left.length = 0)
theorem toldZ_eq (t : ToldD) : toldZ t = decide (t = ToldD.zero) := by
  obtain ⟨e, l, g, f, a, h, ah, u, le, s, c⟩ := t
  rw [Bool.eq_iff_iff]
  simp only [toldZ, ToldD.zero, Bool.and_eq_true, Bool.not_eq_true', decide_eq_true_eq, ToldD.mk.injEq]
  constructor
  · rintro ⟨⟨⟨⟨⟨⟨⟨⟨⟨h1, h2⟩, h3⟩, h4⟩, h5⟩, h6⟩, h7⟩, h8⟩, h9⟩, h10⟩
    have hu : u.length = 0 := by omega
    have hl : le.length = 0 := by omega
    exact ⟨h1, h2, h3, h6, h7, h8, h9, List.eq_nil_of_length_eq_zero hu, List.eq_nil_of_length_eq_zero hl, h4, h5⟩
  · rintro ⟨h1, h2, h3, h6, h7, h8, h9, rfl, rfl, h4, h5⟩
    exact ⟨⟨⟨⟨⟨⟨⟨⟨⟨h1, h2⟩, h3⟩, h4⟩, h5⟩, h6⟩, h7⟩, h8⟩, h9⟩, rfl⟩
def restZ (y : MsgD) : Bool := toldZ y.told && decide (y.epoch = 0) && decide (y.seq = 0) && decide (y.nonce = ⟨#[]⟩) && decide (y.tag = ⟨#[]⟩) && decide (y.last = ⟨#[]⟩) && decide (y.askE = 0 ∧ y.askL = 0) && decide (y.sld = Sld.zero) && decide (y.rcp = Rcp.zero)
/-- A message that is wiped, without its nonce, and without its tag. -/
def strip (m : MsgD) : MsgD := { wipe m with nonce := if m.kind = 10 then m.nonce else ⟨#[]⟩, tag := if taggedB m.kind then ⟨#[]⟩ else m.tag }
theorem restZ_iff (y : MsgD) : restZ y = true ↔ (y.told = ToldD.zero ∧ y.epoch = 0 ∧ y.seq = 0 ∧ y.nonce = ⟨#[]⟩ ∧ y.tag = ⟨#[]⟩ ∧ y.last = ⟨#[]⟩ ∧ (y.askE = 0 ∧ y.askL = 0) ∧ y.sld = Sld.zero ∧ y.rcp = Rcp.zero) := by
  simp only [restZ, toldZ_eq, Bool.and_eq_true, decide_eq_true_eq, and_assoc]
theorem bareM_strip (m : MsgD) : bareM (wipe m) = restZ (strip m) := by
  rw [Bool.eq_iff_iff, restZ_iff]
  constructor
  · intro h
    obtain ⟨h1, h2, h3, h4, h5, h6, h7, h8, h9⟩ := bareM_facts h
    refine ⟨h1, h2, h3, ?_, ?_, h6, h7, h8, h9⟩
    · show (if m.kind = 10 then m.nonce else ⟨#[]⟩) = _
      split
      · next h => exact h4 h
      · rfl
    · show (if taggedB m.kind then ⟨#[]⟩ else m.tag) = _
      split
      · rfl
      · next h => exact h5 (by have h2 : ¬ taggedB m.kind = true := h; show taggedB m.kind = false; simpa using h2)
  · rintro ⟨h1, h2, h3, h4, h5, h6, h7, h8, h9⟩
    have h4' : (if m.kind = 10 then m.nonce else ⟨#[]⟩) = ⟨#[]⟩ := h4
    have h5' : (if taggedB m.kind then ⟨#[]⟩ else m.tag) = ⟨#[]⟩ := h5
    have h1' : (wipe m).told = ToldD.zero := h1
    have h2' : (wipe m).epoch = 0 := h2
    have h3' : (wipe m).seq = 0 := h3
    have h6' : (wipe m).last = ⟨#[]⟩ := h6
    have h7' : (wipe m).askE = 0 ∧ (wipe m).askL = 0 := h7
    have h8' : (wipe m).sld = Sld.zero := h8
    have h9' : (wipe m).rcp = Rcp.zero := h9
    simp only [bareM, Bool.and_eq_true, Bool.or_eq_true, decide_eq_true_eq]
    refine ⟨⟨⟨⟨⟨⟨⟨⟨h1', h2'⟩, h3'⟩, ?_⟩, ?_⟩, h6'⟩, h7'⟩, h8'⟩, h9'⟩
    · by_cases h : m.kind = 10
      · rw [if_pos h] at h4'; exact .inr h4'
      · exact .inl h
    · by_cases h : taggedB m.kind = true
      · exact .inl h
      · rw [if_neg h] at h5'; exact .inr h5'
def chkM (m : MsgD) : Int := if msgOk m then 0 else 2
theorem ret_i27 {a b : Int} (h : a = b) : Ending.returned (Value.int .i64 a) = .returned (.int .i64 b) := by rw [h]
theorem chk_of {m : MsgD} {q : Bool} (h : msgOk m = q) : chkM m = if q then 0 else 2 := by unfold chkM; rw [h]
theorem bytes_nil (x : ByteArray) (y : Bool) (h : (x.toList == []) = y) : decide (x = ⟨#[]⟩) = y := by rw [← nilB]; exact h
theorem zeroTold (w : World) : Sem.run Try.prog (zeroValue 35) w = .ok (.agg tzero.toArray) w := by kernel_rfl
theorem tcells_one {t : ToldD} {u l : Value} {n m : Nat} (hu : ∃ (p : Option Addr) (c : Nat), u = .slice p n c) (hl : ∃ (p : Option Addr) (c : Nat), l = .slice p m c) : ∀ v ∈ t.cells u l, v.oneCell' = true := by
  obtain ⟨p, c, rfl⟩ := hu
  obtain ⟨p', c', rfl⟩ := hl
  intro v hv
  simp only [ToldD.cells, List.mem_cons, List.mem_nil_iff, or_false] at hv
  rcases hv with rfl | rfl | rfl | rfl | rfl | rfl | rfl | rfl | rfl | rfl | rfl | rfl | rfl <;> rfl
theorem ToldD.askAt (t : ToldD) (u l : Value) : t.cells u l = [] ++ [.int .i64 t.askE, .int .i64 t.askL] ++ (t.cells u l).drop 2 := rfl
theorem ToldD.hereAt (t : ToldD) (u l : Value) : t.cells u l = (t.cells u l).take 5 ++ t.here.cells ++ (t.cells u l).drop 7 := rfl
theorem ToldD.aheadAt (t : ToldD) (u l : Value) : t.cells u l = (t.cells u l).take 7 ++ t.ahead.cells ++ (t.cells u l).drop 9 := rfl
set_option maxRecDepth 100000 in
set_option maxHeartbeats 16000000 in
theorem check27_walk (m : MsgD) (u l : Value) (w : World) (hu : PRow w u m.told.up) (hl : PRow w l m.told.left) (ht : MsgTame m) :
    Calls Try.prog 19 #[m.v u l] w fun e w' => e = .returned (.int .i64 (chkM m)) ∧ Below w.heap.size w w' := by
  go_enter Try.func19, Try.ntmps19
  go_wp2_with ((with_reducible refine wpList_box_new 39 (.tmp 0) (m.cells u l) (some 1) ?hgd ?ho ?hd ?hx ?_); (case hgd => rfl); (case ho => rfl); (case hd => rfl); (case hx => rfl); (intro b w0 l0 B0 e0 z0))
  have hb0 : Below w.heap.size w w0 := e0.mono l0
  refine (says_walk b m u l _ B0 (hu.below hb0 (Nat.le_refl _)) (hl.below hb0 (Nat.le_refl _)) ht).mono ?_
  rintro e w1 ⟨rfl, u', l', B1, T1, hsu, hsl⟩
  have HB1 : Below w.heap.size w w1 := T1.below hb0 (fun x hx => by simp only [List.mem_cons, List.mem_nil_iff, or_false] at hx; omega) hb0.size
  clear T1 B0 e0 z0 hb0 hu hl
  cases hs : saysOk m with
  | false =>
    have HC := Lib.hid (show chkM m = 2 by unfold chkM msgOk; rw [hs]; rfl)
    clear hs
    go_wp2_with fail
    go_ret
    exact ⟨by rw [HC.out]; rfl, HB1⟩
  | true =>
    obtain ⟨nu, hnu⟩ : ∃ n, n = (wipe m).told.up.length := ⟨_, rfl⟩
    obtain ⟨nl, hnl⟩ : ∃ n, n = (wipe m).told.left.length := ⟨_, rfl⟩
    have hul : nu ≤ 1048576 := by
      rw [hnu]; have := ht.up; unfold wipe; simp only; split
      · exact Nat.zero_le _
      · exact this
    have hll : nl ≤ 1048576 := by
      rw [hnl]; have := ht.left; unfold wipe; simp only; split
      · exact Nat.zero_le _
      · exact this
    rw [← hnu] at hsu
    rw [← hnl] at hsl
    obtain ⟨pu, cu, hu1⟩ := hsu
    obtain ⟨pl, cl, hl1⟩ := hsl
    have hsu : ∃ (p : Option Addr) (c : Nat), u' = .slice p nu c := ⟨pu, cu, hu1⟩
    have hsl : ∃ (p : Option Addr) (c : Nat), l' = .slice p nl c := ⟨pl, cl, hl1⟩
    have HSU := Lib.hid hu1; have HSL := Lib.hid hl1
    have hwr : wrap64 ((nu : Int) + (nl : Int)) = (nu : Int) + (nl : Int) := IntWalk.wrap64_in _ ⟨by omega, by omega⟩
    clear hu1 hl1
    have j0 := B1.cell (i := 0) rfl
    have j3 := B1.cell (i := 3) rfl
    have j4 := B1.cell (i := 4) rfl
    have kk : (wipe m).kind = m.kind := rfl
    have kn : (wipe m).nonce = m.nonce := rfl
    have kt : (wipe m).tag = m.tag := rfl
    rw [kk] at j0
    rw [kn] at j3
    rw [kt] at j4
    clear kk kn kt
    have HM := Lib.hid (show msgOk m = (((decide (m.kind = 10) || decide (m.nonce.size = 32)) && (!taggedB m.kind || decide (m.tag.size = 32))) && restZ (strip m)) by unfold msgOk; rw [hs, bareM_strip, Bool.true_and])
    clear hs
    have HBB := Lib.hid B1
    clear ht
    obtain ⟨q3, hq3⟩ : ∃ q, q = ((m.kind != 10 && !decide (m.nonce.size = 32)) || (taggedB m.kind && !decide (m.tag.size = 32))) := ⟨_, rfl⟩
    have HM2 := Lib.hid (show msgOk m = (!q3 && restZ (strip m)) by
      rw [HM.out, hq3]
      cases taggedB m.kind <;> by_cases h1 : m.kind = 10 <;> by_cases h2 : m.nonce.size = 32 <;> by_cases h3 : m.tag.size = 32 <;> simp [h1, h2, h3])
    have HQ3 := Lib.hid hq3
    have HNUx := Lib.hid hnu; have HNLx := Lib.hid hnl
    clear HM hq3 B1 hnu hnl
    go_upto_region 3 with fail
    go_cut [28] from 7 to 28 (fun v wc => v = .bool q3 ∧ Blk wc b ((wipe m).cells u' l') 39 ∧ Below w.heap.size w wc)
    case first =>
      by_cases k10 : m.kind = 10
      · rw [k10] at j0
        go_wp2_with (first
          | (go_at_call 18; refine (tagged_walk _ _).mono ?_; rintro et wt ⟨rfl, rfl⟩; rw [show taggedB 10 = false from rfl])
          | fail)
        all_goals go_meet
        exact ⟨congrArg Value.bool (by rw [HQ3.out, k10]; simp [taggedB]), HBB.out, HB1⟩
      · have kne : (m.kind != 10) = true := by simpa using k10
        by_cases hn : m.nonce.size = 32
        rotate_left
        · go_wp2_with (first
            | ((with_reducible refine wpList_slice_met 30 9 1 ?parts13 [.string m.nonce] (.string ⟨#[]⟩) 1 16 (some 13) Try.underlying30 infoStr27 (by omega) (by omega) ?hgd ?ho ?hd ?hf ?_); (case hgd => rfl); (case ho => rfl); (case hd => rfl); (case hf => kernel_rfl); (intro g2 w2 l2 B2 e2 z2))
            | (go_at_call 33; refine (wide27_walk _ [m.nonce] _ (strRow_one B2) (by simp)).mono ?_; rintro ew ww ⟨rfl, rfl⟩; rw [all32_one, decide_eq_false hn])
            | fail)
          all_goals go_meet
          exact ⟨congrArg Value.bool (by rw [HQ3.out, kne, decide_eq_false hn]; rfl), HBB.out.below e2 (Nat.lt_of_lt_of_le HBB.out.lt l2), HB1.trans (e2.mono (Nat.le_trans HB1.size l2))⟩
        · cases htg : taggedB m.kind with
          | false =>
            go_wp2_with (first
              | ((with_reducible refine wpList_slice_met 30 9 1 ?parts13 [.string m.nonce] (.string ⟨#[]⟩) 1 16 (some 13) Try.underlying30 infoStr27 (by omega) (by omega) ?hgd ?ho ?hd ?hf ?_); (case hgd => rfl); (case ho => rfl); (case hd => rfl); (case hf => kernel_rfl); (intro g2 w2 l2 B2 e2 z2); have B3 := HBB.out.below e2 (Nat.lt_of_lt_of_le HBB.out.lt l2); have HB3 := HB1.trans (e2.mono (Nat.le_trans HB1.size l2)); have i0 := B3.cell (i := 0) rfl; replace i0 : w2.cell? ⟨b, 0, none⟩ = some (.int .i64 m.kind) := i0)
              | (go_at_call 33; refine (wide27_walk _ [m.nonce] _ (strRow_one B2) (by simp)).mono ?_; rintro ew ww ⟨rfl, rfl⟩; rw [all32_one, decide_eq_true hn])
              | (go_at_call 18; refine (tagged_walk _ _).mono ?_; rintro et wt ⟨rfl, rfl⟩; rw [htg])
              | fail)
            all_goals go_meet
            exact ⟨congrArg Value.bool (by rw [HQ3.out, decide_eq_true hn, htg]; simp), B3, HB3⟩
          | true =>
            go_wp2_with (first
              | (have _ := B2; ((with_reducible refine wpList_slice_met 30 9 1 ?parts24 [.string m.tag] (.string ⟨#[]⟩) 1 16 (some 24) Try.underlying30 infoStr27 (by omega) (by omega) ?hgd ?ho ?hd ?hf ?_); (case hgd => rfl); (case ho => rfl); (case hd => rfl); (case hf => kernel_rfl); (intro g4 w4 l4 B4 e4 z4); have wide2 := trivial; have B5 := B3.below e4 (Nat.lt_of_lt_of_le B3.lt l4); have HB5 := HB3.trans (e4.mono (Nat.le_trans HB3.size l4))))
              | ((with_reducible refine wpList_slice_met 30 9 1 ?parts13 [.string m.nonce] (.string ⟨#[]⟩) 1 16 (some 13) Try.underlying30 infoStr27 (by omega) (by omega) ?hgd ?ho ?hd ?hf ?_); (case hgd => rfl); (case ho => rfl); (case hd => rfl); (case hf => kernel_rfl); (intro g2 w2 l2 B2 e2 z2); have B3 := HBB.out.below e2 (Nat.lt_of_lt_of_le HBB.out.lt l2); have HB3 := HB1.trans (e2.mono (Nat.le_trans HB1.size l2)); have i0 := B3.cell (i := 0) rfl; replace i0 : w2.cell? ⟨b, 0, none⟩ = some (.int .i64 m.kind) := i0; have i4 := B3.cell (i := 4) rfl; replace i4 : w2.cell? ⟨b, 4, none⟩ = some (.string m.tag) := i4)
              | (have _ := wide2; go_at_call 33; refine (wide27_walk _ [m.tag] _ (strRow_one B4) (by simp)).mono ?_; rintro ew ww ⟨rfl, rfl⟩; rw [all32_one])
              | (go_at_call 33; refine (wide27_walk _ [m.nonce] _ (strRow_one B2) (by simp)).mono ?_; rintro ew ww ⟨rfl, rfl⟩; rw [all32_one, decide_eq_true hn])
              | (go_at_call 18; refine (tagged_walk _ _).mono ?_; rintro et wt ⟨rfl, rfl⟩; rw [htg])
              | fail)
            all_goals go_meet
            exact ⟨congrArg Value.bool (by rw [HQ3.out, decide_eq_true hn, htg]; simp), B5, HB5⟩
    case rest =>
      obtain ⟨rfl, BX, HBX⟩ := hcut
      clear HBB HB1 j0 j3 j4
      have j0 := BX.cell (i := 0) rfl
      replace j0 : wc.cell? ⟨b, 0, none⟩ = some (.int .i64 m.kind) := j0
      cases q3 with
      | true =>
        have HC := Lib.hid (show chkM m = 2 from chk_of (q := false) (by rw [HM2.out]; rfl))
        go_wp2_with fail
        go_ret
        exact ⟨by rw [HC.out]; rfl, HBX⟩
      | false =>
        have HCH : Hid (chkM m = if restZ (strip m) then 0 else 2) := Lib.hid (chk_of (by rw [HM2.out]; rfl))
        clear HM2 HQ3
        go_upto_if 31 with fail
        go_cut [] from 29 to 32 (fun wd => Blk wd b (({ wipe m with nonce := if m.kind = 10 then m.nonce else ⟨#[]⟩ } : MsgD).cells u' l') 39 ∧ Below w.heap.size w wd)
        case first =>
          by_cases k10 : m.kind = 10
          · have kne : (m.kind != 10) = false := by simpa using k10
            go_wp2_with fail
            all_goals go_meet
            refine ⟨?_, HBX⟩
            rw [if_pos k10]
            exact BX
          · have kne : (m.kind != 10) = true := by simpa using k10
            go_wp2_with (first
              | ((with_reducible refine wpList_store_at 9 (.tmp 32) (.const (.string ⟨#[]⟩)) b 3 (.string ⟨#[]⟩) _ _ BX (Nat.le_of_ble_eq_true rfl) (by kernel_rfl) rfl ?hgd ?ho ?hx ?hy ?_); (case hgd => rfl); (case ho => rfl); (case hx => rfl); (case hy => rfl); (intro w4 B4 o4))
              | fail)
            all_goals go_meet
            refine ⟨?_, o4.below HBX l0⟩
            rw [if_neg k10]
            exact B4
        case rest =>
          obtain ⟨BY1, HBY1⟩ := hcut
          clear BX HBX j0
          have j0 := BY1.cell (i := 0) rfl
          replace j0 : wc.cell? ⟨b, 0, none⟩ = some (.int .i64 m.kind) := j0
          go_upto_if 35 with ((go_at_call 18; refine (tagged_walk _ _).mono ?_; rintro et wt ⟨rfl, rfl⟩))
          go_cut [] from 33 to 36 (fun we => Blk we b ((strip m).cells u' l') 39 ∧ Below w.heap.size w we)
          case first =>
            cases htg : taggedB m.kind with
            | false =>
              go_wp2_with fail
              all_goals go_meet
              refine ⟨?_, HBY1⟩
              unfold strip
              rw [htg]
              exact BY1
            | true =>
              go_wp2_with (first
                | ((with_reducible refine wpList_store_at 9 (.tmp 36) (.const (.string ⟨#[]⟩)) b 4 (.string ⟨#[]⟩) _ _ BY1 (Nat.le_of_ble_eq_true rfl) (by kernel_rfl) rfl ?hgd ?ho ?hx ?hy ?_); (case hgd => rfl); (case ho => rfl); (case hx => rfl); (case hy => rfl); (intro w4 B4 o4))
                | fail)
              all_goals go_meet
              refine ⟨?_, o4.below HBY1 l0⟩
              unfold strip
              rw [htg]
              exact B4
          case rest =>
            obtain ⟨BY0, HBY⟩ := hcut
            clear BY1 HBY1 j0
            obtain ⟨y, hyy⟩ : ∃ y, y = strip m := ⟨_, rfl⟩
            have BY : Blk wc b (y.cells u' l') 39 := by rw [hyy]; exact BY0
            have HNU : Hid (nu = y.told.up.length) := Lib.hid (by rw [hyy]; exact HNUx.out)
            have HNL : Hid (nl = y.told.left.length) := Lib.hid (by rw [hyy]; exact HNLx.out)
            have HCHK : Hid (chkM m = if restZ y then 0 else 2) := Lib.hid (by rw [hyy]; exact HCH.out)
            clear BY0 hyy HCH
            go_upto_region 9 with fail
            go_cut [3] from 37 to 38 (fun v wd => ∃ p, v = .pointer (some ⟨p, 0, none⟩) ∧ Blk wd p (y.told.cells u' l') 35 ∧ Blk wd b (y.cells u' l') 39 ∧ Below w.heap.size w wd)
            case first =>
              go_wp2_with (first
                | ((with_reducible refine wpList_load_met 35 (.tmp 37) b 17 (y.told.cells u' l') _ (some 38) ((BY.ext (y.toldAt u' l')).part (off := 17) rfl) Try.underlying35 rfl rsizeTold' ?hg ?ho ?hds ?hx ?_); (case hg => rfl); (case ho => rfl); (case hds => rfl); (case hx => rfl))
                | ((with_reducible refine wpList_alloc_new 35 tzero zeroTold (some 3) ?hgd ?ho ?hd ?_); (case hgd => rfl); (case ho => rfl); (case hd => rfl); (intro p w7 l7 B7 e7 z7; have BB7 := BY.below e7 (Nat.lt_of_lt_of_le BY.lt l7)))
                | ((with_reducible refine wpList_store_new 35 (.tmp 3) (.tmp 38) p tzero (y.told.cells u' l') 35 B7 rfl rsizeTold' (tcells_one hsu hsl) ?hgd ?ho ?hx ?hy ?_); (case hgd => rfl); (case ho => rfl); (case hx => rfl); (case hy => rfl); (intro w8 B8 o8; have BB8 := o8.blk BB7 (by have := BY.lt; omega); have HB8 : Below w.heap.size w w8 := o8.below (HBY.trans (e7.mono (Nat.le_trans HBY.size l7))) (Nat.le_trans HBY.size l7); have t0 := B8.cell (i := 0) rfl; have t1 := B8.cell (i := 1) rfl; have t2 := B8.cell (i := 2) rfl; have t3 := B8.cell (i := 3) rfl; have t4 := B8.cell (i := 4) rfl; have t5 := B8.cell (i := 5) rfl; have t6 := B8.cell (i := 6) rfl; have t7 := B8.cell (i := 7) rfl; have t8 := B8.cell (i := 8) rfl; have t9 := B8.cell (i := 9) rfl; have t10 := B8.cell (i := 10) rfl; have t11 := B8.cell (i := 11) rfl; have t12 := B8.cell (i := 12) rfl; rw [HSU.out] at t9; rw [HSL.out] at t10; have k0 := BB8.cell (i := 0) rfl; have k1 := BB8.cell (i := 1) rfl; have k2 := BB8.cell (i := 2) rfl; have k3 := BB8.cell (i := 3) rfl; have k4 := BB8.cell (i := 4) rfl; have k5 := BB8.cell (i := 5) rfl; have k6 := BB8.cell (i := 6) rfl; have k7 := BB8.cell (i := 7) rfl))
                | fail)
              all_goals go_meet
              exact ⟨p, rfl, B8, BB8, HB8⟩
            case rest =>
            obtain ⟨p, rfl, B8, BB8, HB8⟩ := hcut
            obtain ⟨w8, hw8⟩ : ∃ W, W = wc := ⟨_, rfl⟩
            rw [← hw8] at B8 BB8 HB8 ⊢
            clear hw8
            have t0 := B8.cell (i := 0) rfl
            have t1 := B8.cell (i := 1) rfl
            have t2 := B8.cell (i := 2) rfl
            have t3 := B8.cell (i := 3) rfl
            have t4 := B8.cell (i := 4) rfl
            have t5 := B8.cell (i := 5) rfl
            have t6 := B8.cell (i := 6) rfl
            have t7 := B8.cell (i := 7) rfl
            have t8 := B8.cell (i := 8) rfl
            have t9 := B8.cell (i := 9) rfl
            have t10 := B8.cell (i := 10) rfl
            have t11 := B8.cell (i := 11) rfl
            have t12 := B8.cell (i := 12) rfl
            rw [HSU.out] at t9
            rw [HSL.out] at t10
            have k0 := BB8.cell (i := 0) rfl
            have k1 := BB8.cell (i := 1) rfl
            have k2 := BB8.cell (i := 2) rfl
            have k3 := BB8.cell (i := 3) rfl
            have k4 := BB8.cell (i := 4) rfl
            have k5 := BB8.cell (i := 5) rfl
            have k6 := BB8.cell (i := 6) rfl
            have k7 := BB8.cell (i := 7) rfl
            clear BY HBY
            go_upto_region 10 with fail
            go_cut [4] from 39 to 95 (fun v wf => v = .bool (toldZ y.told) ∧ wf = w8)
            case first =>
              go_wp2_with (first
                | ((with_reducible refine wpList_load_met 23 (.tmp 39) p 0 [.int .i64 y.told.askE, .int .i64 y.told.askL] _ (some 40) ((B8.ext (y.told.askAt u' l')).part (off := 0) rfl) Try.underlying23 rfl rsizeAsk ?hg ?ho ?hds ?hx ?_); (case hg => rfl); (case ho => rfl); (case hds => rfl); (case hx => rfl))
                | ((with_reducible refine wpList_eq_agg 23 23 (.tmp 40) (.tmp 41) #[.int .i64 y.told.askE, .int .i64 y.told.askL] #[.int .i64 0, .int .i64 0] _ (some 42) guardAsk (eqAsk y.told.askE y.told.askL 0 0 _) ?hgd ?ho ?hd ?hx ?hy ?_); (case hgd => rfl); (case ho => rfl); (case hd => rfl); (case hx => rfl); (case hy => rfl))
                | ((with_reducible refine wpList_load_met 29 (.tmp 72) p 5 y.told.here.cells _ (some 73) ((B8.ext (y.told.hereAt u' l')).part (off := 5) rfl) Try.underlying29 rfl rsizeLeaf ?hg ?ho ?hds ?hx ?_); (case hg => rfl); (case ho => rfl); (case hds => rfl); (case hx => rfl))
                | ((with_reducible refine wpList_eq_agg 29 29 (.tmp 73) (.tmp 74) y.told.here.cells.toArray LeafD.zero.cells.toArray _ (some 75) guardLeaf (eqLeaf y.told.here LeafD.zero _) ?hgd ?ho ?hd ?hx ?hy ?_); (case hgd => rfl); (case ho => rfl); (case hd => rfl); (case hx => rfl); (case hy => rfl))
                | ((with_reducible refine wpList_load_met 29 (.tmp 79) p 7 y.told.ahead.cells _ (some 80) ((B8.ext (y.told.aheadAt u' l')).part (off := 7) rfl) Try.underlying29 rfl rsizeLeaf ?hg ?ho ?hds ?hx ?_); (case hg => rfl); (case ho => rfl); (case hds => rfl); (case hx => rfl))
                | ((with_reducible refine wpList_eq_agg 29 29 (.tmp 80) (.tmp 81) y.told.ahead.cells.toArray LeafD.zero.cells.toArray _ (some 82) guardLeaf (eqLeaf y.told.ahead LeafD.zero _) ?hgd ?ho ?hd ?hx ?hy ?_); (case hgd => rfl); (case ho => rfl); (case hd => rfl); (case hx => rfl); (case hy => rfl))
                | fail)
              all_goals go_meet
              all_goals refine ⟨congrArg Value.bool ?_, rfl⟩
              all_goals (simp only [toldZ, ← nilB, ← HNU.out, ← HNL.out]; simp [*]; try first | omega | (intros; omega) | (rw [Bool.eq_iff_iff]; simp; omega))
            case rest =>
              obtain ⟨rfl, rfl⟩ := hcut
              clear t0 t1 t2 t3 t4 t5 t6 t7 t8 t9 t10 t11 t12 hwr HSU HSL
              cases hz : toldZ y.told with
              | false =>
                have HC := Lib.hid (show chkM m = 2 by rw [HCHK.out]; unfold restZ; rw [hz]; rfl)
                go_wp2_with fail
                all_goals go_ret
                exact ⟨ret_i27 (by rw [HC.out]), HB8⟩
              | true =>
                have HC := Lib.hid (show chkM m = if (decide (y.epoch = 0) && decide (y.seq = 0) && decide (y.nonce = ⟨#[]⟩) && decide (y.tag = ⟨#[]⟩) && decide (y.last = ⟨#[]⟩) && decide (y.askE = 0 ∧ y.askL = 0) && decide (y.sld = Sld.zero) && decide (y.rcp = Rcp.zero)) = true then 0 else 2 by rw [HCHK.out]; unfold restZ; rw [hz, Bool.true_and])
                go_wp2_with (first
                  | ((with_reducible refine wpList_load_met 23 (.tmp 124) b 6 [.int .i64 y.askE, .int .i64 y.askL] _ (some 125) ((BB8.ext (y.askAt u' l')).part (off := 6) rfl) Try.underlying23 rfl rsizeAsk ?hg ?ho ?hds ?hx ?_); (case hg => rfl); (case ho => rfl); (case hds => rfl); (case hx => rfl))
                  | ((with_reducible refine wpList_neq_agg 23 23 (.tmp 125) (.tmp 126) #[.int .i64 y.askE, .int .i64 y.askL] #[.int .i64 0, .int .i64 0] _ (some 127) guardAsk (eqAsk y.askE y.askL 0 0 _) ?hgd ?ho ?hd ?hx ?hy ?_); (case hgd => rfl); (case ho => rfl); (case hd => rfl); (case hx => rfl); (case hy => rfl))
                  | ((with_reducible refine wpList_load_met 27 (.tmp 130) b 8 y.sld.cells _ (some 131) ((BB8.ext (y.sldAt u' l')).part (off := 8) rfl) Try.underlying27 rfl rsizeSld' ?hg ?ho ?hds ?hx ?_); (case hg => rfl); (case ho => rfl); (case hds => rfl); (case hx => rfl))
                  | ((with_reducible refine wpList_neq_agg 27 27 (.tmp 131) (.tmp 132) y.sld.cells.toArray Sld.zero.cells.toArray _ (some 133) guardSld (eqSld y.sld Sld.zero _) ?hgd ?ho ?hd ?hx ?hy ?_); (case hgd => rfl); (case ho => rfl); (case hd => rfl); (case hx => rfl); (case hy => rfl))
                  | ((with_reducible refine wpList_load_met 37 (.tmp 136) b 30 y.rcp.cells _ (some 137) ((BB8.ext (y.rcpAt u' l')).part (off := 30) rfl) Try.underlying37 rfl rsizeRcp ?hg ?ho ?hds ?hx ?_); (case hg => rfl); (case ho => rfl); (case hds => rfl); (case hx => rfl))
                  | ((with_reducible refine wpList_neq_agg 37 37 (.tmp 137) (.tmp 138) y.rcp.cells.toArray Rcp.zero.cells.toArray _ (some 139) guardRcp (eqRcp y.rcp Rcp.zero _) ?hgd ?ho ?hd ?hx ?hy ?_); (case hgd => rfl); (case ho => rfl); (case hd => rfl); (case hx => rfl); (case hy => rfl))
                  | fail)
                all_goals go_ret
                all_goals refine ⟨ret_i27 ?_, HB8⟩
                all_goals (rw [HC.out]; simp only [← nilB]; simp [*]; try simp_all)
end Go.Proofs.Ytkdplgcffdaoaaa
