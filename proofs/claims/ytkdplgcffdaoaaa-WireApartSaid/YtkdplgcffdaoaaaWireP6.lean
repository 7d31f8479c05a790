/- Walk of wire's part: path, both ways (chapter 27). -/
import Derived.Test.YtkdplgcffdaoaaaWireP5
namespace Go.Proofs.Ytkdplgcffdaoaaa
set_option linter.unusedSimpArgs false
set_option linter.unusedVariables false
open Go Go.RowKit
set_option linter.unusedVariables false

theorem infoStr27 : (Try.prog.info? 9).map (fun i => (i.zero, i.size, i.bytes)) = some (some (.string ⟨#[]⟩), 1, 16) := by kernel_rfl
theorem flat_snoc (xs : List ByteArray) (k : Nat) (x : ByteArray) (h : xs[k]? = some x) : ((xs.take (k + 1)).map (·.data.toList)).flatten = ((xs.take k).map (·.data.toList)).flatten ++ x.data.toList := by
  obtain ⟨hk, rfl⟩ := List.getElem?_eq_some_iff.1 h
  rw [List.take_succ_eq_append_getElem hk]
  simp only [List.map_append, List.map_cons, List.map_nil, List.flatten_append, List.flatten_cons, List.flatten_nil, List.append_nil]
theorem flat_len (xs : List ByteArray) (hx : ∀ x ∈ xs, x.size ≤ 32) : ∀ k, ((xs.take k).map (·.data.toList)).flatten.length ≤ 32 * xs.length := by
  intro k
  have : ∀ l : List ByteArray, (∀ x ∈ l, x.size ≤ 32) → (l.map (·.data.toList)).flatten.length ≤ 32 * l.length := by
    intro l
    induction l with
    | nil => intro _; simp
    | cons a l ih =>
      intro h
      have h1 := ih (fun x hx => h x (by simp [hx]))
      have h2 : a.data.toList.length ≤ 32 := h a (by simp)
      simp only [List.map_cons, List.flatten_cons, List.length_append, List.length_cons]
      omega
  have h1 := this (xs.take k) (fun x h => hx x (List.mem_of_mem_take h))
  rw [List.length_take] at h1
  omega
set_option maxHeartbeats 2000000 in
/-- 'path' that writes. -/
theorem path_w (q : Nat) (s : ByteArray) (br : Bool) (b i : Nat) (v : Value) (xs : List ByteArray) (cs : List Value) (t : TypeId) (w : World) (hp : PartAt w q s false br) (hb : Blk w b cs t) (hi : cs[i]? = some v) (hbq : b ≠ q) (hr : PathIn [q] w v xs)
    (hl : xs.length ≤ 12) (hx : ∀ x ∈ xs, x.size ≤ 32) (hs : s.size ≤ 1040000) :
    Calls Try.prog 76 #[.pointer (some ⟨q, 0, none⟩), .pointer (some ⟨b, i, none⟩)] w fun e w' =>
      e = .returned (.tuple #[]) ∧ ∃ s', Txt s' (s.data.toList ++ pathL xs) ∧ PartAt w' q s' false br ∧ Turned [q] w w' := by
  have HP := Lib.hid hp; have HBL := Lib.hid hb; have HX := Lib.hid hx; have HR := Lib.hid hr
  obtain ⟨n, hn⟩ : ∃ n, n = xs.length := ⟨_, rfl⟩
  have hn12 : n ≤ 12 := by omega
  obtain ⟨pp, cc, hv⟩ := hr.shape
  rw [← hn] at hv
  have HN := Lib.hid hn; have HV := Lib.hid hv
  have HI := Lib.hid (show cs[i]? = some (.slice pp n cc) by rw [hi, hv])
  have c0 := hb.cell (i := i) HI.out
  have hlen : s.data.toList.length = s.size := rfl
  have HLEN := Lib.hid hlen
  clear hp hb hx hr hn hv hi hl hlen
  go_enter Try.func76, Try.ntmps76
  go_wp2_with (first
    | ((with_reducible refine wpList_alloc_one 3 (.int .i64 0) (by intro w; kernel_rfl) rfl (some 4) ?hgd ?ho ?hd ?_); (case hgd => rfl); (case ho => rfl); (case hd => rfl); (intro b2 w2 l2 B2 e2 z2))
    | ((with_reducible refine wpList_store_at 3 (.tmp 4) (.tmp 9) b2 0 (.int .i64 (n : Int)) _ _ B2 (by simp) (by kernel_rfl) rfl ?hgd ?ho ?hx ?hy ?_); (case hgd => rfl); (case ho => rfl); (case hx => rfl); (case hy => rfl); (intro w3 B3 o3))
    | fail)
  have BB := Lib.hid (o3.blk (HBL.out.below e2 (Nat.lt_of_lt_of_le HBL.out.lt l2)) (by have := HBL.out.lt; omega))
  have PP : Hid (PartAt w3 q s false br) := Lib.hid (o3.blk (HP.out.below e2 (Nat.lt_of_lt_of_le HP.out.lt l2)) (by have := HP.out.lt; omega))
  have T0 : Hid (Turned [q] w w3) := Lib.hid ⟨by rw [o3.os, e2.os], by rw [o3.tape, e2.tape], by rw [o3.output, e2.output], by rw [o3.size]; exact e2.size, fun k hk hn => by rw [o3.block k (by omega), e2.block k (by omega)]⟩
  have hnc : w3.cell? ⟨b2, 0, none⟩ = some (.int .i64 (n : Int)) := B3.cell rfl
  clear B2 B3 o3 e2 z2 l2 c0
  refine (number_w q s br b2 0 n 1 _ PP.out hnc (by omega) (by omega) (by omega) (fun _ => by omega) (by omega)).mono ?_
  rintro e w5 ⟨rfl, p1, tp1, hp1, hk1⟩
  have B5 := Lib.hid (hk1.blk BB.out hbq)
  have T5 := Lib.hid (T0.out.trans (Turned.of_kept hk1 (by simp)))
  have HP1 := Lib.hid hp1; have TP1 := Lib.hid tp1
  have c1 := HP1.out.c1
  have c5 := B5.out.cell (i := i) HI.out
  have hw5 : b < w5.heap.size := B5.out.lt
  clear hnc hk1 hp1 tp1 PP BB T0
  go_wp2_with fail
  clear c1 c5
  go_loopw [24] (fun vi wr => ∃ (k : Nat) (s' : ByteArray), k ≤ n ∧ vi = .int .i64 k ∧ Txt s' (s.data.toList ++ beBytes 1 n ++ ((xs.take k).map (·.data.toList)).flatten) ∧ PartAt wr q s' false br ∧ Turned [q] w5 wr) (fun vi _ => n - (intOf vi).toNat)
  case atStart => exact ⟨0, p1, by omega, rfl, by simpa using TP1.out, HP1.out, Turned.refl _ _⟩
  case round =>
    obtain ⟨k, s', hk, rfl, ts', hp', ht'⟩ := hrel
    have TS := Lib.hid ts'; have HPR := Lib.hid hp'; have HTR := Lib.hid ht'
    have hsz : s'.size ≤ 1048576 := by
      rw [ts'.size, List.length_append, List.length_append, beBytes_length]
      have := flat_len xs HX.out k
      have := HN.out
      have := HLEN.out
      omega
    clear ts' hp' ht'
    by_cases hlt : k < n
    · have hlt' : (k : Int) < n := by omega
      have h00 : (0 : Int) ≤ (k : Int) := by omega
      obtain ⟨x, hx⟩ : ∃ x, xs[k]? = some x := ⟨_, List.getElem?_eq_getElem (by rw [← HN.out]; exact hlt)⟩
      have HXK := Lib.hid hx
      have hxs : x.size ≤ 1048576 := Nat.le_trans (HX.out x (List.mem_of_getElem? hx)) (by omega)
      have hrow := HR.out.turned (T5.out.trans HTR.out)
      obtain ⟨g, go, hpp, hgq, hgc⟩ : ∃ g go, pp = some ⟨g, go, none⟩ ∧ g ≠ q ∧ wr.cell? ⟨g, go + k, none⟩ = some (.string x) := by
        rcases hrow with ⟨h2, _⟩ | ⟨g, go, c, h1, h2, hS, h3⟩
        · have := HN.out; rw [h2] at this; simp at this; omega
        · have h4 := HV.out
          rw [h1, ← HN.out] at h4
          injection h4 with h4 _ _
          exact ⟨g, go, h4.symm, by simpa using hS, h3 k x hx⟩
      subst hpp
      have cb := (HTR.out.blk B5.out (by simpa using hbq)).cell (i := i) HI.out
      clear hx hrow
      go_wp2_with fail
      refine (wide_w q s' br g (go + k) x _ HPR.out hgc hsz hxs).mono ?_
      rintro e w6 ⟨rfl, hp6, hk6⟩
      have HP6 := Lib.hid hp6; have T6 := Lib.hid (HTR.out.trans (Turned.of_kept hk6 (by simp)))
      clear hp6 hk6 cb hgc
      go_wp2_with fail
      go_roundw
      case rel =>
        refine ⟨k + 1, s' ++ x, by omega, by go_num, ?_, HP6.out, T6.out⟩
        rw [flat_snoc xs k x HXK.out]
        exact (TS.out.append (Txt.self x)).cast (by simp)
      case measure => simp [intOf]; omega
    · obtain rfl : k = n := by omega
      go_wp2_with fail
      first | go_end0 | ((try simp only [Exit.inBlock, Exit.then]); refine bodyPost_ret (results_none rfl _ _ _) rfl ?_)
      refine ⟨rfl, s', TS.out.cast ?_, HPR.out, T5.out.trans HTR.out⟩
      rw [HN.out, List.take_length]
      unfold pathL
      simp
theorem strsF_none {rd : Bool} {xs : List ByteArray} {s : List UInt8} {k n : Nat} (hk : k ≤ n) (h : strsF rd xs s k = none) : strsF rd xs s n = none := by
  induction n with
  | zero => obtain rfl : k = 0 := by omega
            exact h
  | succ n ih =>
    by_cases e : k = n + 1
    · subst e; exact h
    · simp only [strsF, ih (by omega)]
def strsB (d : List ByteArray) : List Value := d.map Value.string
theorem strsB_set (d : List ByteArray) (n k : Nat) (y : ByteArray) (hd : d.length = k) (hk : k < n) :
    (strsB d ++ List.replicate (n - k) (Value.string ⟨#[]⟩)).set k (.string y) = strsB (d ++ [y]) ++ List.replicate (n - (k + 1)) (Value.string ⟨#[]⟩) := by
  obtain ⟨m, hm⟩ : ∃ m, n - k = m + 1 := ⟨n - k - 1, by omega⟩
  have e : n - (k + 1) = m := by omega
  have hl : (strsB d).length = k := by simp [strsB, hd]
  rw [hm, e, List.set_append_right _ _ (by omega), hl, Nat.sub_self, List.replicate_succ, List.set_cons_zero]
  simp [strsB]
/-- How a path ends. -/
def EndsP (w : World) (q b : Nat) (rd br : Bool) (n : Nat) (t : TypeId) (r : Option (List ByteArray × List UInt8)) (cs' : Value → List Value) (e : Ending) (w' : World) : Prop :=
  match r with
  | none => e = .panicked shortP ∧ Bad w w' q b n t
  | some (ys, s') => e = .returned (.tuple #[]) ∧ ∃ v', Done w w' q b rd br s' (cs' v') t ∧ PathIn [q, b] w' v' ys
set_option maxHeartbeats 2000000 in
/-- 'path' that reads. -/
theorem path_r (q : Nat) (s : ByteArray) (br : Bool) (b i : Nat) (cs : List Value) (t : TypeId) (w : World) (hp : PartAt w q s true br) (hb : Blk w b cs t) (hi : cs[i]? = some (.slice none 0 0)) (hbq : b ≠ q) (hs : s.size ≤ 1040000) :
    Calls Try.prog 76 #[.pointer (some ⟨q, 0, none⟩), .pointer (some ⟨b, i, none⟩)] w
      (EndsP w q b true br cs.length t (pathF true [] s.data.toList) (fun v => cs.set i v)) := by
  have HP := Lib.hid hp; have HBL := Lib.hid hb; have HI := Lib.hid hi
  have hil : i < cs.length := (List.getElem?_eq_some_iff.1 hi).1
  have c0 := hb.cell (i := i) hi
  have hlen : s.data.toList.length = s.size := rfl
  have HLEN := Lib.hid hlen
  clear hp hb hi hlen
  go_enter Try.func76, Try.ntmps76
  go_wp2_with (first
    | ((with_reducible refine wpList_alloc_one 3 (.int .i64 0) (by intro w; kernel_rfl) rfl (some 4) ?hgd ?ho ?hd ?_); (case hgd => rfl); (case ho => rfl); (case hd => rfl); (intro b2 w2 l2 B2 e2 z2))
    | ((with_reducible refine wpList_store_at 3 (.tmp 4) (.tmp 9) b2 0 (.int .i64 0) _ _ B2 (by simp) (by kernel_rfl) rfl ?hgd ?ho ?hx ?hy ?_); (case hgd => rfl); (case ho => rfl); (case hx => rfl); (case hy => rfl); (intro w3 B3 o3))
    | fail)
  have BB := Lib.hid (o3.blk (HBL.out.below e2 (Nat.lt_of_lt_of_le HBL.out.lt l2)) (by have := HBL.out.lt; omega))
  have PP : Hid (PartAt w3 q s true br) := Lib.hid (o3.blk (HP.out.below e2 (Nat.lt_of_lt_of_le HP.out.lt l2)) (by have := HP.out.lt; omega))
  have T0 : Hid (Turned [q, b] w w3) := Lib.hid ⟨by rw [o3.os, e2.os], by rw [o3.tape, e2.tape], by rw [o3.output, e2.output], by rw [o3.size]; exact e2.size, fun k hk hn => by rw [o3.block k (by omega), e2.block k (by omega)]⟩
  have hbq2 : b2 ≠ q := by have := HP.out.lt; omega
  have hbb : b ≠ b2 := by have := HBL.out.lt; omega
  have HN := Lib.hid B3; have hl2 := Lib.hid l2
  clear B2 B3 o3 e2 z2 l2 c0
  refine (number_any q s true br b2 0 1 0 [.int .i64 0] 3 _ PP.out HN.out rfl hbq2 (by omega) (by omega) (fun e => by cases e) (by omega)).mono ?_
  rintro e w5 he
  cases h1 : numF true 1 0 s.data.toList with
  | none =>
    rw [h1] at he
    obtain ⟨rfl, hbad⟩ := he
    have HF := Lib.hid (show pathF true [] s.data.toList = none by unfold pathF; simp [h1])
    have HBAD : Hid (Bad w w5 q b cs.length t) := Lib.hid ⟨⟨cs, rfl, hbad.turned.blk BB.out (by simp; omega)⟩, T0.out.over hbad.turned hl2.out⟩
    clear hbad h1
    go_wp2_with fail
    refine ⟨rfl, ?_⟩
    rw [HF.out]
    exact ⟨rfl, HBAD.out⟩
  | some p =>
    obtain ⟨n', s1⟩ := p
    rw [h1] at he
    obtain ⟨rfl, hd⟩ := he
    have hn1 := numF_one h1 (fun e => by cases e)
    obtain ⟨n, rfl⟩ : ∃ n : Nat, n' = (n : Int) := ⟨n'.toNat, by omega⟩
    have hn : n ≤ 255 := by omega
    have hF : pathF true [] s.data.toList = strsF true (List.replicate n ⟨#[]⟩) s1 n := by
      unfold pathF
      simp only [List.length_nil]
      rw [show numF true 1 ((0 : Nat) : Int) s.data.toList = numF true 1 0 s.data.toList from rfl, h1]
      simp
    obtain ⟨p1, tp1, hp1⟩ := hd.part
    have hs1 : p1.size ≤ 1040002 := by rw [tp1.size]; have := numF_len h1; have := HLEN.out; omega
    have B4 := Lib.hid (hd.turned.blk BB.out (by simp; omega))
    have T4 := Lib.hid (T0.out.over hd.turned hl2.out)
    have HF := Lib.hid hF; have TP1 := Lib.hid tp1; have HP1 := Lib.hid hp1
    have q1 := HP1.out.c1
    have nc : w5.cell? ⟨b2, 0, none⟩ = some (.int .i64 (n : Int)) := hd.blk.cell rfl
    clear hd h1 tp1 hp1 hF hn1 PP BB T0 HN
    go_wp2_with (first
      | ((with_reducible refine wpList_make_strs 31 9 (.tmp 17) (.tmp 17) n (some 18) (n : Int) Try.underlying31 infoStr27 (by omega) rfl ?hgd ?ho ?hd ?hx ?hy ?_); (case hgd => rfl); (case ho => rfl); (case hd => rfl); (case hx => rfl); (case hy => rfl); (intro g w6 l6 B6 e6 z6; have BB6 := B4.out.below e6 (Nat.lt_of_lt_of_le B4.out.lt l6); have cb6 := BB6.cell (i := i) HI.out; have fb6 := BB6.free i))
      | ((with_reducible refine wpList_store_at 31 (.tmp 19) (.tmp 18) b i (.slice (some ⟨g, 0, none⟩) n n) _ _ BB6 hil (by kernel_rfl) rfl ?hgd ?ho ?hx ?hy ?_); (case hgd => rfl); (case ho => rfl); (case hx => rfl); (case hy => rfl); (intro w7 B7 o7; have c7 : w7.cell? ⟨b, i, none⟩ = some (.slice (some ⟨g, 0, none⟩) n n) := (B7.cell (i := i) (by rw [List.getElem?_set_self hil]))))
      | fail)
    have hgb : g ≠ b := by have := B4.out.lt; omega
    have hgq : g ≠ q := by have := HP1.out.lt; omega
    have G7 : Hid (Blk w7 g (strsB [] ++ List.replicate (n - 0) (Value.string ⟨#[]⟩)) 9) := Lib.hid (by simpa [strsB] using o7.blk B6 hgb)
    have P7 : Hid (PartAt w7 q p1 true br) := Lib.hid (o7.blk (HP1.out.below e6 (Nat.lt_of_lt_of_le HP1.out.lt l6)) (fun e => hbq e.symm))
    have T7 : Hid (Turned [q, b] w w7) := Lib.hid ((T4.out.trans (Turned.of_below e6 l6)).trans (o7.turned (by simp)))
    have HB7 := Lib.hid B7
    have gfr : w.heap.size ≤ g := Nat.le_trans T4.out.size l6
    clear B6 B7 o7 e6 l6 z6 BB6 cb6 fb6 B4 T4 HP1 nc q1 c7
    go_loopw [24] (fun vi wr => ∃ (k : Nat) (s' : ByteArray) (d : List ByteArray), k ≤ n ∧ vi = .int .i64 k ∧ strsF true (List.replicate n ⟨#[]⟩) s1 k = some (d, s'.data.toList) ∧ PartAt wr q s' true br ∧ Blk wr g (strsB d ++ List.replicate (n - k) (Value.string ⟨#[]⟩)) 9 ∧ Blk wr b (cs.set i (.slice (some ⟨g, 0, none⟩) n n)) t ∧ Turned [q, b] w wr) (fun vi _ => n - (intOf vi).toNat)
    case atStart => exact ⟨0, p1, [], by omega, rfl, by rw [show p1.data.toList = s1 from TP1.out]; rfl, P7.out, G7.out, HB7.out, T7.out⟩
    case round =>
      clear P7 G7 HB7 T7
      obtain ⟨k, s', d, hk, rfl, hst, hp', hg', hb', ht'⟩ := hrel
      have HST := Lib.hid hst; have HPR := Lib.hid hp'; have HGR := Lib.hid hg'; have HBR := Lib.hid hb'; have HTR := Lib.hid ht'
      have hdl : d.length = k := (strsF_len (fun e => by cases e) k hst).2
      have hsz : s'.size ≤ 1048576 := by
        have := (strsF_len (fun e => by cases e) k hst).1
        have e1 : s'.data.toList.length = s'.size := rfl
        have e2 : p1.data.toList.length = p1.size := rfl
        rw [← show p1.data.toList = s1 from TP1.out] at this
        omega
      have HDL := Lib.hid hdl
      clear hst hp' hg' hb' ht' hdl
      by_cases hlt : k < n
      · have hlt' : (k : Int) < n := by omega
        have h00 : (0 : Int) ≤ (k : Int) := by omega
        have cb := HBR.out.cell (i := i) (by rw [List.getElem?_set_self hil])
        have hgl : k < (strsB d ++ List.replicate (n - k) (Value.string ⟨#[]⟩)).length := by simp [strsB]; have := HDL.out; omega
        go_wp2_with fail
        refine (wide_r q s' br g k _ _ _ HPR.out HGR.out hgl hgq hsz).mono ?_
        rintro e w8 (⟨h8, rfl, rfl⟩ | ⟨h8, rfl, hp8, hg8, ht8⟩)
        · have hN : strsF true (List.replicate n ⟨#[]⟩) s1 (k + 1) = none := by
            simp only [strsF, HST.out]
            unfold strF
            rw [if_pos rfl, if_pos (by exact h8)]
          have HNN := Lib.hid (strsF_none (n := n) (by omega) hN)
          clear hN cb hgl
          go_wp2_with fail
          refine ⟨rfl, ?_⟩
          rw [HF.out, HNN.out]
          exact ⟨rfl, ⟨_, by simp, HBR.out⟩, HTR.out⟩
        · have hS : strsF true (List.replicate n ⟨#[]⟩) s1 (k + 1) = some (d ++ [s'.extract 0 32], (s'.extract 32 s'.size).data.toList) := by
            simp only [strsF, HST.out]
            unfold strF
            rw [if_pos rfl, if_neg (by have : s'.data.toList.length = s'.size := rfl; omega)]
            have e1 : s'.extract 0 32 = ⟨(s'.data.toList.take 32).toArray⟩ := (((Txt.self s').extract 0 32).cast (by simp)).of
            have e2 : (s'.extract 32 s'.size).data.toList = s'.data.toList.drop 32 := Txt.rest 32
            rw [e1, e2]
          have HS2 := Lib.hid hS; have P8 := Lib.hid hp8
          have G8 := Lib.hid (hg8.ext (strsB_set d n k _ HDL.out hlt))
          have B8 := Lib.hid (ht8.blk HBR.out (by simp; exact ⟨hbq, fun e => hgb e.symm⟩))
          have T8 := Lib.hid (HTR.out.over ht8 gfr)
          clear hS hp8 hg8 ht8 cb hgl h8
          go_wp2_with fail
          go_roundw
          case rel => exact ⟨k + 1, _, _, by omega, by go_num, HS2.out, P8.out, G8.out, B8.out, T8.out⟩
          case measure => simp [intOf]; omega
      · obtain rfl : k = n := by omega
        go_wp2_with fail
        first | go_end0 | ((try simp only [Exit.inBlock, Exit.then]); refine bodyPost_ret (results_none rfl _ _ _) rfl ?_)
        rw [HF.out, HST.out]
        refine ⟨rfl, _, ⟨⟨s', Txt.self s', HPR.out⟩, HBR.out, HTR.out⟩, .inr ⟨g, 0, k, by rw [HDL.out], HGR.out.lt, ?_, fun j x hx => ?_⟩⟩
        · simp only [List.mem_cons, List.mem_nil_iff, or_false, not_or]
          exact ⟨hgq, hgb⟩
        · rw [Nat.zero_add]
          refine HGR.out.cell ?_
          have hj := (List.getElem?_eq_some_iff.1 hx).1
          rw [List.getElem?_append_left (by simpa [strsB] using hj)]
          simp [strsB, hx]
theorem path_any (q : Nat) (s : ByteArray) (rd br : Bool) (b i : Nat) (v : Value) (xs : List ByteArray) (cs : List Value) (t : TypeId) (w : World) (hp : PartAt w q s rd br) (hb : Blk w b cs t) (hi : cs[i]? = some v) (hbq : b ≠ q)
    (hr : PathIn [q, b] w v xs) (hz : rd = true → v = .slice none 0 0 ∧ xs = []) (hx : rd = false → xs.length ≤ 12 ∧ ∀ x ∈ xs, x.size ≤ 32) (hs : s.size ≤ 1040000) :
    Calls Try.prog 76 #[.pointer (some ⟨q, 0, none⟩), .pointer (some ⟨b, i, none⟩)] w
      (EndsP w q b rd br cs.length t (pathF rd xs s.data.toList) (fun v => cs.set i v)) := by
  cases rd with
  | true =>
    obtain ⟨rfl, rfl⟩ := hz rfl
    exact path_r q s br b i cs t w hp hb hi hbq hs
  | false =>
    refine (path_w q s br b i v xs cs t w hp hb hi hbq (hr.sub (by simp)) (hx rfl).1 (hx rfl).2 hs).mono ?_
    rintro e w' ⟨rfl, s', ts, hP, hT⟩
    rw [pathF_w]
    refine ⟨rfl, v, ⟨⟨s', ts, hP⟩, ?_, hT.mono (by simp)⟩, hr.turned (hT.mono (by simp))⟩
    show Blk w' b (cs.set i v) t
    rw [set_self hi]
    exact hT.blk hb (by simpa using hbq)
end Go.Proofs.Ytkdplgcffdaoaaa
