/- What bytes begin with: texts, numbers, records, receipts; and that each leads back to its bytes (chapters 1, 19, 21). No program in sight. -/
import Derived.Test.YtidekfbgjghcjaaGreatRcpC
import Derived.Test.YtidekfbgjghcjaaGreatTake0
namespace Go.Proofs.YtidekfbgjghcjaaGreat
set_option linter.unusedSimpArgs false
set_option linter.unusedVariables false
open Go

def recOf (l : List Int) (root name : List UInt8) : Rec := ⟨l.getD 0 0, l.getD 1 0, l.getD 2 0, l.getD 3 0, l.getD 4 0, l.getD 5 0, ⟨root.toArray⟩, ⟨name.toArray⟩⟩
def recTake (l : List UInt8) : Option (Rec × List UInt8) :=
  if l.length < 29 then none else
  match unpackS [1, 4, 8, 4, 4, 8] (l.take 29), cutS (l.drop 29) with
  | some ns, some (root, behind) =>
    match cutS behind with
    | some (name, left) => if recOk (recOf ns root name) then some (recOf ns root name, left) else none
    | none => none
  | _, _ => none
theorem unpackS_six {l : List UInt8} {ns : List Int} (hl : l.length = 29) (h : unpackS [1, 4, 8, 4, 4, 8] l = some ns) :
    ∃ a b c d e f : Nat, ns = [(a : Int), b, c, d, e, f] ∧ l = beBytes 1 a ++ (beBytes 4 b ++ (beBytes 8 c ++ (beBytes 4 d ++ (beBytes 4 e ++ beBytes 8 f)))) := by
  simp only [unpackS] at h
  have key : ∀ {rest : Option (List Int)} {n : Int} {ok : Bool} {ns : List Int}, (if ok = true then rest.map (n :: ·) else none) = some ns → ∃ m, rest = some m ∧ n :: m = ns := by
    intro rest n ok ns h
    split at h
    · cases rest with
      | none => cases h
      | some m => simp at h; exact ⟨m, rfl, h⟩
    · cases h
  obtain ⟨m1, h, e1⟩ := key h
  obtain ⟨m2, h, e2⟩ := key h
  obtain ⟨m3, h, e3⟩ := key h
  obtain ⟨m4, h, e4⟩ := key h
  obtain ⟨m5, h, e5⟩ := key h
  obtain ⟨m6, h, e6⟩ := key h
  injection h with h
  subst h
  subst e6 e5 e4 e3 e2 e1
  refine ⟨_, _, _, _, _, _, rfl, ?_⟩
  rw [beBytes_beNum 1 _ (by simp; omega), beBytes_beNum 4 _ (by simp; omega), beBytes_beNum 8 _ (by simp; omega), beBytes_beNum 4 _ (by simp; omega), beBytes_beNum 4 _ (by simp; omega), beBytes_beNum 8 _ (by simp; omega)]
  rw [List.take_of_length_le (l := List.drop 4 (List.drop 4 (List.drop 8 (List.drop 4 (List.drop 1 l))))) (by simp; omega), List.take_append_drop, List.take_append_drop, List.take_append_drop, List.take_append_drop, List.take_append_drop]
theorem packL_six (a b c d e f : Int) : packL widthsL [a, b, c, d, e, f] = beBytes 1 a.toNat ++ (beBytes 4 b.toNat ++ (beBytes 8 c.toNat ++ (beBytes 4 d.toNat ++ (beBytes 4 e.toNat ++ beBytes 8 f.toNat)))) := by
  simp [packL, widthsL]
theorem recTake_back {l s : List UInt8} {r : Rec} (h : recTake l = some (r, s)) : l = recPut r ++ s ∧ recOk r = true := by
  unfold recTake at h
  split at h
  · cases h
  · next hl =>
    cases hu : unpackS [1, 4, 8, 4, 4, 8] (l.take 29) with
    | none => rw [hu] at h; cases h
    | some ns =>
      cases hc : cutS (l.drop 29) with
      | none => rw [hu, hc] at h; cases h
      | some p =>
        obtain ⟨root, behind⟩ := p
        rw [hu, hc] at h
        simp only at h
        cases hd : cutS behind with
        | none => rw [hd] at h; cases h
        | some q =>
          obtain ⟨name, left⟩ := q
          rw [hd] at h
          simp only at h
          split at h
          · next hok =>
            injection h with h
            injection h with h1 h2
            subst h1 h2
            refine ⟨?_, hok⟩
            obtain ⟨a, b, c, d, e, f, rfl, hb⟩ := unpackS_six (by rw [List.length_take]; omega) hu
            have e1 := (cutS_back hc).1
            have e2 := (cutS_back hd).1
            conv => lhs; rw [← List.take_append_drop 29 l, hb, e1, e2]
            show _ = packL widthsL [(a : Int), b, c, d, e, f] ++ textL root ++ textL name ++ left
            rw [packL_six]
            simp
          · cases h
def rcpPut (x : Rcp) : List UInt8 := beBytes 4 x.seq.toNat ++ x.was.data.toList ++ x.tag.data.toList ++ recPut x.r
def rcpTake (l : List UInt8) : Option (Rcp × List UInt8) :=
  if l.length < 68 then none else
  match recTake (l.drop 68) with
  | some (r, left) => if rcpOk ⟨((beNum (l.take 4) : Nat) : Int), r, ⟨((l.drop 4).take 32).toArray⟩, ⟨((l.drop 36).take 32).toArray⟩⟩ then some (⟨((beNum (l.take 4) : Nat) : Int), r, ⟨((l.drop 4).take 32).toArray⟩, ⟨((l.drop 36).take 32).toArray⟩⟩, left) else none
  | none => none
theorem rcpTake_back {l s : List UInt8} {x : Rcp} (h : rcpTake l = some (x, s)) : l = rcpPut x ++ s ∧ rcpOk x = true := by
  unfold rcpTake at h
  split at h
  · cases h
  · next hl =>
    cases hr : recTake (l.drop 68) with
    | none => rw [hr] at h; cases h
    | some p =>
      obtain ⟨r, left⟩ := p
      rw [hr] at h
      simp only at h
      split at h
      · next hok =>
        injection h with h
        injection h with h1 h2
        subst h1 h2
        refine ⟨?_, hok⟩
        have e1 := (recTake_back hr).1
        unfold rcpPut
        simp only [Int.toNat_natCast]
        rw [beBytes_beNum 4 _ (by rw [List.length_take]; omega), List.append_assoc, ← e1]
        have e2 : l.drop 36 = (l.drop 4).drop 32 := by rw [List.drop_drop]
        have e3 : l.drop 68 = (l.drop 36).drop 32 := by rw [List.drop_drop]
        rw [List.append_assoc, List.append_assoc, e3, List.take_append_drop, e2, List.take_append_drop, List.take_append_drop]
      · cases h
end Go.Proofs.YtidekfbgjghcjaaGreat

