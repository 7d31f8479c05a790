/- Shapes, superblocks, keys' places (chapters 9, 10, 11): what they are, in plain words. No program in sight. -/
import Derived.Test.YtppdboadjefieaaGreatTake0
namespace Go.Proofs.YtppdboadjefieaaGreat
set_option linter.unusedSimpArgs false
set_option linter.unusedVariables false
open Go
set_option linter.unusedVariables false

/-- A shape. -/
structure GeoD where
  blocks : Int
  lbas : Int
  first : Int
deriving DecidableEq
def GeoD.cells (g : GeoD) : List Value := [.int .i64 g.blocks, .int .i64 g.lbas, .int .i64 g.first]
def GeoD.v (g : GeoD) : Value := .agg #[.int .i64 g.blocks, .int .i64 g.lbas, .int .i64 g.first]
def GeoD.zero : GeoD := ⟨0, 0, 0⟩
/-- May a shape be? -/
def geoOk (g : GeoD) : Bool := decide (8 ≤ g.blocks) && decide (g.blocks ≤ 1024) && decide (1 ≤ g.lbas) && decide (g.lbas ≤ 4096) && decide (0 ≤ g.first) && decide (g.first ≤ 4294967295)
structure GeoOk (g : GeoD) : Prop where
  b0 : 8 ≤ g.blocks
  b1 : g.blocks ≤ 1024
  l0 : 1 ≤ g.lbas
  l1 : g.lbas ≤ 4096
  f0 : 0 ≤ g.first
  f1 : g.first < 4294967296
theorem geoOk_iff {g : GeoD} : geoOk g = true ↔ GeoOk g := by
  unfold geoOk
  simp only [Bool.and_eq_true, decide_eq_true_eq]
  exact ⟨fun ⟨⟨⟨⟨⟨h1, h2⟩, h3⟩, h4⟩, h5⟩, h6⟩ => ⟨h1, h2, h3, h4, h5, by omega⟩, fun h => ⟨⟨⟨⟨⟨h.b0, h.b1⟩, h.l0⟩, h.l1⟩, h.f0⟩, by have := h.f1; omega⟩⟩
/-- A shape's bytes. -/
def geoL (g : GeoD) : List UInt8 := beBytes 4 g.blocks.toNat ++ beBytes 4 g.lbas.toNat ++ beBytes 4 g.first.toNat
theorem geoL_length (g : GeoD) : (geoL g).length = 12 := by unfold geoL; simp [beBytes_length]
/-- A superblock. -/
structure SupD where
  gen : Int
  tail : Int
  epoch : Int
  clock : Int
  geo : GeoD
deriving DecidableEq
def SupD.cells (s : SupD) : List Value := [.int .i64 s.gen, .int .i64 s.tail, .int .i64 s.epoch, .int .i64 s.clock, .int .i64 s.geo.blocks, .int .i64 s.geo.lbas, .int .i64 s.geo.first]
def SupD.v (s : SupD) : Value := .agg #[.int .i64 s.gen, .int .i64 s.tail, .int .i64 s.epoch, .int .i64 s.clock, .int .i64 s.geo.blocks, .int .i64 s.geo.lbas, .int .i64 s.geo.first]
def SupD.zero : SupD := ⟨0, 0, 0, 0, .zero⟩
/-- May a superblock be? -/
structure SupOk (s : SupD) : Prop where
  geo : GeoOk s.geo
  g0 : 1 ≤ s.gen
  g1 : s.gen ≤ 1152921504606846976
  t0 : 0 ≤ s.tail
  t1 : s.tail ≤ s.geo.blocks - 4
  e0 : s.geo.first ≤ s.epoch
  e1 : s.epoch < 4294967296
  c0 : 0 ≤ s.clock
  c1 : s.clock ≤ 1099511627776
def markS : List UInt8 := [107, 101, 101, 112, 115, 97, 107, 101, 49]
/-- What stands ahead of a superblock's sum. -/
def supHead (s : SupD) : List UInt8 := markS ++ (beBytes 8 s.gen.toNat ++ beBytes 4 s.tail.toNat ++ beBytes 4 s.epoch.toNat ++ beBytes 8 s.clock.toNat) ++ geoL s.geo
theorem supHead_length (s : SupD) : (supHead s).length = 45 := by unfold supHead markS; simp [beBytes_length, geoL_length]
/-- A text with noughts behind it, up to a block's bytes. -/
def fillL (l : List UInt8) (n : Nat) : List UInt8 := l ++ List.replicate (n - l.length) 0
theorem fillL_length {l : List UInt8} {n : Nat} (h : l.length ≤ n) : (fillL l n).length = n := by unfold fillL; simp; omega
def supL (s : SupD) : List UInt8 := fillL (supHead s ++ sha (supHead s)) 4096
theorem supL_length (s : SupD) : (supL s).length = 4096 := fillL_length (by rw [List.length_append, supHead_length, sha_length]; decide)
theorem take_app {a b : List UInt8} {n : Nat} (h : a.length = n) : (a ++ b).take n = a := by subst h; exact List.take_left
theorem drop_app {a b : List UInt8} {n : Nat} (h : a.length = n) : (a ++ b).drop n = b := by subst h; exact List.drop_left
/-- The superblock that bytes would have. -/
def supOf (l : List UInt8) : SupD :=
  ⟨((beNum ((l.drop 9).take 8) : Nat) : Int), ((beNum ((l.drop 17).take 4) : Nat) : Int), ((beNum ((l.drop 21).take 4) : Nat) : Int), ((beNum ((l.drop 25).take 8) : Nat) : Int),
   ⟨((beNum ((l.drop 33).take 4) : Nat) : Int), ((beNum ((l.drop 37).take 4) : Nat) : Int), ((beNum ((l.drop 41).take 4) : Nat) : Int)⟩⟩
theorem beNum_int {w : Nat} {x : Int} (h0 : 0 ≤ x) (h1 : x.toNat < 256 ^ w) : ((beNum (beBytes w x.toNat) : Nat) : Int) = x := by
  rw [beNum_beBytes w x.toNat h1]; omega
theorem supOf_supL {s : SupD} (h : SupOk s) : supOf (supL s) = s := by
  obtain ⟨gen, tail, epoch, clock, ⟨blocks, lbas, first⟩⟩ := s
  obtain ⟨hg, h1, h2, h3, h4, h5, h6, h7, h8⟩ := h
  obtain ⟨k1, k2, k3, k4, k5, k6⟩ := hg
  simp only at h1 h2 h3 h4 h5 h6 h7 h8 k1 k2 k3 k4 k5 k6
  obtain ⟨tl, htl⟩ : ∃ tl, supL ⟨gen, tail, epoch, clock, ⟨blocks, lbas, first⟩⟩ = supHead ⟨gen, tail, epoch, clock, ⟨blocks, lbas, first⟩⟩ ++ tl := by
    refine ⟨sha (supHead ⟨gen, tail, epoch, clock, ⟨blocks, lbas, first⟩⟩) ++ List.replicate (4096 - (supHead ⟨gen, tail, epoch, clock, ⟨blocks, lbas, first⟩⟩ ++ sha (supHead ⟨gen, tail, epoch, clock, ⟨blocks, lbas, first⟩⟩)).length) 0, ?_⟩
    unfold supL fillL
    rw [List.append_assoc]
  have hh : supHead ⟨gen, tail, epoch, clock, ⟨blocks, lbas, first⟩⟩ ++ tl = markS ++ (beBytes 8 gen.toNat ++ (beBytes 4 tail.toNat ++ (beBytes 4 epoch.toNat ++ (beBytes 8 clock.toNat ++ (beBytes 4 blocks.toNat ++ (beBytes 4 lbas.toNat ++ (beBytes 4 first.toNat ++ tl))))))) := by
    unfold supHead geoL
    simp only [List.append_assoc]
  rw [hh] at htl
  have d9 : ∀ x : List UInt8, (markS ++ x).drop 9 = x := fun x => drop_app rfl
  have e17 : ∀ x : List UInt8, x.drop 17 = (x.drop 9).drop 8 := fun x => by rw [List.drop_drop]
  have e21 : ∀ x : List UInt8, x.drop 21 = ((x.drop 9).drop 8).drop 4 := fun x => by rw [List.drop_drop, List.drop_drop]
  have e25 : ∀ x : List UInt8, x.drop 25 = (((x.drop 9).drop 8).drop 4).drop 4 := fun x => by rw [List.drop_drop, List.drop_drop, List.drop_drop]
  have e33 : ∀ x : List UInt8, x.drop 33 = ((((x.drop 9).drop 8).drop 4).drop 4).drop 8 := fun x => by rw [List.drop_drop, List.drop_drop, List.drop_drop, List.drop_drop]
  have e37 : ∀ x : List UInt8, x.drop 37 = (((((x.drop 9).drop 8).drop 4).drop 4).drop 8).drop 4 := fun x => by rw [List.drop_drop, List.drop_drop, List.drop_drop, List.drop_drop, List.drop_drop]
  have e41 : ∀ x : List UInt8, x.drop 41 = ((((((x.drop 9).drop 8).drop 4).drop 4).drop 8).drop 4).drop 4 := fun x => by rw [List.drop_drop, List.drop_drop, List.drop_drop, List.drop_drop, List.drop_drop, List.drop_drop]
  have db : ∀ (n k : Nat) (x : List UInt8), (beBytes n k ++ x).drop n = x := fun n k x => drop_app (beBytes_length n k)
  have tb : ∀ (n k : Nat) (x : List UInt8), (beBytes n k ++ x).take n = beBytes n k := fun n k x => take_app (beBytes_length n k)
  have p4 : (256:Nat) ^ 4 = 4294967296 := rfl
  have p8 : (256:Nat) ^ 8 = 18446744073709551616 := rfl
  unfold supOf
  rw [htl, e17, e21, e25, e33, e37, e41, d9, db, db, db, db, db, db, tb, tb, tb, tb, tb, tb, tb]
  rw [beNum_int (by omega) (by first | (rw [p4]; omega) | (rw [p8]; omega)), beNum_int (by omega) (by first | (rw [p4]; omega) | (rw [p8]; omega)), beNum_int (by omega) (by first | (rw [p4]; omega) | (rw [p8]; omega)), beNum_int (by omega) (by first | (rw [p4]; omega) | (rw [p8]; omega)), beNum_int (by omega) (by first | (rw [p4]; omega) | (rw [p8]; omega)), beNum_int (by omega) (by first | (rw [p4]; omega) | (rw [p8]; omega)), beNum_int (by omega) (by first | (rw [p4]; omega) | (rw [p8]; omega))]
theorem supL_inj {a b : SupD} (ha : SupOk a) (hb : SupOk b) (h : supL a = supL b) : a = b := by rw [← supOf_supL ha, h, supOf_supL hb]
/-- An epoch's key, as it stands in its place. -/
def markK : List UInt8 := [107, 101, 121]
def keyHead (epoch : Int) (key : List UInt8) : List UInt8 := markK ++ beBytes 4 epoch.toNat ++ key
def keyL (epoch : Int) (key : List UInt8) : List UInt8 := fillL (keyHead epoch key ++ sha (keyHead epoch key)) 4096
theorem keyL_length {epoch : Int} {key : List UInt8} (h : key.length = 32) : (keyL epoch key).length = 4096 := fillL_length (by rw [List.length_append, sha_length]; unfold keyHead markK; simp [beBytes_length, h])
def noughtL : List UInt8 := List.replicate 4096 0
theorem keyL_ne {epoch : Int} {key : List UInt8} : keyL epoch key ≠ noughtL := by
  intro h
  have h1 : (keyL epoch key).head? = some 107 := rfl
  have h2 : noughtL.head? = some 0 := rfl
  rw [h, h2] at h1
  exact absurd h1 (by decide)
theorem supL_ne {s : SupD} : supL s ≠ noughtL := by
  intro h
  have h1 : (supL s).head? = some 107 := rfl
  have h2 : noughtL.head? = some 0 := rfl
  rw [h, h2] at h1
  exact absurd h1 (by decide)
end Go.Proofs.YtppdboadjefieaaGreat
