/- Texts of one layer, joined: Dq, Dr. -/
import Derived.Test.YtfddokfnplehkaaGreatDoorGM
set_option linter.unusedVariables false
set_option linter.unusedSimpArgs false
set_option linter.unusedSectionVars false
/- The document's answer of layer 6: small, power; At. -/
set_option linter.unusedSimpArgs false
set_option linter.unusedVariables false
namespace Go.Proofs.YtfddokfnplehkaaGreatDoor.Dc
open Go.RowKit Go.Proofs.YtfddokfnplehkaaGreatDoor.Dig Go.Proofs.YtfddokfnplehkaaGreatDoor.W Go.Proofs.YtfddokfnplehkaaGreatDoor.Nat Go.Proofs.YtfddokfnplehkaaGreatDoor.Wh Go.Proofs.YtfddokfnplehkaaGreatDoor.Td Go.Proofs.YtfddokfnplehkaaGreatDoor.Bu Go.Proofs.YtfddokfnplehkaaGreatDoor.Tx Go.Proofs.YtfddokfnplehkaaGreatDoor.Sp Go.Proofs.YtfddokfnplehkaaGreatDoor.Rd
open Go.Proofs.YtfddokfnplehkaaGreatDoor.Rf (V V_two V_pos)

/-- the place that the reference works with -/
def sml (l : List UInt8) (x place : Int) : Int := if place < x then x else if (l.length : Int) + x + 2 < place then (l.length : Int) + x + 2 else place
end Go.Proofs.YtfddokfnplehkaaGreatDoor.Dc

/- The document's answer of layer 6: At. -/
set_option linter.unusedSimpArgs false
set_option linter.unusedVariables false
namespace Go.Proofs.YtfddokfnplehkaaGreatDoor.Dc
open Go.RowKit Go.Proofs.YtfddokfnplehkaaGreatDoor.Dig Go.Proofs.YtfddokfnplehkaaGreatDoor.W Go.Proofs.YtfddokfnplehkaaGreatDoor.Nat Go.Proofs.YtfddokfnplehkaaGreatDoor.Wh Go.Proofs.YtfddokfnplehkaaGreatDoor.Td Go.Proofs.YtfddokfnplehkaaGreatDoor.Bu Go.Proofs.YtfddokfnplehkaaGreatDoor.Tx Go.Proofs.YtfddokfnplehkaaGreatDoor.Sp Go.Proofs.YtfddokfnplehkaaGreatDoor.Rd
open Go.Proofs.YtfddokfnplehkaaGreatDoor.Rf (V V_two V_pos)

theorem near_told {mode : Nat} {g : Bool} {l : List UInt8} {x place : Int} (hF : Formed l) (hf : fits l x) (h : ¬ sml l x place < place) :
    told g (rto mode g (nv 0 l) x 1 (sml l x place) * (1 * 10 ^ (sml l x place - min x (sml l x place)).toNat)) (min x (sml l x place)) = pw mode g l x place := by
  rw [told_low mode g (nv 0 l) x 1 (sml l x place), Nat.mul_one]
  have hn : 0 < l.length := hF.len
  by_cases h1 : place < x
  · have e : sml l x place = x := by unfold sml; rw [if_pos h1]
    rw [e]
    show pw mode g l x x = _
    rw [pw_low hF hf (Int.le_refl _), pw_low hF hf (by omega)]
  · have e : sml l x place = place := by
      unfold sml at h ⊢
      rw [if_neg h1] at h ⊢
      by_cases h2 : (l.length : Int) + x + 2 < place
      · rw [if_pos h2] at h; omega
      · rw [if_neg h2]
    rw [e]
    rfl
theorem near_far {mode : Nat} {g : Bool} {l : List UInt8} {x place : Int} (hF : Formed l) (h : sml l x place < place) :
    sml l x place = (l.length : Int) + x + 2 ∧ ((rto mode g (nv 0 l) x 1 (sml l x place) * (1 * 10 ^ (sml l x place - min x (sml l x place)).toNat) = 0 ∧ pw mode g l x place = some ([], 0)) ∨ (rto mode g (nv 0 l) x 1 (sml l x place) * (1 * 10 ^ (sml l x place - min x (sml l x place)).toNat) ≠ 0 ∧ pw mode g l x place = told g 1 place)) := by
  have e : sml l x place = (l.length : Int) + x + 2 := by
    unfold sml at h ⊢
    by_cases h1 : place < x
    · rw [if_pos h1] at h; omega
    · rw [if_neg h1] at h ⊢
      by_cases h2 : (l.length : Int) + x + 2 < place
      · rw [if_pos h2]
      · rw [if_neg h2] at h; omega
  refine ⟨e, ?_⟩
  rw [e] at h
  unfold pw
  rw [e, rto_high hF (by omega), rto_high hF (by omega)]
  cases up mode g false (-1)
  · exact .inl ⟨by simp, by rw [show (false : Bool).toNat = 0 from rfl, told_zero]⟩
  · refine .inr ⟨?_, rfl⟩
    rw [show (true : Bool).toNat = 1 from rfl, Nat.one_mul, Nat.one_mul]
    exact Nat.pos_iff_ne_zero.1 (Nat.pow_pos (by omega))
theorem sml_bound {l : List UInt8} {x place : Int} (hl : l.length ≤ 1000) (hx : -4000 ≤ x ∧ x ≤ 4000) (hp : -4000 ≤ place ∧ place ≤ 4000) : -9000 ≤ sml l x place ∧ sml l x place ≤ 9000 := by
  unfold sml
  by_cases h1 : place < x
  · rw [if_pos h1]; omega
  · rw [if_neg h1]
    by_cases h2 : (l.length : Int) + x + 2 < place
    · rw [if_pos h2]; omega
    · rw [if_neg h2]; omega
theorem Lo.rnd {mode : Nat} {g : Bool} {A U K : Nat} (h : Lo A K) : Lo (rnd mode g A U) (K + 1) := (h.succ).le (Nat.le_trans (rnd_near mode g A U).2 (Nat.succ_le_succ (Nat.div_le_self _ _)))
theorem lo_rto {mode : Nat} {g : Bool} {D u K : Nat} {x y : Int} (hD : Lo D K) (hu : Lo u K) (hK : K ≤ 1000) (hx : -10000 ≤ x ∧ x ≤ 10000) (hy : -10000 ≤ y ∧ y ≤ 10000) :
    Lo (rto mode g D x u y * (u * 10 ^ (y - min x y).toNat)) 100000 := by
  have h1 : Lo (rto mode g D x u y) (21002) := by
    unfold rto
    exact ((hD.mul (Lo.pow (x - min x y).toNat)).mono (show _ ≤ 21001 by omega)).rnd
  exact (h1.mul (hu.mul (Lo.pow (y - min x y).toNat))).mono (by omega)
theorem one_VV (w : World) (o : Obj) : SI ((w.alloc o).alloc (.cells #[.int .u32 1] 34)) .u32 (some ⟨w.heap.size + 1, 0, none⟩) 1 1 (digs V 1) := by
  have e := one_V (w.alloc o)
  rwa [show (w.alloc o).heap.size = w.heap.size + 1 by simp] at e
theorem TV.farC {w W : World} {a0 a1 a2 a3 : Value} (h : TV w W a0 a1 a2 a3) {p : Addr} (hp : w.heap.size + 1 < p.block) (v : Value) : TV w (W.setCell p v) a0 a1 a2 a3 :=
  ⟨h.a.far v (by omega), h.r.far v (by omega), h.bl.setCell (by omega) v⟩
end Go.Proofs.YtfddokfnplehkaaGreatDoor.Dc
