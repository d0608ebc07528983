/- Texts of one layer, joined: Dp. -/
import Derived.Test.YtfddokfnplehkaaGreatDoorGL
import Derived.Test.YtfddokfnplehkaaGreatDoorGD
import Derived.Test.YtfddokfnplehkaaGreatDoorGF
import Derived.Test.YtfddokfnplehkaaGreatDoorGE
set_option linter.unusedVariables false
set_option linter.unusedSimpArgs false
set_option linter.unusedSectionVars false
/- The document's answer of layer 6: To. -/
set_option linter.unusedSimpArgs false
set_option linter.unusedVariables false
namespace Go.Proofs.YtfddokfnplehkaaGreatDoor.Dc
open Go.RowKit Go.Proofs.YtfddokfnplehkaaGreatDoor.Dig Go.Proofs.YtfddokfnplehkaaGreatDoor.W Go.Proofs.YtfddokfnplehkaaGreatDoor.Nat Go.Proofs.YtfddokfnplehkaaGreatDoor.Wh Go.Proofs.YtfddokfnplehkaaGreatDoor.Td Go.Proofs.YtfddokfnplehkaaGreatDoor.Bu Go.Proofs.YtfddokfnplehkaaGreatDoor.Tx Go.Proofs.YtfddokfnplehkaaGreatDoor.Sp Go.Proofs.YtfddokfnplehkaaGreatDoor.Rd
open Go.Proofs.YtfddokfnplehkaaGreatDoor.Rf (V V_two V_pos)

section
variable {w W W' : World} {a0 a1 a2 b0 b1 b2 : Value}
end
theorem three' {w : World} {g : Nat} {t : TypeId} {a0 a1 a2 : Value} (C : Bk w g t #[a0, a1, a2]) : w.cell? ⟨g, 0, none⟩ = some a0 ∧ w.cell? ⟨g, 1, none⟩ = some a1 ∧ w.cell? ⟨g, 2, none⟩ = some a2 := ⟨C.at_ 0 rfl, C.at_ 1 rfl, C.at_ 2 rfl⟩
theorem pair {w : World} {g : Nat} {t : TypeId} {a0 a1 : Value} (C : Bk w g t #[a0, a1]) : w.cell? ⟨g, 0, none⟩ = some a0 ∧ w.cell? ⟨g, 1, none⟩ = some a1 := ⟨C.at_ 0 rfl, C.at_ 1 rfl⟩
theorem pair_far {w : World} {g q : Nat} {t : TypeId} {a0 a1 : Value} (C : Bk w g t #[a0, a1]) (hne : g ≠ q) (a b c : Value) : ((((w.setCell ⟨q, 0, none⟩ a).setCell ⟨q, 1, none⟩ b).setCell ⟨q, 2, none⟩ c).cell? ⟨g, 0, none⟩ = some a0) ∧ ((((w.setCell ⟨q, 0, none⟩ a).setCell ⟨q, 1, none⟩ b).setCell ⟨q, 2, none⟩ c).cell? ⟨g, 1, none⟩ = some a1) :=
  pair (((C.far (a := (⟨q, 0, none⟩ : Addr)) a hne).far (a := (⟨q, 1, none⟩ : Addr)) b hne).far (a := (⟨q, 2, none⟩ : Addr)) c hne)
theorem mul_V (A A' : Option Addr) (n c n' c' x y : Nat) (w : World) (h : SI w .u32 A n c (digs V x)) (h' : SI w .u32 A' n' c' (digs V y)) {K : Nat} (hx : Lo x K) (hy : Lo y K) (hK : K ≤ 100000) :
    Calls Tryz.prog 23 #[.slice A n c, .slice A' n' c'] w (Rf.GivesF w .u32 (digs V (x * y))) := by
  have e := Rf.mul_calls A A' n c n' c' _ _ w h h' (Rw.dv x) (Rw.dv y) (by rw [← h.len]; have := hx.lenV; omega) (by rw [← h'.len]; have := hy.lenV; omega)
  rwa [val_digs V_two, val_digs V_two] at e
theorem add_V (A A' : Option Addr) (n c n' c' x y : Nat) (w : World) (h : SI w .u32 A n c (digs V x)) (h' : SI w .u32 A' n' c' (digs V y)) {K : Nat} (hx : Lo x K) (hy : Lo y K) (hK : K ≤ 100000) :
    Calls Tryz.prog 30 #[.slice A n c, .slice A' n' c'] w (Rf.GivesF w .u32 (digs V (x + y))) := by
  have e := Rf.add_calls A A' n c n' c' _ _ w h h' (Rw.dv x) (Rw.dv y) (by rw [← h.len]; have := hx.lenV; omega) (by rw [← h'.len]; have := hy.lenV; omega)
  rwa [val_digs V_two, val_digs V_two] at e
theorem cmp_V (A A' : Option Addr) (n c n' c' x y : Nat) (w : World) (h : SI w .u32 A n c (digs V x)) (h' : SI w .u32 A' n' c' (digs V y)) :
    Calls Tryz.prog 22 #[.slice A n c, .slice A' n' c'] w fun e w' => e = .returned (.int .i64 (stand x y)) ∧ Drawn w w' := by
  have e := Rf.cmp_calls A A' n c n' c' _ _ w h h' (Rw.dv x) (Rw.dv y)
  rwa [val_digs V_two, val_digs V_two, stand_cmp] at e
theorem rpow10 (k : Nat) (w : World) (hk : k ≤ 1048576) : Calls Tryz.prog 25 #[.int .i64 10, .int .i64 (k : Nat)] w (Gives w .u32 (digs V (10 ^ k))) := Wh.rpow_calls 10 k w (by omega) (by omega) hk
theorem one_V (w : World) : SI (w.alloc (.cells #[.int .u32 1] 34)) .u32 (some ⟨w.heap.size, 0, none⟩) 1 1 (digs V 1) := by
  rw [show digs V 1 = [1] from digs_one V_two (by unfold Rf.V; omega) (by omega)]
  exact Rw.lit1R w _ rfl
/-- what To hands back -/
def GivesT (w : World) (z : Int) (E : Int) (e : Ending) (w' : World) : Prop :=
  ∃ A n c, e = .returned (.agg #[.bool (decide (z < 0)), .slice A n c, .int .i64 E]) ∧ SI w' .u32 A n c (digs V z.natAbs) ∧ Below w.heap.size w w'
theorem si_two' {w : World} {k : IntKind} {A : Option Addr} {n c g : Nat} {l : List Nat} {t : TypeId} {b : Bool} {X : Option Addr} {y z : Nat} (h : SI w k A n c l) (hT : Bk w g t #[.bool b, .slice X y z]) (u v : Value) :
    SI ((w.setCell ⟨g, 0, none⟩ u).setCell ⟨g, 1, none⟩ v) k A n c l := Wh.si_two h hT u v
end Go.Proofs.YtfddokfnplehkaaGreatDoor.Dc
