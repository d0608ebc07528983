/- Texts of one layer, joined: Dp. -/
import Derived.Test.YtllpggdmkdgggaaGreatDoorGL
import Derived.Test.YtllpggdmkdgggaaGreatDoorGD
import Derived.Test.YtllpggdmkdgggaaGreatDoorGF
import Derived.Test.YtllpggdmkdgggaaGreatDoorGE
set_option linter.unusedVariables false
set_option linter.unusedSimpArgs false
set_option linter.unusedSectionVars false
/- The document's answer of layer 6: To. -/
set_option linter.unusedSimpArgs false
set_option linter.unusedVariables false
namespace Go.Proofs.YtllpggdmkdgggaaGreatDoor.Dc
open Go.RowKit Go.Proofs.YtllpggdmkdgggaaGreatDoor.Dig Go.Proofs.YtllpggdmkdgggaaGreatDoor.W Go.Proofs.YtllpggdmkdgggaaGreatDoor.Nat Go.Proofs.YtllpggdmkdgggaaGreatDoor.Wh Go.Proofs.YtllpggdmkdgggaaGreatDoor.Td Go.Proofs.YtllpggdmkdgggaaGreatDoor.Bu Go.Proofs.YtllpggdmkdgggaaGreatDoor.Tx Go.Proofs.YtllpggdmkdgggaaGreatDoor.Sp Go.Proofs.YtllpggdmkdgggaaGreatDoor.Rd
open Go.Proofs.YtllpggdmkdgggaaGreatDoor.Rf (V V_two V_pos)

/-- three blocks of three cells: the number, the unit, the answer's cell -/
structure T3 (w W : World) (a0 a1 a2 b0 b1 b2 : Value) : Prop where
  a : Bk W w.heap.size 52 #[a0, a1, a2]
  b : Bk W (w.heap.size + 1) 52 #[b0, b1, b2]
  r : Bk W (w.heap.size + 1 + 1) 52 #[.bool false, .slice none 0 0, .int .i64 0]
  bl : Below w.heap.size w W
section
variable {w W W' : World} {a0 a1 a2 b0 b1 b2 : Value}
theorem T3.start (w : World) (a0 a1 a2 b0 b1 b2 : Value) : T3 w (((w.alloc (.cells #[a0, a1, a2] 52)).alloc (.cells #[b0, b1, b2] 52)).alloc (.cells #[.bool false, .slice none 0 0, .int .i64 0] 52)) a0 a1 a2 b0 b1 b2 := by
  obtain ⟨h1, h2, h3, h4⟩ := bk_three w #[a0, a1, a2] #[b0, b1, b2] #[.bool false, .slice none 0 0, .int .i64 0] 52 52 52
  exact ⟨h1, h2, h3, h4⟩
theorem T3.below (h : T3 w W a0 a1 a2 b0 b1 b2) (hb : Below W.heap.size W W') : T3 w W' a0 a1 a2 b0 b1 b2 := ⟨h.a.below hb, h.b.below hb, h.r.below hb, on h.bl hb⟩
theorem T3.drew (h : T3 w W a0 a1 a2 b0 b1 b2) : T3 w W.drew a0 a1 a2 b0 b1 b2 := ⟨h.a.drew, h.b.drew, h.r.drew, h.bl.drew⟩
theorem T3.ret (h : T3 w W a0 a1 a2 b0 b1 b2) (a b c : Value) : Bk (((W.setCell ⟨w.heap.size + 1 + 1, 0, none⟩ a).setCell ⟨w.heap.size + 1 + 1, 1, none⟩ b).setCell ⟨w.heap.size + 1 + 1, 2, none⟩ c) (w.heap.size + 1 + 1) 52 #[a, b, c] ∧
    Below w.heap.size w (((W.setCell ⟨w.heap.size + 1 + 1, 0, none⟩ a).setCell ⟨w.heap.size + 1 + 1, 1, none⟩ b).setCell ⟨w.heap.size + 1 + 1, 2, none⟩ c) :=
  ⟨Bk.set3 h.r a b c rfl, ((h.bl.setCell (by show _ ≤ w.heap.size + 1 + 1; omega) _).setCell (by show _ ≤ w.heap.size + 1 + 1; omega) _).setCell (by show _ ≤ w.heap.size + 1 + 1; omega) _⟩
theorem T3.res (h : T3 w W a0 a1 a2 b0 b1 b2) : W.cell? ⟨w.heap.size + 1 + 1, 0, none⟩ = some (.bool false) ∧ W.cell? ⟨w.heap.size + 1 + 1, 1, none⟩ = some (.slice none 0 0) ∧ W.cell? ⟨w.heap.size + 1 + 1, 2, none⟩ = some (.int .i64 0) ∧
    W.frozen? ⟨w.heap.size + 1 + 1, 0, none⟩ = false ∧ W.frozen? ⟨w.heap.size + 1 + 1, 1, none⟩ = false ∧ W.frozen? ⟨w.heap.size + 1 + 1, 2, none⟩ = false := ⟨h.r.at_ 0 rfl, h.r.at_ 1 rfl, h.r.at_ 2 rfl, h.r.fr 0, h.r.fr 1, h.r.fr 2⟩
end
theorem three' {w : World} {g : Nat} {t : TypeId} {a0 a1 a2 : Value} (C : Bk w g t #[a0, a1, a2]) : w.cell? ⟨g, 0, none⟩ = some a0 ∧ w.cell? ⟨g, 1, none⟩ = some a1 ∧ w.cell? ⟨g, 2, none⟩ = some a2 := ⟨C.at_ 0 rfl, C.at_ 1 rfl, C.at_ 2 rfl⟩
theorem pair {w : World} {g : Nat} {t : TypeId} {a0 a1 : Value} (C : Bk w g t #[a0, a1]) : w.cell? ⟨g, 0, none⟩ = some a0 ∧ w.cell? ⟨g, 1, none⟩ = some a1 := ⟨C.at_ 0 rfl, C.at_ 1 rfl⟩
theorem pair_far {w : World} {g q : Nat} {t : TypeId} {a0 a1 : Value} (C : Bk w g t #[a0, a1]) (hne : g ≠ q) (a b c : Value) : ((((w.setCell ⟨q, 0, none⟩ a).setCell ⟨q, 1, none⟩ b).setCell ⟨q, 2, none⟩ c).cell? ⟨g, 0, none⟩ = some a0) ∧ ((((w.setCell ⟨q, 0, none⟩ a).setCell ⟨q, 1, none⟩ b).setCell ⟨q, 2, none⟩ c).cell? ⟨g, 1, none⟩ = some a1) :=
  pair (((C.far (a := (⟨q, 0, none⟩ : Addr)) a hne).far (a := (⟨q, 1, none⟩ : Addr)) b hne).far (a := (⟨q, 2, none⟩ : Addr)) c hne)
theorem mul_V (A A' : Option Addr) (n c n' c' x y : Nat) (w : World) (h : SI w .u32 A n c (digs V x)) (h' : SI w .u32 A' n' c' (digs V y)) {K : Nat} (hx : Lo x K) (hy : Lo y K) (hK : K ≤ 100000) :
    Calls Tryz.prog 48 #[.slice A n c, .slice A' n' c'] w (Rf.GivesF w .u32 (digs V (x * y))) := by
  have e := Rf.mul_calls A A' n c n' c' _ _ w h h' (Rw.dv x) (Rw.dv y) (by rw [← h.len]; have := hx.lenV; omega) (by rw [← h'.len]; have := hy.lenV; omega)
  rwa [val_digs V_two, val_digs V_two] at e
theorem add_V (A A' : Option Addr) (n c n' c' x y : Nat) (w : World) (h : SI w .u32 A n c (digs V x)) (h' : SI w .u32 A' n' c' (digs V y)) {K : Nat} (hx : Lo x K) (hy : Lo y K) (hK : K ≤ 100000) :
    Calls Tryz.prog 52 #[.slice A n c, .slice A' n' c'] w (Rf.GivesF w .u32 (digs V (x + y))) := by
  have e := Rf.add_calls A A' n c n' c' _ _ w h h' (Rw.dv x) (Rw.dv y) (by rw [← h.len]; have := hx.lenV; omega) (by rw [← h'.len]; have := hy.lenV; omega)
  rwa [val_digs V_two, val_digs V_two] at e
theorem cmp_V (A A' : Option Addr) (n c n' c' x y : Nat) (w : World) (h : SI w .u32 A n c (digs V x)) (h' : SI w .u32 A' n' c' (digs V y)) :
    Calls Tryz.prog 51 #[.slice A n c, .slice A' n' c'] w fun e w' => e = .returned (.int .i64 (stand x y)) ∧ Drawn w w' := by
  have e := Rf.cmp_calls A A' n c n' c' _ _ w h h' (Rw.dv x) (Rw.dv y)
  rwa [val_digs V_two, val_digs V_two, stand_cmp] at e
theorem make_V (g : Bool) (A : Option Addr) (n c x : Nat) (w : World) (h : SI w .u32 A n c (digs V x)) {K : Nat} (hx : Lo x K) (hK : K ≤ 100000) :
    Calls Tryz.prog 32 #[.bool g, .slice A n c] w (Rw.GivesR w (sg g x)) := Rw.rmake_d g A n c x w h (by rw [← h.len]; have := hx.lenV; omega)
theorem divmod_V (g : Bool) (A A' : Option Addr) (n c n' c' x y : Nat) (w : World) (h : SI w .u32 A n c (digs V x)) (h' : SI w .u32 A' n' c' (digs V y)) {K : Nat} (hx : Lo x K) (hy : Lo y K) (hK : K ≤ 100000) (h0 : y ≠ 0) :
    Calls Tryz.prog 50 #[.agg #[.bool g, .slice A n c], .agg #[.bool false, .slice A' n' c']] w (Rw.GivesDR w (sg g x / sg false y) (sg g x % sg false y)) := by
  have e := Rw.rdivmod_calls g false A A' n c n' c' _ _ w h h' (Rw.dv x) (Rw.dv y) (by rw [← h.len]; have := hx.lenV; omega) (by rw [← h'.len]; have := hy.lenV; omega) (by rw [val_digs V_two]; exact h0)
  rwa [val_digs V_two, val_digs V_two] at e
theorem imul_V (z : Int) (A A' : Option Addr) (n c n' c' y : Nat) (w : World) (h : SI w .u32 A n c (digs V z.natAbs)) (h' : SI w .u32 A' n' c' (digs V y)) {K : Nat} (hx : Lo z.natAbs K) (hy : Lo y K) (hK : K ≤ 100000) :
    Calls Tryz.prog 55 #[.agg #[.bool (decide (z < 0)), .slice A n c], .agg #[.bool false, .slice A' n' c']] w (Rw.GivesR w (z * sg false y)) := by
  have e := Rw.rmul_calls (decide (z < 0)) false A A' n c n' c' _ _ w h h' (Rw.dv _) (Rw.dv y) (by rw [← h.len]; have := hx.lenV; omega) (by rw [← h'.len]; have := hy.lenV; omega)
  rwa [val_digs V_two, val_digs V_two, Rw.sg_of] at e
theorem iadd_V (z : Int) (A A' : Option Addr) (n c n' c' y : Nat) (w : World) (h : SI w .u32 A n c (digs V z.natAbs)) (h' : SI w .u32 A' n' c' (digs V y)) {K : Nat} (hx : Lo z.natAbs K) (hy : Lo y K) (hK : K ≤ 100000) :
    Calls Tryz.prog 54 #[.agg #[.bool (decide (z < 0)), .slice A n c], .agg #[.bool false, .slice A' n' c']] w (Rw.GivesR w (z + sg false y)) := by
  have e := Rw.radd_calls (decide (z < 0)) false A A' n c n' c' _ _ w h h' (Rw.dv _) (Rw.dv y) (by rw [← h.len]; have := hx.lenV; omega) (by rw [← h'.len]; have := hy.lenV; omega)
  rwa [val_digs V_two, val_digs V_two, Rw.sg_of] at e
theorem rpow10 (k : Nat) (w : World) (hk : k ≤ 1048576) : Calls Tryz.prog 49 #[.int .i64 10, .int .i64 (k : Nat)] w (Gives w .u32 (digs V (10 ^ k))) := Wh.rpow_calls 10 k w (by omega) (by omega) hk
theorem one_V (w : World) : SI (w.alloc (.cells #[.int .u32 1] 57)) .u32 (some ⟨w.heap.size, 0, none⟩) 1 1 (digs V 1) := by
  rw [show digs V 1 = [1] from digs_one V_two (by unfold Rf.V; omega) (by omega)]
  exact Rw.lit1R w _ rfl
/-- what To hands back -/
def GivesT (w : World) (z : Int) (E : Int) (e : Ending) (w' : World) : Prop :=
  ∃ A n c, e = .returned (.agg #[.bool (decide (z < 0)), .slice A n c, .int .i64 E]) ∧ SI w' .u32 A n c (digs V z.natAbs) ∧ Below w.heap.size w w'
theorem si_two' {w : World} {k : IntKind} {A : Option Addr} {n c g : Nat} {l : List Nat} {t : TypeId} {b : Bool} {X : Option Addr} {y z : Nat} (h : SI w k A n c l) (hT : Bk w g t #[.bool b, .slice X y z]) (u v : Value) :
    SI ((w.setCell ⟨g, 0, none⟩ u).setCell ⟨g, 1, none⟩ v) k A n c l := Wh.si_two h hT u v
set_option maxHeartbeats 8000000 in
set_option maxRecDepth 100000 in
theorem nto_even {mode : Nat} (hm : mode < 8) (g bu : Bool) (A A' : Option Addr) (n c n' c' D u k1 k2 : Nat) (x y e0 : Int) (w : World) (h : SI w .u32 A n c (digs V D)) (h' : SI w .u32 A' n' c' (digs V u)) {K : Nat} (hD : Lo D K) (hu : Lo u K) (hK : K ≤ 1000) (hD0 : 0 < D) (hu0 : 0 < u)
    (hx : -10000 ≤ x ∧ x ≤ 10000) (hy : -10000 ≤ y ∧ y ≤ 10000) (he : min x y = e0) (hk1 : x - e0 = k1) (hk2 : y - e0 = k2) (hR : D * 10 ^ k1 % (u * 10 ^ k2) = 0) :
    Calls Tryz.prog 29 #[.agg #[.bool g, .slice A n c, .int .i64 x], .agg #[.bool bu, .slice A' n' c', .int .i64 y], .int .i64 (mode : Nat)] w (GivesT w (rq g (D * 10 ^ k1) (u * 10 ^ k2) * sg false (u * 10 ^ k2)) e0) := by
  have hb1 : k1 ≤ 20000 := by omega
  have hb2 : k2 ≤ 20000 := by omega
  have hw1 : IntKind.i64.wrap (k1 : Int) = (k1 : Int) := by rw [IntKind.wrap_i64]; omega
  have hw2 : IntKind.i64.wrap (k2 : Int) = (k2 : Int) := by rw [IntKind.wrap_i64]; omega
  have q1 := (Lo.pow k1).mono (show k1 + 1 ≤ 20001 by omega)
  have q2 := (Lo.pow k2).mono (show k2 + 1 ≤ 20001 by omega)
  have a1 := hD.mul q1
  have a2 := hu.mul q2
  have hU : u * 10 ^ k2 ≠ 0 := Nat.pos_iff_ne_zero.1 (Nat.mul_pos hu0 (Nat.pow_pos (by omega)))
  have hA0 : 0 < D * 10 ^ k1 := Nat.mul_pos hD0 (Nat.pow_pos (by omega))
  have T := T3.start w (.bool g) (.slice A n c) (.int .i64 x) (.bool bu) (.slice A' n' c') (.int .i64 y)
  have HT := Lib.hid T
  have HX := Lib.hid (h.below T.bl)
  have HU := Lib.hid (h'.below T.bl)
  have HP1 := Lib.hid (fun w1 => rpow10 k1 w1 (by omega))
  have HP2 := Lib.hid (fun w1 => rpow10 k2 w1 (by omega))
  have HM1 := Lib.hid (fun (A A' : Option Addr) (n c n' c' : Nat) (w1 : World) (h : SI w1 .u32 A n c (digs V D)) (h' : SI w1 .u32 A' n' c' (digs V (10 ^ k1))) => mul_V A A' n c n' c' D (10 ^ k1) w1 h h' (hD.mono (by omega : _ ≤ 50000)) (q1.mono (by omega)) (by omega))
  have HM2 := Lib.hid (fun (A A' : Option Addr) (n c n' c' : Nat) (w1 : World) (h : SI w1 .u32 A n c (digs V u)) (h' : SI w1 .u32 A' n' c' (digs V (10 ^ k2))) => mul_V A A' n c n' c' u (10 ^ k2) w1 h h' (hu.mono (by omega : _ ≤ 50000)) (q2.mono (by omega)) (by omega))
  have HK1 := Lib.hid (fun (A : Option Addr) (n c : Nat) (w1 : World) (h : SI w1 .u32 A n c (digs V (D * 10 ^ k1))) => make_V g A n c _ w1 h (a1.mono (by omega : _ ≤ 50000)) (by omega))
  have HK2 := Lib.hid (fun (A : Option Addr) (n c : Nat) (w1 : World) (h : SI w1 .u32 A n c (digs V (u * 10 ^ k2))) => make_V false A n c _ w1 h (a2.mono (by omega : _ ≤ 50000)) (by omega))
  have HDM := Lib.hid (fun (A A' : Option Addr) (n c n' c' : Nat) (w1 : World) (h : SI w1 .u32 A n c (digs V (D * 10 ^ k1))) (h' : SI w1 .u32 A' n' c' (digs V (u * 10 ^ k2))) => divmod_V g A A' n c n' c' _ _ w1 h h' (a1.mono (by omega : _ ≤ 50000)) (a2.mono (by omega)) (by omega) hU)
  unfold Rw.GivesR at HK1 HK2
  rw [sg_pos hA0, sg_abs] at HK1
  rw [sg_neg, sg_abs] at HK2
  unfold Rw.GivesDR at HDM
  have hql : Lo (rq g (D * 10 ^ k1) (u * 10 ^ k2)).natAbs _ := (a1.succ).le (rq_le (Nat.pos_of_ne_zero hU))
  have hrl : Lo (rr g (D * 10 ^ k1) (u * 10 ^ k2)) _ := a2.le (rr_lt (Nat.pos_of_ne_zero hU))
  change Hid (∀ (A A' : Option Addr) (n c n' c' : Nat) (w1 : World), SI w1 .u32 A n c (digs V (D * 10 ^ k1)) → SI w1 .u32 A' n' c' (digs V (u * 10 ^ k2)) → Calls _ _ _ w1 fun e w' => ∃ A n c A' n' c', e = .returned (.tuple #[.agg #[.bool (decide (rq g (D * 10 ^ k1) (u * 10 ^ k2) < 0)), .slice A n c], .agg #[.bool (decide (sg g (D * 10 ^ k1) % sg false (u * 10 ^ k2) < 0)), .slice A' n' c']]) ∧ SI w' .u32 A n c (digs V (rq g (D * 10 ^ k1) (u * 10 ^ k2)).natAbs) ∧ SI w' .u32 A' n' c' (digs V (rr g (D * 10 ^ k1) (u * 10 ^ k2))) ∧ Below w1.heap.size w1 w') at HDM
  have hrz := rr_zero (g := g) (A := D * 10 ^ k1) (Nat.pos_of_ne_zero hU)
  generalize decide (sg g (D * 10 ^ k1) % sg false (u * 10 ^ k2) < 0) = br at *
  generalize rr g (D * 10 ^ k1) (u * 10 ^ k2) = R at *
  generalize rq g (D * 10 ^ k1) (u * 10 ^ k2) = Q at *
  have hR0 : R = 0 := hrz.2 hR
  subst hR0
  have HML := Lib.hid (fun (A A' : Option Addr) (n c n' c' : Nat) (w1 : World) (h : SI w1 .u32 A n c (digs V Q.natAbs)) (h' : SI w1 .u32 A' n' c' (digs V (u * 10 ^ k2))) => imul_V Q A A' n c n' c' _ w1 h h' (hql.mono (by omega : _ ≤ 50000)) (a2.mono (by omega)) (by omega))
  unfold Rw.GivesR at HML
  generalize Q * sg false (u * 10 ^ k2) = ZZ at *
  clear hR hrz hql hrl a1 a2 q1 q2 hU hA0 hD hu hD0 hu0 hK T h h'
  have zf := HT.out.drew
  have kf := three' zf.a
  go_enter Tryz.func29, Tryz.ntmps29
  go_wp2
  go_region_held3 (fun w' => w'.cell? ⟨w.heap.size, 0, none⟩ = some (.bool g) ∧ w'.cell? ⟨w.heap.size, 1, none⟩ = some (.slice A n c) ∧ w'.cell? ⟨w.heap.size, 2, none⟩ = some (.int .i64 x))
    (first
      | (with_reducible exact kf)
      | (with_reducible exact k1')
      | (with_reducible exact k2'))
    (first
      | (go_at_call 49; (with_reducible refine (HP1.out _).mono ?_); rintro e w1 ⟨A1, n1, c1, rfl, r1, b1⟩; have z1 := zf.below b1; have k1' := three' z1.a)
      | (go_at_call 48; (with_reducible refine (HM1.out A A1 n c n1 c1 w1 ((HX.out.below (Below.refl _ _).drew).below b1) r1).mono ?_); rintro e w2 ⟨A2, n2, c2, rfl, r2, _, b2⟩; have z2 := z1.below b2; have k2' := three' z2.a))
  clear kf k1' k2'
  have yf := z2.drew
  have kf := three' yf.b
  go_wp2
  go_region_held3 (fun w' => w'.cell? ⟨w.heap.size + 1, 0, none⟩ = some (.bool bu) ∧ w'.cell? ⟨w.heap.size + 1, 1, none⟩ = some (.slice A' n' c') ∧ w'.cell? ⟨w.heap.size + 1, 2, none⟩ = some (.int .i64 y))
    (first
      | (with_reducible exact kf)
      | (with_reducible exact k3')
      | (with_reducible exact k4'))
    (first
      | (go_at_call 49; (with_reducible refine (HP2.out _).mono ?_); rintro e w3 ⟨A3, n3, c3, rfl, r3, b3⟩; have z3 := yf.below b3; have k3' := three' z3.b)
      | (go_at_call 48; (with_reducible refine (HM2.out A' A3 n' c' n3 c3 w3 (((((HU.out.below (Below.refl _ _).drew).below b1).below b2).below (Below.refl _ _).drew).below b3) r3).mono ?_); rintro e w4 ⟨A4, n4, c4, rfl, r4, _, b4⟩; have z4 := z3.below b4; have k4' := three' z4.b))
  clear kf k3' k4'
  have u2 := ((r2.below (Below.refl _ _).drew).below b3).below b4
  have kx := three' z4.a
  clear r2 r1 r3
  go_wp2_with (first
    | (go_at_call_of 32 (Value.slice A2 n2 c2); (with_reducible refine (HK1.out A2 n2 c2 w4 u2).mono ?_); rintro e w5 ⟨A5, n5, c5, rfl, r5, _, b5⟩; have z5 := z4.below b5)
    | (go_at_call_of 32 (Value.slice A4 n4 c4); (with_reducible refine (HK2.out A4 n4 c4 w5 (r4.below b5)).mono ?_); rintro e w6 ⟨A6, n6, c6, rfl, r6, _, b6⟩; have z6 := z5.below b6)
    | (go_at_call 50; (with_reducible refine (HDM.out A5 A6 n5 c5 n6 c6 w6 (r5.below b6) r6).mono ?_); rintro e w7 ⟨A7, n7, c7, A8, n8, c8, rfl, r7, r8, b7⟩; have z7 := z6.below b7; obtain rfl : n8 = 0 := (by rw [← r8.len, digs_zero]; rfl); obtain ⟨t1, t2, t3⟩ := bk_two w7 #[.bool (decide (Q < 0)), .slice A7 n7 c7] #[.bool br, .slice A8 0 c8] 50 50)
    )
  have z8 := z7.below t3
  have s7 := r7.below t3
  have s4 := (((r4.below b5).below b6).below b7).below t3
  have hlt := z7.r.lt
  generalize ((w7.alloc (.cells #[.bool (decide (Q < 0)), .slice A7 n7 c7] 50)).alloc (.cells #[.bool br, .slice A8 0 c8] 50)) = w8 at *
  clear t2 r7 r8 r5 r6 r4 u2 b5 b6 b7 t3 kx
  generalize w7.heap.size = gq at *
  have zl := z8.drew
  have yl := t1.drew
  have sl := s7.below (Below.refl _ _).drew
  have ul := s4.below (Below.refl _ _).drew
  have kl := pair yl
  clear z8 t1 s7 s4
  go_wp2
  go_region_held3 (fun w' => w'.cell? ⟨gq, 0, none⟩ = some (.bool (decide (Q < 0))) ∧ w'.cell? ⟨gq, 1, none⟩ = some (.slice A7 n7 c7))
    (first
      | (with_reducible exact kl)
      | (with_reducible exact k20)
      | (with_reducible exact k21)
      | (with_reducible exact f21))
    (first
      | (go_at_call 32; (with_reducible refine (HK2.out A4 n4 c4 _ ul).mono ?_); rintro e w20 ⟨A20, n20, c20, rfl, r20, _, b20⟩; have z20 := zl.below b20; have y20 := yl.below b20; have k20 := pair y20)
      | (go_at_call 55; (with_reducible refine (HML.out A7 A20 n7 c7 n20 c20 w20 (sl.below b20) r20).mono ?_); rintro e w21 ⟨A21, n21, c21, rfl, r21, j21, b21⟩; have z21 := z20.below b21; have y21 := y20.below b21; have k21 := pair y21; have f21 := pair_far y21 (show gq ≠ w.heap.size + 1 + 1 by omega) (.bool (decide (ZZ < 0))) (.slice A21 n21 c21) (.int .i64 e0); have q21 := z21.res))
  go_wp2
  obtain ⟨o1, o2⟩ := z21.ret (.bool (decide (ZZ < 0))) (.slice A21 n21 c21) (.int .i64 e0)
  have hl2 := z20.r.lt
  exact bodyPost_ret (res_bk rfl _ o1 rfl Tryz.underlying52 rfl (by kernel_rfl)) rfl ⟨A21, n21, c21, rfl, si_far3 r21 (fun b o s e => by have := j21 b o s e; omega) _ _ _, o2⟩
set_option maxHeartbeats 8000000 in
set_option maxRecDepth 100000 in
theorem nto_down {mode : Nat} (hm : mode < 8) (g bu : Bool) (A A' : Option Addr) (n c n' c' D u k1 k2 : Nat) (x y e0 : Int) (w : World) (h : SI w .u32 A n c (digs V D)) (h' : SI w .u32 A' n' c' (digs V u)) {K : Nat} (hD : Lo D K) (hu : Lo u K) (hK : K ≤ 1000) (hD0 : 0 < D) (hu0 : 0 < u)
    (hx : -10000 ≤ x ∧ x ≤ 10000) (hy : -10000 ≤ y ∧ y ≤ 10000) (he : min x y = e0) (hk1 : x - e0 = k1) (hk2 : y - e0 = k2) (hR : D * 10 ^ k1 % (u * 10 ^ k2) ≠ 0) (hgr : greater mode (decide ((rq g (D * 10 ^ k1) (u * 10 ^ k2)).natAbs % 2 = 1)) g (stand (rr g (D * 10 ^ k1) (u * 10 ^ k2) + rr g (D * 10 ^ k1) (u * 10 ^ k2)) (u * 10 ^ k2)) = false) :
    Calls Tryz.prog 29 #[.agg #[.bool g, .slice A n c, .int .i64 x], .agg #[.bool bu, .slice A' n' c', .int .i64 y], .int .i64 (mode : Nat)] w (GivesT w (rq g (D * 10 ^ k1) (u * 10 ^ k2) * sg false (u * 10 ^ k2)) e0) := by
  have hb1 : k1 ≤ 20000 := by omega
  have hb2 : k2 ≤ 20000 := by omega
  have hw1 : IntKind.i64.wrap (k1 : Int) = (k1 : Int) := by rw [IntKind.wrap_i64]; omega
  have hw2 : IntKind.i64.wrap (k2 : Int) = (k2 : Int) := by rw [IntKind.wrap_i64]; omega
  have q1 := (Lo.pow k1).mono (show k1 + 1 ≤ 20001 by omega)
  have q2 := (Lo.pow k2).mono (show k2 + 1 ≤ 20001 by omega)
  have a1 := hD.mul q1
  have a2 := hu.mul q2
  have hU : u * 10 ^ k2 ≠ 0 := Nat.pos_iff_ne_zero.1 (Nat.mul_pos hu0 (Nat.pow_pos (by omega)))
  have hA0 : 0 < D * 10 ^ k1 := Nat.mul_pos hD0 (Nat.pow_pos (by omega))
  have T := T3.start w (.bool g) (.slice A n c) (.int .i64 x) (.bool bu) (.slice A' n' c') (.int .i64 y)
  have HT := Lib.hid T
  have HX := Lib.hid (h.below T.bl)
  have HU := Lib.hid (h'.below T.bl)
  have HP1 := Lib.hid (fun w1 => rpow10 k1 w1 (by omega))
  have HP2 := Lib.hid (fun w1 => rpow10 k2 w1 (by omega))
  have HM1 := Lib.hid (fun (A A' : Option Addr) (n c n' c' : Nat) (w1 : World) (h : SI w1 .u32 A n c (digs V D)) (h' : SI w1 .u32 A' n' c' (digs V (10 ^ k1))) => mul_V A A' n c n' c' D (10 ^ k1) w1 h h' (hD.mono (by omega : _ ≤ 50000)) (q1.mono (by omega)) (by omega))
  have HM2 := Lib.hid (fun (A A' : Option Addr) (n c n' c' : Nat) (w1 : World) (h : SI w1 .u32 A n c (digs V u)) (h' : SI w1 .u32 A' n' c' (digs V (10 ^ k2))) => mul_V A A' n c n' c' u (10 ^ k2) w1 h h' (hu.mono (by omega : _ ≤ 50000)) (q2.mono (by omega)) (by omega))
  have HK1 := Lib.hid (fun (A : Option Addr) (n c : Nat) (w1 : World) (h : SI w1 .u32 A n c (digs V (D * 10 ^ k1))) => make_V g A n c _ w1 h (a1.mono (by omega : _ ≤ 50000)) (by omega))
  have HK2 := Lib.hid (fun (A : Option Addr) (n c : Nat) (w1 : World) (h : SI w1 .u32 A n c (digs V (u * 10 ^ k2))) => make_V false A n c _ w1 h (a2.mono (by omega : _ ≤ 50000)) (by omega))
  have HDM := Lib.hid (fun (A A' : Option Addr) (n c n' c' : Nat) (w1 : World) (h : SI w1 .u32 A n c (digs V (D * 10 ^ k1))) (h' : SI w1 .u32 A' n' c' (digs V (u * 10 ^ k2))) => divmod_V g A A' n c n' c' _ _ w1 h h' (a1.mono (by omega : _ ≤ 50000)) (a2.mono (by omega)) (by omega) hU)
  unfold Rw.GivesR at HK1 HK2
  rw [sg_pos hA0, sg_abs] at HK1
  rw [sg_neg, sg_abs] at HK2
  unfold Rw.GivesDR at HDM
  have hql : Lo (rq g (D * 10 ^ k1) (u * 10 ^ k2)).natAbs _ := (a1.succ).le (rq_le (Nat.pos_of_ne_zero hU))
  have hrl : Lo (rr g (D * 10 ^ k1) (u * 10 ^ k2)) _ := a2.le (rr_lt (Nat.pos_of_ne_zero hU))
  change Hid (∀ (A A' : Option Addr) (n c n' c' : Nat) (w1 : World), SI w1 .u32 A n c (digs V (D * 10 ^ k1)) → SI w1 .u32 A' n' c' (digs V (u * 10 ^ k2)) → Calls _ _ _ w1 fun e w' => ∃ A n c A' n' c', e = .returned (.tuple #[.agg #[.bool (decide (rq g (D * 10 ^ k1) (u * 10 ^ k2) < 0)), .slice A n c], .agg #[.bool (decide (sg g (D * 10 ^ k1) % sg false (u * 10 ^ k2) < 0)), .slice A' n' c']]) ∧ SI w' .u32 A n c (digs V (rq g (D * 10 ^ k1) (u * 10 ^ k2)).natAbs) ∧ SI w' .u32 A' n' c' (digs V (rr g (D * 10 ^ k1) (u * 10 ^ k2))) ∧ Below w1.heap.size w1 w') at HDM
  have hrz := rr_zero (g := g) (A := D * 10 ^ k1) (Nat.pos_of_ne_zero hU)
  generalize decide (sg g (D * 10 ^ k1) % sg false (u * 10 ^ k2) < 0) = br at *
  generalize rr g (D * 10 ^ k1) (u * 10 ^ k2) = R at *
  generalize rq g (D * 10 ^ k1) (u * 10 ^ k2) = Q at *
  have hR0 : R ≠ 0 := fun e => hR (hrz.1 e)
  have HRP := Lib.hid (digs_length_pos V_two hR0)
  have HAR := Lib.hid (fun (A : Option Addr) (n c : Nat) (w1 : World) (h : SI w1 .u32 A n c (digs V R)) => add_V A A n c n c R R w1 h h (hrl.mono (by omega : _ ≤ 50000)) (hrl.mono (by omega)) (by omega))
  have HCM := Lib.hid (fun (A A' : Option Addr) (n c n' c' : Nat) (w1 : World) (h : SI w1 .u32 A n c (digs V (R + R))) (h' : SI w1 .u32 A' n' c' (digs V (u * 10 ^ k2))) => cmp_V A A' n c n' c' (R + R) _ w1 h h')
  have HGR := Lib.hid (fun (A : Option Addr) (n c : Nat) (w1 : World) (h : SI w1 .u32 A n c (digs V Q.natAbs)) => hgr ▸ ngreater_calls hm (decide (Q < 0)) g A n c Q.natAbs (stand_three (R + R) (u * 10 ^ k2)) w1 h)
  have HML := Lib.hid (fun (A A' : Option Addr) (n c n' c' : Nat) (w1 : World) (h : SI w1 .u32 A n c (digs V Q.natAbs)) (h' : SI w1 .u32 A' n' c' (digs V (u * 10 ^ k2))) => imul_V Q A A' n c n' c' _ w1 h h' (hql.mono (by omega : _ ≤ 50000)) (a2.mono (by omega)) (by omega))
  unfold Rw.GivesR at HML
  generalize Q * sg false (u * 10 ^ k2) = ZZ at *
  clear hR hrz hql hrl a1 a2 q1 q2 hU hA0 hD hu hD0 hu0 hK T h h' hgr hR0
  generalize stand (R + R) (u * 10 ^ k2) = st at *
  have zf := HT.out.drew
  have kf := three' zf.a
  go_enter Tryz.func29, Tryz.ntmps29
  go_wp2
  go_region_held3 (fun w' => w'.cell? ⟨w.heap.size, 0, none⟩ = some (.bool g) ∧ w'.cell? ⟨w.heap.size, 1, none⟩ = some (.slice A n c) ∧ w'.cell? ⟨w.heap.size, 2, none⟩ = some (.int .i64 x))
    (first
      | (with_reducible exact kf)
      | (with_reducible exact k1')
      | (with_reducible exact k2'))
    (first
      | (go_at_call 49; (with_reducible refine (HP1.out _).mono ?_); rintro e w1 ⟨A1, n1, c1, rfl, r1, b1⟩; have z1 := zf.below b1; have k1' := three' z1.a)
      | (go_at_call 48; (with_reducible refine (HM1.out A A1 n c n1 c1 w1 ((HX.out.below (Below.refl _ _).drew).below b1) r1).mono ?_); rintro e w2 ⟨A2, n2, c2, rfl, r2, _, b2⟩; have z2 := z1.below b2; have k2' := three' z2.a))
  clear kf k1' k2'
  have yf := z2.drew
  have kf := three' yf.b
  go_wp2
  go_region_held3 (fun w' => w'.cell? ⟨w.heap.size + 1, 0, none⟩ = some (.bool bu) ∧ w'.cell? ⟨w.heap.size + 1, 1, none⟩ = some (.slice A' n' c') ∧ w'.cell? ⟨w.heap.size + 1, 2, none⟩ = some (.int .i64 y))
    (first
      | (with_reducible exact kf)
      | (with_reducible exact k3')
      | (with_reducible exact k4'))
    (first
      | (go_at_call 49; (with_reducible refine (HP2.out _).mono ?_); rintro e w3 ⟨A3, n3, c3, rfl, r3, b3⟩; have z3 := yf.below b3; have k3' := three' z3.b)
      | (go_at_call 48; (with_reducible refine (HM2.out A' A3 n' c' n3 c3 w3 (((((HU.out.below (Below.refl _ _).drew).below b1).below b2).below (Below.refl _ _).drew).below b3) r3).mono ?_); rintro e w4 ⟨A4, n4, c4, rfl, r4, _, b4⟩; have z4 := z3.below b4; have k4' := three' z4.b))
  clear kf k3' k4'
  have u2 := ((r2.below (Below.refl _ _).drew).below b3).below b4
  have kx := three' z4.a
  clear r2 r1 r3
  go_wp2_with (first
    | (go_at_call_of 32 (Value.slice A2 n2 c2); (with_reducible refine (HK1.out A2 n2 c2 w4 u2).mono ?_); rintro e w5 ⟨A5, n5, c5, rfl, r5, _, b5⟩; have z5 := z4.below b5)
    | (go_at_call_of 32 (Value.slice A4 n4 c4); (with_reducible refine (HK2.out A4 n4 c4 w5 (r4.below b5)).mono ?_); rintro e w6 ⟨A6, n6, c6, rfl, r6, _, b6⟩; have z6 := z5.below b6)
    | (go_at_call 50; (with_reducible refine (HDM.out A5 A6 n5 c5 n6 c6 w6 (r5.below b6) r6).mono ?_); rintro e w7 ⟨A7, n7, c7, A8, n8, c8, rfl, r7, r8, b7⟩; have z7 := z6.below b7; have h8 : 0 < n8 := (by rw [← r8.len]; exact HRP.out); obtain ⟨t1, t2, t3⟩ := bk_two w7 #[.bool (decide (Q < 0)), .slice A7 n7 c7] #[.bool br, .slice A8 n8 c8] 50 50)
    | (go_at_call 52; (with_reducible refine (HAR.out A8 n8 c8 _ (r8.below t3)).mono ?_); rintro e w9 ⟨A9, n9, c9, rfl, r9, _, b9⟩)
    | (go_at_call 51; (with_reducible refine (HCM.out A9 A4 n9 c9 n4 c4 w9 r9 (((((r4.below b5).below b6).below b7).below t3).below b9)).mono ?_); rintro e w10 ⟨rfl, d10⟩; have y1 := (t1.below b9).below (Drawn.below d10); have y2 := pair y1; have z10 := ((z7.below t3).below b9).below (Drawn.below d10); have y3 := three' z10.a)
    | (go_at_call 53; (with_reducible refine (HGR.out A7 n7 c7 w10 (((r7.below t3).below b9).below (Drawn.below d10))).mono ?_); rintro e w11 ⟨rfl, b11⟩; have z11 := z10.below b11; have y11 := y1.below b11; have s7 := (((r7.below t3).below b9).below (Drawn.below d10)).below b11; have s4 := (((((((r4.below b5).below b6).below b7).below t3).below b9).below (Drawn.below d10)).below b11)))
  have hlt := z7.r.lt
  clear t2 r7 r8 r5 r6 r4 u2 b5 b6 b7 t3 kx y2 y3 y1 r9 b9 d10 b11 t1
  generalize w7.heap.size = gq at *
  have zl := z11.drew
  have yl := y11.drew
  have sl := s7.below (Below.refl _ _).drew
  have ul := s4.below (Below.refl _ _).drew
  have kl := pair yl
  clear z11 y11 s7 s4
  go_wp2
  go_region_held3 (fun w' => w'.cell? ⟨gq, 0, none⟩ = some (.bool (decide (Q < 0))) ∧ w'.cell? ⟨gq, 1, none⟩ = some (.slice A7 n7 c7))
    (first
      | (with_reducible exact kl)
      | (with_reducible exact k20)
      | (with_reducible exact k21)
      | (with_reducible exact f21))
    (first
      | (go_at_call 32; (with_reducible refine (HK2.out A4 n4 c4 _ ul).mono ?_); rintro e w20 ⟨A20, n20, c20, rfl, r20, _, b20⟩; have z20 := zl.below b20; have y20 := yl.below b20; have k20 := pair y20)
      | (go_at_call 55; (with_reducible refine (HML.out A7 A20 n7 c7 n20 c20 w20 (sl.below b20) r20).mono ?_); rintro e w21 ⟨A21, n21, c21, rfl, r21, j21, b21⟩; have z21 := z20.below b21; have y21 := y20.below b21; have k21 := pair y21; have f21 := pair_far y21 (show gq ≠ w.heap.size + 1 + 1 by omega) (.bool (decide (ZZ < 0))) (.slice A21 n21 c21) (.int .i64 e0); have q21 := z21.res))
  go_wp2
  obtain ⟨o1, o2⟩ := z21.ret (.bool (decide (ZZ < 0))) (.slice A21 n21 c21) (.int .i64 e0)
  have hl2 := z20.r.lt
  exact bodyPost_ret (res_bk rfl _ o1 rfl Tryz.underlying52 rfl (by kernel_rfl)) rfl ⟨A21, n21, c21, rfl, si_far3 r21 (fun b o s e => by have := j21 b o s e; omega) _ _ _, o2⟩
set_option maxHeartbeats 8000000 in
set_option maxRecDepth 100000 in
theorem nto_up {mode : Nat} (hm : mode < 8) (g bu : Bool) (A A' : Option Addr) (n c n' c' D u k1 k2 : Nat) (x y e0 : Int) (w : World) (h : SI w .u32 A n c (digs V D)) (h' : SI w .u32 A' n' c' (digs V u)) {K : Nat} (hD : Lo D K) (hu : Lo u K) (hK : K ≤ 1000) (hD0 : 0 < D) (hu0 : 0 < u)
    (hx : -10000 ≤ x ∧ x ≤ 10000) (hy : -10000 ≤ y ∧ y ≤ 10000) (he : min x y = e0) (hk1 : x - e0 = k1) (hk2 : y - e0 = k2) (hR : D * 10 ^ k1 % (u * 10 ^ k2) ≠ 0) (hgr : greater mode (decide ((rq g (D * 10 ^ k1) (u * 10 ^ k2)).natAbs % 2 = 1)) g (stand (rr g (D * 10 ^ k1) (u * 10 ^ k2) + rr g (D * 10 ^ k1) (u * 10 ^ k2)) (u * 10 ^ k2)) = true) :
    Calls Tryz.prog 29 #[.agg #[.bool g, .slice A n c, .int .i64 x], .agg #[.bool bu, .slice A' n' c', .int .i64 y], .int .i64 (mode : Nat)] w (GivesT w ((rq g (D * 10 ^ k1) (u * 10 ^ k2) + sg false 1) * sg false (u * 10 ^ k2)) e0) := by
  have hb1 : k1 ≤ 20000 := by omega
  have hb2 : k2 ≤ 20000 := by omega
  have hw1 : IntKind.i64.wrap (k1 : Int) = (k1 : Int) := by rw [IntKind.wrap_i64]; omega
  have hw2 : IntKind.i64.wrap (k2 : Int) = (k2 : Int) := by rw [IntKind.wrap_i64]; omega
  have q1 := (Lo.pow k1).mono (show k1 + 1 ≤ 20001 by omega)
  have q2 := (Lo.pow k2).mono (show k2 + 1 ≤ 20001 by omega)
  have a1 := hD.mul q1
  have a2 := hu.mul q2
  have hU : u * 10 ^ k2 ≠ 0 := Nat.pos_iff_ne_zero.1 (Nat.mul_pos hu0 (Nat.pow_pos (by omega)))
  have hA0 : 0 < D * 10 ^ k1 := Nat.mul_pos hD0 (Nat.pow_pos (by omega))
  have T := T3.start w (.bool g) (.slice A n c) (.int .i64 x) (.bool bu) (.slice A' n' c') (.int .i64 y)
  have HT := Lib.hid T
  have HX := Lib.hid (h.below T.bl)
  have HU := Lib.hid (h'.below T.bl)
  have HP1 := Lib.hid (fun w1 => rpow10 k1 w1 (by omega))
  have HP2 := Lib.hid (fun w1 => rpow10 k2 w1 (by omega))
  have HM1 := Lib.hid (fun (A A' : Option Addr) (n c n' c' : Nat) (w1 : World) (h : SI w1 .u32 A n c (digs V D)) (h' : SI w1 .u32 A' n' c' (digs V (10 ^ k1))) => mul_V A A' n c n' c' D (10 ^ k1) w1 h h' (hD.mono (by omega : _ ≤ 50000)) (q1.mono (by omega)) (by omega))
  have HM2 := Lib.hid (fun (A A' : Option Addr) (n c n' c' : Nat) (w1 : World) (h : SI w1 .u32 A n c (digs V u)) (h' : SI w1 .u32 A' n' c' (digs V (10 ^ k2))) => mul_V A A' n c n' c' u (10 ^ k2) w1 h h' (hu.mono (by omega : _ ≤ 50000)) (q2.mono (by omega)) (by omega))
  have HK1 := Lib.hid (fun (A : Option Addr) (n c : Nat) (w1 : World) (h : SI w1 .u32 A n c (digs V (D * 10 ^ k1))) => make_V g A n c _ w1 h (a1.mono (by omega : _ ≤ 50000)) (by omega))
  have HK2 := Lib.hid (fun (A : Option Addr) (n c : Nat) (w1 : World) (h : SI w1 .u32 A n c (digs V (u * 10 ^ k2))) => make_V false A n c _ w1 h (a2.mono (by omega : _ ≤ 50000)) (by omega))
  have HDM := Lib.hid (fun (A A' : Option Addr) (n c n' c' : Nat) (w1 : World) (h : SI w1 .u32 A n c (digs V (D * 10 ^ k1))) (h' : SI w1 .u32 A' n' c' (digs V (u * 10 ^ k2))) => divmod_V g A A' n c n' c' _ _ w1 h h' (a1.mono (by omega : _ ≤ 50000)) (a2.mono (by omega)) (by omega) hU)
  unfold Rw.GivesR at HK1 HK2
  rw [sg_pos hA0, sg_abs] at HK1
  rw [sg_neg, sg_abs] at HK2
  unfold Rw.GivesDR at HDM
  have hql : Lo (rq g (D * 10 ^ k1) (u * 10 ^ k2)).natAbs _ := (a1.succ).le (rq_le (Nat.pos_of_ne_zero hU))
  have hrl : Lo (rr g (D * 10 ^ k1) (u * 10 ^ k2)) _ := a2.le (rr_lt (Nat.pos_of_ne_zero hU))
  change Hid (∀ (A A' : Option Addr) (n c n' c' : Nat) (w1 : World), SI w1 .u32 A n c (digs V (D * 10 ^ k1)) → SI w1 .u32 A' n' c' (digs V (u * 10 ^ k2)) → Calls _ _ _ w1 fun e w' => ∃ A n c A' n' c', e = .returned (.tuple #[.agg #[.bool (decide (rq g (D * 10 ^ k1) (u * 10 ^ k2) < 0)), .slice A n c], .agg #[.bool (decide (sg g (D * 10 ^ k1) % sg false (u * 10 ^ k2) < 0)), .slice A' n' c']]) ∧ SI w' .u32 A n c (digs V (rq g (D * 10 ^ k1) (u * 10 ^ k2)).natAbs) ∧ SI w' .u32 A' n' c' (digs V (rr g (D * 10 ^ k1) (u * 10 ^ k2))) ∧ Below w1.heap.size w1 w') at HDM
  have hrz := rr_zero (g := g) (A := D * 10 ^ k1) (Nat.pos_of_ne_zero hU)
  generalize decide (sg g (D * 10 ^ k1) % sg false (u * 10 ^ k2) < 0) = br at *
  generalize rr g (D * 10 ^ k1) (u * 10 ^ k2) = R at *
  generalize rq g (D * 10 ^ k1) (u * 10 ^ k2) = Q at *
  have hR0 : R ≠ 0 := fun e => hR (hrz.1 e)
  have HRP := Lib.hid (digs_length_pos V_two hR0)
  have HAR := Lib.hid (fun (A : Option Addr) (n c : Nat) (w1 : World) (h : SI w1 .u32 A n c (digs V R)) => add_V A A n c n c R R w1 h h (hrl.mono (by omega : _ ≤ 50000)) (hrl.mono (by omega)) (by omega))
  have HCM := Lib.hid (fun (A A' : Option Addr) (n c n' c' : Nat) (w1 : World) (h : SI w1 .u32 A n c (digs V (R + R))) (h' : SI w1 .u32 A' n' c' (digs V (u * 10 ^ k2))) => cmp_V A A' n c n' c' (R + R) _ w1 h h')
  have HGR := Lib.hid (fun (A : Option Addr) (n c : Nat) (w1 : World) (h : SI w1 .u32 A n c (digs V Q.natAbs)) => hgr ▸ ngreater_calls hm (decide (Q < 0)) g A n c Q.natAbs (stand_three (R + R) (u * 10 ^ k2)) w1 h)
  have HKO := Lib.hid (fun (A : Option Addr) (n c : Nat) (w1 : World) (h : SI w1 .u32 A n c (digs V 1)) => make_V false A n c _ w1 h Lo.one (by omega))
  unfold Rw.GivesR at HKO
  rw [sg_neg, sg_abs] at HKO
  have HAO := Lib.hid (fun (A A' : Option Addr) (n c n' c' : Nat) (w1 : World) (h : SI w1 .u32 A n c (digs V Q.natAbs)) (h' : SI w1 .u32 A' n' c' (digs V 1)) => iadd_V Q A A' n c n' c' _ w1 h h' (hql.mono (by omega : _ ≤ 50000)) (Lo.one.mono (by omega)) (by omega))
  have hql2 : Lo (Q + sg false 1).natAbs _ := (hql.succ).le (by show (Q + ((1 : Nat) : Int)).natAbs ≤ _; omega)
  have HML := Lib.hid (fun (A A' : Option Addr) (n c n' c' : Nat) (w1 : World) (h : SI w1 .u32 A n c (digs V (Q + sg false 1).natAbs)) (h' : SI w1 .u32 A' n' c' (digs V (u * 10 ^ k2))) => imul_V (Q + sg false 1) A A' n c n' c' _ w1 h h' (hql2.mono (by omega : _ ≤ 50000)) (a2.mono (by omega)) (by omega))
  generalize Q + sg false 1 = Q1 at *
  unfold Rw.GivesR at HML
  generalize Q1 * sg false (u * 10 ^ k2) = ZZ at *
  clear hR hrz hql hrl a1 a2 q1 q2 hU hA0 hD hu hD0 hu0 hK T h h' hgr hR0 hql2
  generalize stand (R + R) (u * 10 ^ k2) = st at *
  have zf := HT.out.drew
  have kf := three' zf.a
  go_enter Tryz.func29, Tryz.ntmps29
  go_wp2
  go_region_held3 (fun w' => w'.cell? ⟨w.heap.size, 0, none⟩ = some (.bool g) ∧ w'.cell? ⟨w.heap.size, 1, none⟩ = some (.slice A n c) ∧ w'.cell? ⟨w.heap.size, 2, none⟩ = some (.int .i64 x))
    (first
      | (with_reducible exact kf)
      | (with_reducible exact k1')
      | (with_reducible exact k2'))
    (first
      | (go_at_call 49; (with_reducible refine (HP1.out _).mono ?_); rintro e w1 ⟨A1, n1, c1, rfl, r1, b1⟩; have z1 := zf.below b1; have k1' := three' z1.a)
      | (go_at_call 48; (with_reducible refine (HM1.out A A1 n c n1 c1 w1 ((HX.out.below (Below.refl _ _).drew).below b1) r1).mono ?_); rintro e w2 ⟨A2, n2, c2, rfl, r2, _, b2⟩; have z2 := z1.below b2; have k2' := three' z2.a))
  clear kf k1' k2'
  have yf := z2.drew
  have kf := three' yf.b
  go_wp2
  go_region_held3 (fun w' => w'.cell? ⟨w.heap.size + 1, 0, none⟩ = some (.bool bu) ∧ w'.cell? ⟨w.heap.size + 1, 1, none⟩ = some (.slice A' n' c') ∧ w'.cell? ⟨w.heap.size + 1, 2, none⟩ = some (.int .i64 y))
    (first
      | (with_reducible exact kf)
      | (with_reducible exact k3')
      | (with_reducible exact k4'))
    (first
      | (go_at_call 49; (with_reducible refine (HP2.out _).mono ?_); rintro e w3 ⟨A3, n3, c3, rfl, r3, b3⟩; have z3 := yf.below b3; have k3' := three' z3.b)
      | (go_at_call 48; (with_reducible refine (HM2.out A' A3 n' c' n3 c3 w3 (((((HU.out.below (Below.refl _ _).drew).below b1).below b2).below (Below.refl _ _).drew).below b3) r3).mono ?_); rintro e w4 ⟨A4, n4, c4, rfl, r4, _, b4⟩; have z4 := z3.below b4; have k4' := three' z4.b))
  clear kf k3' k4'
  have u2 := ((r2.below (Below.refl _ _).drew).below b3).below b4
  have kx := three' z4.a
  clear r2 r1 r3
  go_wp2_with (first
    | (go_at_call_of 32 (Value.slice A2 n2 c2); (with_reducible refine (HK1.out A2 n2 c2 w4 u2).mono ?_); rintro e w5 ⟨A5, n5, c5, rfl, r5, _, b5⟩; have z5 := z4.below b5)
    | (go_at_call_of 32 (Value.slice A4 n4 c4); (with_reducible refine (HK2.out A4 n4 c4 w5 (r4.below b5)).mono ?_); rintro e w6 ⟨A6, n6, c6, rfl, r6, _, b6⟩; have z6 := z5.below b6)
    | (go_at_call 50; (with_reducible refine (HDM.out A5 A6 n5 c5 n6 c6 w6 (r5.below b6) r6).mono ?_); rintro e w7 ⟨A7, n7, c7, A8, n8, c8, rfl, r7, r8, b7⟩; have z7 := z6.below b7; have h8 : 0 < n8 := (by rw [← r8.len]; exact HRP.out); obtain ⟨t1, t2, t3⟩ := bk_two w7 #[.bool (decide (Q < 0)), .slice A7 n7 c7] #[.bool br, .slice A8 n8 c8] 50 50)
    | (go_at_call 52; (with_reducible refine (HAR.out A8 n8 c8 _ (r8.below t3)).mono ?_); rintro e w9 ⟨A9, n9, c9, rfl, r9, _, b9⟩)
    | (go_at_call 51; (with_reducible refine (HCM.out A9 A4 n9 c9 n4 c4 w9 r9 (((((r4.below b5).below b6).below b7).below t3).below b9)).mono ?_); rintro e w10 ⟨rfl, d10⟩; have y1 := (t1.below b9).below (Drawn.below d10); have y2 := pair y1; have z10 := ((z7.below t3).below b9).below (Drawn.below d10); have y3 := three' z10.a)
    | (go_at_call 53; (with_reducible refine (HGR.out A7 n7 c7 w10 (((r7.below t3).below b9).below (Drawn.below d10))).mono ?_); rintro e w11 ⟨rfl, b11⟩; have z11 := z10.below b11; have y11 := y1.below b11; have s7 := (((r7.below t3).below b9).below (Drawn.below d10)).below b11; have s4 := (((((((r4.below b5).below b6).below b7).below t3).below b9).below (Drawn.below d10)).below b11)))
  have hlt := z7.r.lt
  clear t2 r7 r8 r5 r6 r4 u2 b5 b6 b7 t3 kx y2 y3 y1 r9 b9 d10 b11 t1
  generalize w7.heap.size = gq at *
  have S0 := pair y11.drew
  refine Go.Un.start (fun w' => w'.cell? ⟨gq, 0, none⟩ = some (.bool (decide (Q < 0))) ∧ w'.cell? ⟨gq, 1, none⟩ = some (.slice A7 n7 c7)) [4] (by rfl) ?_
  refine Go.Un.take [3, 4] (i := 0) (v := ?_) rfl (by kernel_rfl) (by kernel_rfl) (by kernel_rfl) (by kernel_rfl) (by kernel_rfl) (fun _ _ _ h => h) (Or.inl ⟨by rfl, ?_⟩) S0 ?_
  rotate_left
  · intro w hSw
    try dsimp only at hSw
    go_simp
    try with_reducible rfl
  try simp only [Act.put, List.setIfInBounds_toArray, List.set_cons_zero, List.set_cons_succ]
  refine Go.Un.one (i := 1) rfl (by kernel_rfl) (fun K hK => ?_)
  go_simp
  refine hK.out _ _ (fun _ => pair (y11.alloc (.cells #[.int .u32 1] 57)).drew) ?_
  clear hK K
  try simp only [Act.put, List.setIfInBounds_toArray, List.set_cons_zero, List.set_cons_succ]
  have bo := (alloc_below w11 (.cells #[.int .u32 1] 57)).drew
  have v1 : SI (w11.alloc (.cells #[.int .u32 1] 57)).drew .u32 (some ⟨w11.heap.size, 0, none⟩) 1 1 (digs V 1) := (one_V w11).below (Below.refl _ _).drew
  refine Go.Un.one (i := 2) rfl (by kernel_rfl) (fun K hK => ?_)
  go_simp
  go_at_call 32; (with_reducible refine (HKO.out _ 1 1 _ v1).mono ?_); rintro e w13 ⟨A13, n13, c13, rfl, r13, _, b13⟩
  refine hK.out _ _ (fun _ => pair ((y11.alloc (.cells #[.int .u32 1] 57)).drew.below b13)) ?_
  clear hK K
  try simp only [Act.put, List.setIfInBounds_toArray, List.set_cons_zero, List.set_cons_succ]
  refine Go.Un.one (i := 3) rfl (by kernel_rfl) (fun K hK => ?_)
  go_simp
  go_at_call 54; (with_reducible refine (HAO.out A7 A13 n7 c7 n13 c13 w13 ((s7.below bo).below b13) r13).mono ?_); rintro e w14 ⟨A14, n14, c14, rfl, r14, j14, b14⟩; have y14 := ((y11.alloc (.cells #[.int .u32 1] 57)).drew.below b13).below b14; have k14 := pair y14; have f14 := y14.fr 0; have g14 := y14.fr 1
  refine hK.out _ _ (fun _ => pair y14) ?_
  clear hK K
  try simp only [Act.put, List.setIfInBounds_toArray, List.set_cons_zero, List.set_cons_succ]
  refine Go.Un.one (i := 4) rfl (by kernel_rfl) (fun K hK => ?_)
  go_simp
  refine hK.out _ _ (fun h => by exact absurd h (by decide)) ?_
  clear hK K
  try simp only [Act.put, List.setIfInBounds_toArray, List.set_cons_zero, List.set_cons_succ]
  refine Go.Un.done (by kernel_rfl) ?_ _
  have z14 := ((z11.below bo).below b13).below b14
  have hgq := y11.lt
  have hsz := bo.size
  have hsz2 := b13.size
  have hwq : w.heap.size ≤ gq := by omega
  have z15 : T3 w ((w14.setCell ⟨gq, 0, none⟩ (.bool (decide (Q1 < 0)))).setCell ⟨gq, 1, none⟩ (.slice A14 n14 c14)) (.bool g) (.slice A n c) (.int .i64 x) (.bool bu) (.slice A' n' c') (.int .i64 y) :=
    ⟨(z14.a.far (a := (⟨gq, 0, none⟩ : Addr)) _ (by show _ ≠ gq; omega)).far (a := (⟨gq, 1, none⟩ : Addr)) _ (by show _ ≠ gq; omega), (z14.b.far (a := (⟨gq, 0, none⟩ : Addr)) _ (by show _ ≠ gq; omega)).far (a := (⟨gq, 1, none⟩ : Addr)) _ (by show _ ≠ gq; omega), (z14.r.far (a := (⟨gq, 0, none⟩ : Addr)) _ (by show _ ≠ gq; omega)).far (a := (⟨gq, 1, none⟩ : Addr)) _ (by show _ ≠ gq; omega), (z14.bl.setCell (p := (⟨gq, 0, none⟩ : Addr)) hwq _).setCell (p := (⟨gq, 1, none⟩ : Addr)) hwq _⟩
  have y15 : Bk ((w14.setCell ⟨gq, 0, none⟩ (.bool (decide (Q1 < 0)))).setCell ⟨gq, 1, none⟩ (.slice A14 n14 c14)) gq 50 #[.bool (decide (Q1 < 0)), .slice A14 n14 c14] := ((y14.set 0 _).set 1 _).cast rfl
  have s15 : SI ((w14.setCell ⟨gq, 0, none⟩ (.bool (decide (Q1 < 0)))).setCell ⟨gq, 1, none⟩ (.slice A14 n14 c14)) .u32 A14 n14 c14 (digs V Q1.natAbs) := si_setFar (si_setFar r14 (fun b o s e => by have := j14 b o s e; have : gq < w13.heap.size := (((y11.alloc (.cells #[.int .u32 1] 57)).drew.below b13)).lt; omega) _) (fun b o s e => by have := j14 b o s e; have : gq < w13.heap.size := (((y11.alloc (.cells #[.int .u32 1] 57)).drew.below b13)).lt; omega) _
  have v15 : SI ((w14.setCell ⟨gq, 0, none⟩ (.bool (decide (Q1 < 0)))).setCell ⟨gq, 1, none⟩ (.slice A14 n14 c14)) .u32 A4 n4 c4 (digs V (u * 10 ^ k2)) := si_two' (((s4.below bo).below b13).below b14) y14 _ _
  clear k14 f14 g14 S0 y14 r14 j14 z14 b14 b13 bo r13 z11 y11 s7 s4
  generalize ((w14.setCell ⟨gq, 0, none⟩ (.bool (decide (Q1 < 0)))).setCell ⟨gq, 1, none⟩ (.slice A14 n14 c14)) = w15 at *
  have zl := z15.drew
  have yl := y15.drew
  have sl := s15.below (Below.refl _ _).drew
  have ul := v15.below (Below.refl _ _).drew
  have kl := pair yl
  clear z15 y15 s15 v15
  go_wp2
  go_region_held3 (fun w' => w'.cell? ⟨gq, 0, none⟩ = some (.bool (decide (Q1 < 0))) ∧ w'.cell? ⟨gq, 1, none⟩ = some (.slice A14 n14 c14))
    (first
      | (with_reducible exact kl)
      | (with_reducible exact k20)
      | (with_reducible exact k21)
      | (with_reducible exact f21))
    (first
      | (go_at_call 32; (with_reducible refine (HK2.out A4 n4 c4 _ ul).mono ?_); rintro e w20 ⟨A20, n20, c20, rfl, r20, _, b20⟩; have z20 := zl.below b20; have y20 := yl.below b20; have k20 := pair y20)
      | (go_at_call 55; (with_reducible refine (HML.out A14 A20 n14 c14 n20 c20 w20 (sl.below b20) r20).mono ?_); rintro e w21 ⟨A21, n21, c21, rfl, r21, j21, b21⟩; have z21 := z20.below b21; have y21 := y20.below b21; have k21 := pair y21; have f21 := pair_far y21 (show gq ≠ w.heap.size + 1 + 1 by omega) (.bool (decide (ZZ < 0))) (.slice A21 n21 c21) (.int .i64 e0); have q21 := z21.res))
  go_wp2
  obtain ⟨o1, o2⟩ := z21.ret (.bool (decide (ZZ < 0))) (.slice A21 n21 c21) (.int .i64 e0)
  have hl2 := z20.r.lt
  exact bodyPost_ret (res_bk rfl _ o1 rfl Tryz.underlying52 rfl (by kernel_rfl)) rfl ⟨A21, n21, c21, rfl, si_far3 r21 (fun b o s e => by have := j21 b o s e; omega) _ _ _, o2⟩
end Go.Proofs.YtllpggdmkdgggaaGreatDoor.Dc
