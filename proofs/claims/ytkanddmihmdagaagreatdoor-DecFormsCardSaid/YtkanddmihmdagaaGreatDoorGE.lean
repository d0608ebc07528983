/- Texts of one layer, joined: Qa, Qb, Qc, Qd, Qe, Wf, Wg. -/
import Derived.Test.YtkanddmihmdagaaGreatDoorGD
import Derived.Test.YtkanddmihmdagaaGreatDoorGC
set_option linter.unusedVariables false
set_option linter.unusedSimpArgs false
set_option linter.unusedSectionVars false
/- The document's answer of layer 2 (package quipuref02): Make. -/
namespace Go.Proofs.YtkanddmihmdagaaGreatDoor.Rw
open Go.RowKit Go.Proofs.YtkanddmihmdagaaGreatDoor.Dig Go.Proofs.YtkanddmihmdagaaGreatDoor.W Go.Proofs.YtkanddmihmdagaaGreatDoor.Nat Go.Proofs.YtkanddmihmdagaaGreatDoor.Wh
open Go.Proofs.YtkanddmihmdagaaGreatDoor.Rf (V V_two V_pos)

/-- what a function hands back: the whole number z -/
def GivesR (w : World) (z : Int) (e : Ending) (w' : World) : Prop :=
  ∃ A n c, e = .returned (.agg #[.bool (decide (z < 0)), .slice A n c]) ∧ SI w' .u32 A n c (digs V z.natAbs) ∧ (∀ b o s, A = some ⟨b, o, s⟩ → w.heap.size ≤ b) ∧ Below w.heap.size w w'
theorem two_resultsR {fn : Func} {p : Tmp} (h : fn.results = #[.cell p 58]) (tmps : Array Value) {w : World} {g : Nat} {a b : Value} (hg : Two w g 58 a b)
    (hp : tmps.getD p undef = .pointer (some ⟨g, 0, none⟩)) : (results fn tmps).run Tryz.prog w = .ok (.agg #[a, b]) w :=
  results_cell_row h tmps w g _ _ _ _ hp hg Tryz.underlying58 rfl (by kernel_rfl)
/-- what a result handed on into an own cell gives -/
theorem put_resR {w W w1 : World} {g n c : Nat} {A : Option Addr} {D : List Nat} {u v a b : Value} {t : TypeId} (hW : Below w.heap.size w W) (hg : Two W g t u v) (hgw : w.heap.size ≤ g) (hs : SI w1 .u32 A n c D) (hf : ∀ b o s, A = some ⟨b, o, s⟩ → W.heap.size ≤ b) (hb : Below W.heap.size W w1) :
    SI ((w1.setCell ⟨g, 0, none⟩ a).setCell ⟨g, 1, none⟩ b) .u32 A n c D ∧ (∀ b o s, A = some ⟨b, o, s⟩ → w.heap.size ≤ b) ∧ Below w.heap.size w ((w1.setCell ⟨g, 0, none⟩ a).setCell ⟨g, 1, none⟩ b) := by
  have hlt := hg.lt
  have far : ∀ b o s, A = some ⟨b, o, s⟩ → b ≠ g := fun b o s e => by have := hf b o s e; omega
  exact ⟨Wh.si_setFar (Wh.si_setFar hs far _) far _, fun b o s e => Nat.le_trans hW.size (hf b o s e), ((hW.trans (hb.mono hW.size)).setCell hgw _).setCell hgw _⟩
set_option maxHeartbeats 2000000 in
set_option maxRecDepth 100000 in
theorem rmake_calls (ng : Bool) (A : Option Addr) (n c : Nat) (l : List Nat) (w : World) (h : SI w .u32 A n c l) (hl : Lt V l) (hn : n ≤ 4398046511104) :
    Calls Tryz.prog 74 #[.bool ng, .slice A n c] w (GivesR w (sg ng (val V l))) := by
  obtain ⟨W1, hW1⟩ : ∃ W1, W1 = w.alloc (.cells #[.bool false, .slice none 0 0] 58) := ⟨_, rfl⟩
  obtain ⟨W2, hW2⟩ : ∃ W2, W2 = W1.alloc (.cells #[] 129) := ⟨_, rfl⟩
  have hR := Two.start w (.bool false) (.slice none 0 0) 58
  have hA1 := alloc_below w (.cells #[.bool false, .slice none 0 0] 58)
  have hz : W1.heap.size = w.heap.size + 1 := by rw [hW1]; simp
  rw [← hW1] at hR hA1
  have hA2 := alloc_below W1 (.cells #[] 129)
  rw [← hW2] at hA2
  have hR2 := hR.below hA2
  have hB : Below w.heap.size w W2 := hA1.trans (hA2.mono (by rw [hz]; omega))
  have hN := Rf.add_calls A (some ⟨W1.heap.size, 0, none⟩) n c 0 0 l [] W2 (h.below hB) (SI.nil _ _ _ _ (by omega)) hl (Lt_nil _) hn (by omega)
  rw [val_nil, Nat.add_zero, hz] at hN
  generalize val V l = m at *
  have HW : Hid (W2 = (w.alloc (.cells #[.bool false, .slice none 0 0] 58)).alloc (.cells #[] 129)) := show _ = _ by rw [hW2, hW1]
  have HR := Lib.hid hR2
  have HB := Lib.hid hB
  rw [HW.out] at hN HR HB
  have HN := Lib.hid hN
  clear hN hR hA1 hA2 hR2 hB hW1 hW2 hz h HW
  cases ng
  · go_enter Tryz.func74, Tryz.ntmps74
    go_wp2_with (go_at_call 113; (with_reducible refine HN.out.mono ?_); rintro e w1 ⟨A1, n1, c1, rfl, r1, f1, b1⟩; have hr := HR.out.below b1; have q0 := hr.c0; have q1 := hr.c1; have k0 := hr.f0; have k1 := hr.f1)
    obtain ⟨p1, p2, p3⟩ := put_resR (a := .bool false) (b := .slice A1 n1 c1) HB.out HR.out (Nat.le_refl _) r1 f1 b1
    exact bodyPost_ret (two_resultsR rfl _ (hr.store _ _) rfl) rfl ⟨A1, n1, c1, by rw [sg_neg]; rfl, by rw [sg_abs]; exact p1, p2, p3⟩
  · by_cases h0 : m = 0
    · subst h0
      have hz : digs V 0 = [] := digs_zero V
      rw [hz] at HN
      clear hz
      go_enter Tryz.func74, Tryz.ntmps74
      go_wp2_with (go_at_call 113; (with_reducible refine HN.out.mono ?_); rintro e w1 ⟨A1, n1, c1, rfl, r1, f1, b1⟩; obtain rfl : n1 = 0 := r1.len.symm; have hr := HR.out.below b1; have q0 := hr.c0; have q1 := hr.c1; have k0 := hr.f0; have k1 := hr.f1)
      obtain ⟨p1, p2, p3⟩ := put_resR (a := .bool false) (b := .slice A1 0 c1) HB.out HR.out (Nat.le_refl _) r1 f1 b1
      exact bodyPost_ret (two_resultsR rfl _ (hr.store _ _) rfl) rfl ⟨A1, 0, c1, rfl, by rw [sg_abs, digs_zero]; exact p1, p2, p3⟩
    · have hp := digs_length_pos V_two h0
      have HP := Lib.hid hp
      have H0 : Hid (0 < m) := Nat.pos_of_ne_zero h0
      clear hp h0
      go_enter Tryz.func74, Tryz.ntmps74
      go_wp2_with (go_at_call 113; (with_reducible refine HN.out.mono ?_); rintro e w1 ⟨A1, n1, c1, rfl, r1, f1, b1⟩; have hn1 : 0 < n1 := (by rw [← r1.len]; exact HP.out); have hr := HR.out.below b1; have q0 := hr.c0; have q1 := hr.c1; have k0 := hr.f0; have k1 := hr.f1)
      obtain ⟨p1, p2, p3⟩ := put_resR (a := .bool true) (b := .slice A1 n1 c1) HB.out HR.out (Nat.le_refl _) r1 f1 b1
      exact bodyPost_ret (two_resultsR rfl _ (hr.store _ _) rfl) rfl ⟨A1, n1, c1, by rw [sg_neg, decide_eq_true H0.out]; rfl, by rw [sg_abs]; exact p1, p2, p3⟩
end Go.Proofs.YtkanddmihmdagaaGreatDoor.Rw

/- The document's answer of layer 2, on: In, Neg, Same. -/
namespace Go.Proofs.YtkanddmihmdagaaGreatDoor.Rw
open Go.RowKit Go.Proofs.YtkanddmihmdagaaGreatDoor.Dig Go.Proofs.YtkanddmihmdagaaGreatDoor.W Go.Proofs.YtkanddmihmdagaaGreatDoor.Nat Go.Proofs.YtkanddmihmdagaaGreatDoor.Wh
open Go.Proofs.YtkanddmihmdagaaGreatDoor.Rf (V V_two V_pos)

theorem dv (m : Nat) : Lt V (digs V m) := digs_lt V_two m
theorem rmake_d (ng : Bool) (A : Option Addr) (n c m : Nat) (w : World) (h : SI w .u32 A n c (digs V m)) (hn : n ≤ 4398046511104) : Calls Tryz.prog 74 #[.bool ng, .slice A n c] w (GivesR w (sg ng m)) := by
  have e := rmake_calls ng A n c (digs V m) w h (dv m) hn
  rw [val_digs V_two] at e
  exact e
theorem len_in {l : List Nat} {n : Nat} (hl : Lt U l) (h : l.length = n) : (digs V (val U l)).length ≤ 4 * n := by
  have h1 := val_lt U_pos hl
  rw [h, ← Rf.V_four, ← Nat.pow_mul] at h1
  exact (digs_length_le V_two _ _).2 h1
end Go.Proofs.YtkanddmihmdagaaGreatDoor.Rw

/- The document's answer of layer 2, on: Neg, Mul. -/
namespace Go.Proofs.YtkanddmihmdagaaGreatDoor.Rw
open Go.RowKit Go.Proofs.YtkanddmihmdagaaGreatDoor.Dig Go.Proofs.YtkanddmihmdagaaGreatDoor.W Go.Proofs.YtkanddmihmdagaaGreatDoor.Nat Go.Proofs.YtkanddmihmdagaaGreatDoor.Wh
open Go.Proofs.YtkanddmihmdagaaGreatDoor.Rf (V V_two V_pos)

/-- the argument's box and the result's cell -/
theorem box_oneR (w : World) (u v : Value) : Two ((w.alloc (.cells #[u, v] 58)).alloc (.cells #[.bool false, .slice none 0 0] 58)) w.heap.size 58 u v ∧
    Two ((w.alloc (.cells #[u, v] 58)).alloc (.cells #[.bool false, .slice none 0 0] 58)) (w.heap.size + 1) 58 (.bool false) (.slice none 0 0) ∧
    Below w.heap.size w ((w.alloc (.cells #[u, v] 58)).alloc (.cells #[.bool false, .slice none 0 0] 58)) := by
  have hz : (w.alloc (.cells #[u, v] 58)).heap.size = w.heap.size + 1 := by simp
  have h1 := (Two.start w u v 58).below (alloc_below _ (.cells #[.bool false, .slice none 0 0] 58))
  have h2 := Two.start (w.alloc (.cells #[u, v] 58)) (.bool false) (.slice none 0 0) 58
  rw [hz] at h2
  exact ⟨h1, h2, (alloc_below w _).alloc (by rw [hz]; omega) _⟩
set_option maxHeartbeats 2000000 in
set_option maxRecDepth 100000 in
theorem rneg_calls (ng : Bool) (A : Option Addr) (n c : Nat) (l : List Nat) (w : World) (h : SI w .u32 A n c l) (hl : Lt V l) (hn : n ≤ 4398046511104) :
    Calls Tryz.prog 111 #[.agg #[.bool ng, .slice A n c]] w (GivesR w (-(sg ng (val V l)))) := by
  obtain ⟨B1, B2, B3⟩ := box_oneR w (.bool ng) (.slice A n c)
  have hM := rmake_calls (!ng) A n c l _ (h.below B3) hl hn
  rw [sg_not] at hM
  generalize -(sg ng (val V l)) = z at hM ⊢
  have HM := Lib.hid hM
  clear hM
  have H2 := Lib.hid B2
  have H3 := Lib.hid B3
  clear B1 B2 B3 h
  go_enter Tryz.func111, Tryz.ntmps111
  go_wp2_with (go_at_call 74; (with_reducible refine HM.out.mono ?_); rintro e w1 ⟨A1, n1, c1, rfl, r1, f1, b1⟩; have hr := H2.out.below b1; have q0 := hr.c0; have q1 := hr.c1; have k0 := hr.f0; have k1 := hr.f1)
  obtain ⟨p1, p2, p3⟩ := put_resR (a := .bool (decide (z < 0))) (b := .slice A1 n1 c1) H3.out H2.out (by omega) r1 f1 b1
  exact bodyPost_ret (two_resultsR rfl _ (hr.store _ _) rfl) rfl ⟨A1, n1, c1, rfl, p1, p2, p3⟩
/-- the boxes of two arguments, and the result's cell -/
def WR3 (w : World) (u v u' v' : Value) : World := ((w.alloc (.cells #[u, v] 58)).alloc (.cells #[u', v'] 58)).alloc (.cells #[.bool false, .slice none 0 0] 58)
structure BoxR (w W : World) (u v u' v' : Value) : Prop where
  a : Two W w.heap.size 58 u v
  b : Two W (w.heap.size + 1) 58 u' v'
  r : Two W (w.heap.size + 2) 58 (.bool false) (.slice none 0 0)
  bl : Below w.heap.size w W
theorem BoxR.start (w : World) (u v u' v' : Value) : BoxR w (WR3 w u v u' v') u v u' v' := by
  have hz : (w.alloc (.cells #[u, v] 58)).heap.size = w.heap.size + 1 := by simp
  have hz2 : ((w.alloc (.cells #[u, v] 58)).alloc (.cells #[u', v'] 58)).heap.size = w.heap.size + 2 := by simp
  have h1 := ((Two.start w u v 58).below (alloc_below _ (.cells #[u', v'] 58))).below (alloc_below _ (.cells #[.bool false, .slice none 0 0] 58))
  have h2 := (Two.start (w.alloc (.cells #[u, v] 58)) u' v' 58).below (alloc_below _ (.cells #[.bool false, .slice none 0 0] 58))
  have h3 := Two.start ((w.alloc (.cells #[u, v] 58)).alloc (.cells #[u', v'] 58)) (.bool false) (.slice none 0 0) 58
  rw [hz] at h2
  rw [hz2] at h3
  exact ⟨h1, h2, h3, ((alloc_below w _).alloc (by rw [hz]; omega) _).alloc (by rw [hz2]; omega) _⟩
theorem BoxR.below {w W W' : World} {u v u' v' : Value} (h : BoxR w W u v u' v') (hb : Below W.heap.size W W') : BoxR w W' u v u' v' :=
  ⟨h.a.below hb, h.b.below hb, h.r.below hb, h.bl.trans (hb.mono h.bl.size)⟩
theorem BoxR.rd {w W : World} {u v u' v' : Value} (h : BoxR w W u v u' v') : Rd4 W w.heap.size u v u' v' := ⟨h.a.c0, h.a.c1, h.b.c0, h.b.c1⟩
theorem len_mulR {l l' : List Nat} {n n' M : Nat} (hl : Lt V l) (hl' : Lt V l') (h : l.length = n) (h' : l'.length = n') (hn : n ≤ M) (hn' : n' ≤ M) : (digs V (val V l * val V l')).length ≤ M + M := by
  have h1 := val_lt V_pos hl
  have h2 := val_lt V_pos hl'
  rw [h] at h1
  rw [h'] at h2
  have p1 : V ^ n ≤ V ^ M := Nat.pow_le_pow_right V_pos hn
  have p2 : V ^ n' ≤ V ^ M := Nat.pow_le_pow_right V_pos hn'
  refine (digs_length_le V_two _ _).2 ?_
  rw [Nat.pow_add]
  exact Nat.mul_lt_mul'' (by omega) (by omega)
set_option maxHeartbeats 4000000 in
set_option maxRecDepth 100000 in
theorem rmul_f_f (A A' : Option Addr) (n c n' c' : Nat) (l l' : List Nat) (w : World) (h : SI w .u32 A n c l) (h' : SI w .u32 A' n' c' l') (hl : Lt V l) (hl' : Lt V l') (hn : n ≤ 1099511627776) (hn' : n' ≤ 1099511627776) :
    Calls Tryz.prog 53 #[.agg #[.bool false, .slice A n c], .agg #[.bool false, .slice A' n' c']] w (GivesR w (sg false (val V l * val V l'))) := by
  have hB := BoxR.start w (.bool false) (.slice A n c) (.bool false) (.slice A' n' c')
  obtain ⟨W, hW⟩ : ∃ W, W = WR3 w (.bool false) (.slice A n c) (.bool false) (.slice A' n' c') := ⟨_, rfl⟩
  rw [← hW] at hB
  have HW := Lib.hid hW
  unfold WR3 at HW
  have hB2 := hB.below (Below.refl W.heap.size W).drew
  have kp := hB2.rd
  have hA := Rf.mul_calls A A' n c n' c' l l' W.drew (h.below hB2.bl) (h'.below hB2.bl) hl hl' (by omega) (by omega)
  have hlen := len_mulR hl hl' h.len h'.len hn hn'
  generalize val V l * val V l' = m at *
  have HA := Lib.hid hA
  have HL := Lib.hid hlen
  clear hA hlen hW h h' hB
  unfold Rd4 at kp
  go_enter Tryz.func53, Tryz.ntmps53
  go_wp2
  rw [← HW.out]
  clear HW
  go_region_held3 (fun w' => w'.cell? ⟨w.heap.size, 0, none⟩ = some (.bool false) ∧ w'.cell? ⟨w.heap.size, 1, none⟩ = some (.slice A n c) ∧ w'.cell? ⟨w.heap.size + 1, 0, none⟩ = some (.bool false) ∧ w'.cell? ⟨w.heap.size + 1, 1, none⟩ = some (.slice A' n' c'))
    (first
      | exact kp
      | exact k1
      | exact k2
      | exact k2.far _ _)
    (first
      | (go_at_call 96; (with_reducible refine HA.out.mono ?_); rintro e w1 ⟨A1, n1, c1, rfl, r1, u1, b1⟩; have x1 := hB2.below b1; have k1 := x1.rd)
      | (go_at_call 74; (with_reducible refine (rmake_d false A1 n1 c1 m w1 r1 (by have := r1.len; have := HL.out; omega)).mono ?_); rintro e w2 ⟨A2, n2, c2, rfl, r2, f2, b2⟩; have x2 := x1.below b2; have k2 := x2.rd; have q0 := x2.r.c0; have q1 := x2.r.c1; have g0 := x2.r.f0; have g1 := x2.r.f1))
  go_wp2
  obtain ⟨p1, p2, p3⟩ := put_resR (a := .bool (decide (sg false m < 0))) (b := .slice A2 n2 c2) x1.bl x1.r (by omega) r2 f2 b2
  exact bodyPost_ret (two_resultsR rfl _ (x2.r.store _ _) rfl) rfl ⟨A2, n2, c2, rfl, p1, p2, p3⟩
set_option maxHeartbeats 4000000 in
set_option maxRecDepth 100000 in
theorem rmul_f_t (A A' : Option Addr) (n c n' c' : Nat) (l l' : List Nat) (w : World) (h : SI w .u32 A n c l) (h' : SI w .u32 A' n' c' l') (hl : Lt V l) (hl' : Lt V l') (hn : n ≤ 1099511627776) (hn' : n' ≤ 1099511627776) :
    Calls Tryz.prog 53 #[.agg #[.bool false, .slice A n c], .agg #[.bool true, .slice A' n' c']] w (GivesR w (sg true (val V l * val V l'))) := by
  have hB := BoxR.start w (.bool false) (.slice A n c) (.bool true) (.slice A' n' c')
  obtain ⟨W, hW⟩ : ∃ W, W = WR3 w (.bool false) (.slice A n c) (.bool true) (.slice A' n' c') := ⟨_, rfl⟩
  rw [← hW] at hB
  have HW := Lib.hid hW
  unfold WR3 at HW
  have hB2 := hB.below (Below.refl W.heap.size W).drew
  have kp := hB2.rd
  have hA := Rf.mul_calls A A' n c n' c' l l' W.drew (h.below hB2.bl) (h'.below hB2.bl) hl hl' (by omega) (by omega)
  have hlen := len_mulR hl hl' h.len h'.len hn hn'
  generalize val V l * val V l' = m at *
  have HA := Lib.hid hA
  have HL := Lib.hid hlen
  clear hA hlen hW h h' hB
  unfold Rd4 at kp
  go_enter Tryz.func53, Tryz.ntmps53
  go_wp2
  rw [← HW.out]
  clear HW
  go_region_held3 (fun w' => w'.cell? ⟨w.heap.size, 0, none⟩ = some (.bool false) ∧ w'.cell? ⟨w.heap.size, 1, none⟩ = some (.slice A n c) ∧ w'.cell? ⟨w.heap.size + 1, 0, none⟩ = some (.bool true) ∧ w'.cell? ⟨w.heap.size + 1, 1, none⟩ = some (.slice A' n' c'))
    (first
      | exact kp
      | exact k1
      | exact k2
      | exact k2.far _ _)
    (first
      | (go_at_call 96; (with_reducible refine HA.out.mono ?_); rintro e w1 ⟨A1, n1, c1, rfl, r1, u1, b1⟩; have x1 := hB2.below b1; have k1 := x1.rd)
      | (go_at_call 74; (with_reducible refine (rmake_d true A1 n1 c1 m w1 r1 (by have := r1.len; have := HL.out; omega)).mono ?_); rintro e w2 ⟨A2, n2, c2, rfl, r2, f2, b2⟩; have x2 := x1.below b2; have k2 := x2.rd; have q0 := x2.r.c0; have q1 := x2.r.c1; have g0 := x2.r.f0; have g1 := x2.r.f1))
  go_wp2
  obtain ⟨p1, p2, p3⟩ := put_resR (a := .bool (decide (sg true m < 0))) (b := .slice A2 n2 c2) x1.bl x1.r (by omega) r2 f2 b2
  exact bodyPost_ret (two_resultsR rfl _ (x2.r.store _ _) rfl) rfl ⟨A2, n2, c2, rfl, p1, p2, p3⟩
set_option maxHeartbeats 4000000 in
set_option maxRecDepth 100000 in
theorem rmul_t_f (A A' : Option Addr) (n c n' c' : Nat) (l l' : List Nat) (w : World) (h : SI w .u32 A n c l) (h' : SI w .u32 A' n' c' l') (hl : Lt V l) (hl' : Lt V l') (hn : n ≤ 1099511627776) (hn' : n' ≤ 1099511627776) :
    Calls Tryz.prog 53 #[.agg #[.bool true, .slice A n c], .agg #[.bool false, .slice A' n' c']] w (GivesR w (sg true (val V l * val V l'))) := by
  have hB := BoxR.start w (.bool true) (.slice A n c) (.bool false) (.slice A' n' c')
  obtain ⟨W, hW⟩ : ∃ W, W = WR3 w (.bool true) (.slice A n c) (.bool false) (.slice A' n' c') := ⟨_, rfl⟩
  rw [← hW] at hB
  have HW := Lib.hid hW
  unfold WR3 at HW
  have hB2 := hB.below (Below.refl W.heap.size W).drew
  have kp := hB2.rd
  have hA := Rf.mul_calls A A' n c n' c' l l' W.drew (h.below hB2.bl) (h'.below hB2.bl) hl hl' (by omega) (by omega)
  have hlen := len_mulR hl hl' h.len h'.len hn hn'
  generalize val V l * val V l' = m at *
  have HA := Lib.hid hA
  have HL := Lib.hid hlen
  clear hA hlen hW h h' hB
  unfold Rd4 at kp
  go_enter Tryz.func53, Tryz.ntmps53
  go_wp2
  rw [← HW.out]
  clear HW
  go_region_held3 (fun w' => w'.cell? ⟨w.heap.size, 0, none⟩ = some (.bool true) ∧ w'.cell? ⟨w.heap.size, 1, none⟩ = some (.slice A n c) ∧ w'.cell? ⟨w.heap.size + 1, 0, none⟩ = some (.bool false) ∧ w'.cell? ⟨w.heap.size + 1, 1, none⟩ = some (.slice A' n' c'))
    (first
      | exact kp
      | exact k1
      | exact k2
      | exact k2.far _ _)
    (first
      | (go_at_call 96; (with_reducible refine HA.out.mono ?_); rintro e w1 ⟨A1, n1, c1, rfl, r1, u1, b1⟩; have x1 := hB2.below b1; have k1 := x1.rd)
      | (go_at_call 74; (with_reducible refine (rmake_d true A1 n1 c1 m w1 r1 (by have := r1.len; have := HL.out; omega)).mono ?_); rintro e w2 ⟨A2, n2, c2, rfl, r2, f2, b2⟩; have x2 := x1.below b2; have k2 := x2.rd; have q0 := x2.r.c0; have q1 := x2.r.c1; have g0 := x2.r.f0; have g1 := x2.r.f1))
  go_wp2
  obtain ⟨p1, p2, p3⟩ := put_resR (a := .bool (decide (sg true m < 0))) (b := .slice A2 n2 c2) x1.bl x1.r (by omega) r2 f2 b2
  exact bodyPost_ret (two_resultsR rfl _ (x2.r.store _ _) rfl) rfl ⟨A2, n2, c2, rfl, p1, p2, p3⟩
set_option maxHeartbeats 4000000 in
set_option maxRecDepth 100000 in
theorem rmul_t_t (A A' : Option Addr) (n c n' c' : Nat) (l l' : List Nat) (w : World) (h : SI w .u32 A n c l) (h' : SI w .u32 A' n' c' l') (hl : Lt V l) (hl' : Lt V l') (hn : n ≤ 1099511627776) (hn' : n' ≤ 1099511627776) :
    Calls Tryz.prog 53 #[.agg #[.bool true, .slice A n c], .agg #[.bool true, .slice A' n' c']] w (GivesR w (sg false (val V l * val V l'))) := by
  have hB := BoxR.start w (.bool true) (.slice A n c) (.bool true) (.slice A' n' c')
  obtain ⟨W, hW⟩ : ∃ W, W = WR3 w (.bool true) (.slice A n c) (.bool true) (.slice A' n' c') := ⟨_, rfl⟩
  rw [← hW] at hB
  have HW := Lib.hid hW
  unfold WR3 at HW
  have hB2 := hB.below (Below.refl W.heap.size W).drew
  have kp := hB2.rd
  have hA := Rf.mul_calls A A' n c n' c' l l' W.drew (h.below hB2.bl) (h'.below hB2.bl) hl hl' (by omega) (by omega)
  have hlen := len_mulR hl hl' h.len h'.len hn hn'
  generalize val V l * val V l' = m at *
  have HA := Lib.hid hA
  have HL := Lib.hid hlen
  clear hA hlen hW h h' hB
  unfold Rd4 at kp
  go_enter Tryz.func53, Tryz.ntmps53
  go_wp2
  rw [← HW.out]
  clear HW
  go_region_held3 (fun w' => w'.cell? ⟨w.heap.size, 0, none⟩ = some (.bool true) ∧ w'.cell? ⟨w.heap.size, 1, none⟩ = some (.slice A n c) ∧ w'.cell? ⟨w.heap.size + 1, 0, none⟩ = some (.bool true) ∧ w'.cell? ⟨w.heap.size + 1, 1, none⟩ = some (.slice A' n' c'))
    (first
      | exact kp
      | exact k1
      | exact k2
      | exact k2.far _ _)
    (first
      | (go_at_call 96; (with_reducible refine HA.out.mono ?_); rintro e w1 ⟨A1, n1, c1, rfl, r1, u1, b1⟩; have x1 := hB2.below b1; have k1 := x1.rd)
      | (go_at_call 74; (with_reducible refine (rmake_d false A1 n1 c1 m w1 r1 (by have := r1.len; have := HL.out; omega)).mono ?_); rintro e w2 ⟨A2, n2, c2, rfl, r2, f2, b2⟩; have x2 := x1.below b2; have k2 := x2.rd; have q0 := x2.r.c0; have q1 := x2.r.c1; have g0 := x2.r.f0; have g1 := x2.r.f1))
  go_wp2
  obtain ⟨p1, p2, p3⟩ := put_resR (a := .bool (decide (sg false m < 0))) (b := .slice A2 n2 c2) x1.bl x1.r (by omega) r2 f2 b2
  exact bodyPost_ret (two_resultsR rfl _ (x2.r.store _ _) rfl) rfl ⟨A2, n2, c2, rfl, p1, p2, p3⟩
theorem rmul_calls (ng ng' : Bool) (A A' : Option Addr) (n c n' c' : Nat) (l l' : List Nat) (w : World) (h : SI w .u32 A n c l) (h' : SI w .u32 A' n' c' l') (hl : Lt V l) (hl' : Lt V l') (hn : n ≤ 1099511627776) (hn' : n' ≤ 1099511627776) :
    Calls Tryz.prog 53 #[.agg #[.bool ng, .slice A n c], .agg #[.bool ng', .slice A' n' c']] w (GivesR w (sg ng (val V l) * sg ng' (val V l'))) := by
  rw [sg_mul]
  cases ng <;> cases ng'
  · exact rmul_f_f A A' n c n' c' l l' w h h' hl hl' hn hn'
  · exact rmul_f_t A A' n c n' c' l l' w h h' hl hl' hn hn'
  · exact rmul_t_f A A' n c n' c' l l' w h h' hl hl' hn hn'
  · exact rmul_t_t A A' n c n' c' l l' w h h' hl hl' hn hn'
end Go.Proofs.YtkanddmihmdagaaGreatDoor.Rw

/- Layer 2: what the laws compare by: Same, is, same, in. -/
namespace Go.Proofs.YtkanddmihmdagaaGreatDoor.Rw
open Go.RowKit Go.Proofs.YtkanddmihmdagaaGreatDoor.Dig Go.Proofs.YtkanddmihmdagaaGreatDoor.W Go.Proofs.YtkanddmihmdagaaGreatDoor.Nat Go.Proofs.YtkanddmihmdagaaGreatDoor.Wh
open Go.Proofs.YtkanddmihmdagaaGreatDoor.Rf (V V_two V_pos)

theorem below12' (w : World) (a b : Obj) : Below w.heap.size w ((w.alloc a).alloc b) := ((Below.refl _ _).alloc (Nat.le_refl _) a).alloc (by simp) b
end Go.Proofs.YtkanddmihmdagaaGreatDoor.Rw

/- Layer 2: what the laws compare by, on: is, in. -/
namespace Go.Proofs.YtkanddmihmdagaaGreatDoor.Rw
open Go.RowKit Go.Proofs.YtkanddmihmdagaaGreatDoor.Dig Go.Proofs.YtkanddmihmdagaaGreatDoor.W Go.Proofs.YtkanddmihmdagaaGreatDoor.Nat Go.Proofs.YtkanddmihmdagaaGreatDoor.Wh
open Go.Proofs.YtkanddmihmdagaaGreatDoor.Rf (V V_two V_pos)

theorem two12 (w : World) (u v u' v' : Value) (t t' : TypeId) : Two ((w.alloc (.cells #[u, v] t)).alloc (.cells #[u', v'] t')) w.heap.size t u v ∧ Two ((w.alloc (.cells #[u, v] t)).alloc (.cells #[u', v'] t')) (w.heap.size + 1) t' u' v' := by
  have hz : (w.alloc (.cells #[u, v] t)).heap.size = w.heap.size + 1 := by simp
  have h2 := Two.start (w.alloc (.cells #[u, v] t)) u' v' t'
  rw [hz] at h2
  exact ⟨(Two.start w u v t).below (alloc_below _ _), h2⟩
end Go.Proofs.YtkanddmihmdagaaGreatDoor.Rw

/- Layer 2, on: power, Pow5, Pow10; the document's Pow. -/
namespace Go.Proofs.YtkanddmihmdagaaGreatDoor.Wh
open Go.RowKit Go.Proofs.YtkanddmihmdagaaGreatDoor.Dig Go.Proofs.YtkanddmihmdagaaGreatDoor.W Go.Proofs.YtkanddmihmdagaaGreatDoor.Nat

theorem ofInt_i64 (a : Nat) (ha : a < 9223372036854775808) : (BitVec.ofInt 64 (a : Int)).toNat = a := by
  rw [BitVec.ofInt_natCast, BitVec.toNat_ofNat]; exact Nat.mod_eq_of_lt (by omega)
theorem i64_and_nat (a b : Nat) (ha : a < 9223372036854775808) (hb : b < 9223372036854775808) : Go.bits .and .i64 (a : Int) (b : Int) = ((a &&& b : Nat) : Int) := by
  have hx : a &&& b < 2 ^ 63 := Nat.and_lt_two_pow _ (by omega)
  show IntKind.i64.wrap ((BitVec.ofInt 64 (a : Int) &&& BitVec.ofInt 64 (b : Int)).toNat : Int) = _
  rw [BitVec.toNat_and, ofInt_i64 a ha, ofInt_i64 b hb, IntKind.wrap_i64]
  omega
theorem odd_and {k b : Nat} (hk : k ≤ 8192) (hb : k % 2 = b) : Go.bits .and .i64 (k : Int) 1 = (b : Nat) := by
  have := i64_and_nat k 1 (by omega) (by omega)
  rw [show ((1 : Nat) : Int) = 1 from rfl] at this
  rw [this, show (1 : Nat) = 2 ^ 1 - 1 from rfl, Nat.and_two_pow_sub_one_eq_mod, Nat.pow_one, hb]
theorem half_shr (j : Nat) : ((j : Nat) : Int).fdiv (2 ^ min (Int.toNat 1) IntKind.i64.bits) = ((j / 2 : Nat) : Int) := by
  have e : (2 : Int) ^ min (Int.toNat 1) IntKind.i64.bits = 2 := rfl
  rw [e, Int.fdiv_eq_ediv_of_nonneg _ (by omega)]
  omega
theorem half_shr' (j : Nat) : ((j : Nat) : Int).fdiv 2 = ((j / 2 : Nat) : Int) := by
  rw [Int.fdiv_eq_ediv_of_nonneg _ (by omega)]
  omega
theorem pow_step0 {o q k : Nat} (h : k % 2 = 0) : o * (q * q) ^ (k / 2) = o * q ^ k := by
  rw [← Nat.pow_two, ← Nat.pow_mul]; congr 2; omega
theorem pow_step1 {o q k : Nat} (h : k % 2 = 1) : o * q * (q * q) ^ (k / 2) = o * q ^ k := by
  rw [← Nat.pow_two, ← Nat.pow_mul, Nat.mul_assoc, ← Nat.pow_succ']; congr 2; omega
/-- the numbers of a power stay short -/
theorem pow_short' {a n x M : Nat} (ha : a ≤ 10) (hn : n ≤ M) (hM : M ≠ 0) (hx : x ≤ a ^ n) : (digs U x).length ≤ M := by
  refine (digs_length_le U_two _ _).2 (Nat.lt_of_le_of_lt hx ?_)
  have h1 : a ^ n ≤ 16 ^ n := Nat.pow_le_pow_left (by omega) n
  have h2 : 16 ^ n ≤ 16 ^ M := Nat.pow_le_pow_right (by omega) hn
  have h3 : 16 ^ M < U ^ M := Nat.pow_lt_pow_left (by decide) hM
  exact Nat.lt_of_le_of_lt (Nat.le_trans h1 h2) h3
theorem pow_short {a n x : Nat} (ha : a ≤ 10) (hn : n ≤ 8192) (hx : x ≤ a ^ n) : (digs U x).length ≤ 8192 := pow_short' ha hn (by decide) hx
theorem of_one (w : World) : Calls Tryz.prog 82 #[.int .u64 1] w (GivesOwn w 88 .u64 (digs U 1)) := Nat.of_calls 1 w (by decide)
theorem mul_d (A A' : Option Addr) (n c n' c' x y : Nat) (w : World) (h : SI w .u64 A n c (digs U x)) (h' : SI w .u64 A' n' c' (digs U y)) (hn : n ≤ 1099511627776) (hn' : n' ≤ 1099511627776) :
    Calls Tryz.prog 52 #[.slice A n c, .slice A' n' c'] w (GivesOwn w 88 .u64 (digs U (x * y))) := by
  have e := Nat.mul_calls A A' n c n' c' (digs U x) (digs U y) w h h' (dl x) (dl y) hn hn'
  rw [val_digs U_two, val_digs U_two] at e
  exact e
structure PowI (a n o q k : Nat) : Prop where
  inv : o * q ^ k = a ^ n
  po : 0 < o
  pq : 0 < q
theorem PowI.o_le {a n o q k : Nat} (h : PowI a n o q k) : o ≤ a ^ n := by
  rw [← h.inv]; exact Nat.le_mul_of_pos_right _ (Nat.pow_pos h.pq)
theorem PowI.q_le {a n o q k : Nat} (h : PowI a n o q (k + 1)) : q ≤ a ^ n := by
  rw [← h.inv, Nat.pow_succ, ← Nat.mul_assoc]
  exact Nat.le_mul_of_pos_left _ (Nat.mul_pos h.po (Nat.pow_pos h.pq))
theorem PowI.step0 {a n o q k : Nat} (h : PowI a n o q k) (hk : k % 2 = 0) : PowI a n o (q * q) (k / 2) := ⟨by rw [pow_step0 hk, h.inv], h.po, Nat.mul_pos h.pq h.pq⟩
theorem PowI.step1 {a n o q k : Nat} (h : PowI a n o q k) (hk : k % 2 = 1) : PowI a n (o * q) (q * q) (k / 2) := ⟨by rw [pow_step1 hk, h.inv], Nat.mul_pos h.po h.pq, Nat.mul_pos h.pq h.pq⟩
set_option maxHeartbeats 4000000 in
set_option maxRecDepth 100000 in
theorem power_calls (a n : Nat) (w : World) (ha : a ≤ 10) (ha0 : 0 < a) (hn : n ≤ 8192) :
    Calls Tryz.prog 92 #[.int .u64 (a : Nat), .int .i64 (n : Nat)] w (Gives w .u64 (digs U (a ^ n))) := by
  have haU : a < U := by unfold U; omega
  go_enter Tryz.func92, Tryz.ntmps92
  go_wp2_with (first
    | (go_at_call 82; first
        | ((with_reducible refine (of_one _).mono ?_); rintro e w1 ⟨v1, rfl, o1, b1⟩; obtain ⟨A1, n1, c1, rfl, r1⟩ := o1.reads_n)
        | ((with_reducible refine (Nat.of_calls a _ haU).mono ?_); rintro e w2 ⟨v2, rfl, o2, b2⟩; obtain ⟨A2, n2, c2, rfl, r2⟩ := o2.reads_n)))
  have hb2 := b1.trans (b2.mono b1.size)
  have r1' := r1.below b2
  have hst : PowI a n 1 a n := ⟨by rw [Nat.one_mul], by omega, ha0⟩
  clear o1 o2 b1 b2 r1
  go_loopw [1, 5, 6] (fun z v s wr => ∃ (k o q : Nat) (Ao : Option Addr) (no co : Nat) (Aq : Option Addr) (nq cq : Nat), z = .int .i64 (k : Nat) ∧ v = .slice Ao no co ∧ s = .slice Aq nq cq ∧ k ≤ 8192 ∧ PowI a n o q k ∧ SI wr .u64 Ao no co (digs U o) ∧ SI wr .u64 Aq nq cq (digs U q) ∧ Below w.heap.size w wr) (fun z _ _ _ => (intOf z).toNat)
  case atStart => exact ⟨n, 1, a, _, _, _, _, _, _, rfl, rfl, rfl, hn, hst, r1', r2, hb2⟩
  case round =>
    clear hst r1' r2 hb2
    obtain ⟨k, o, q, Ao, no, co, Aq, nq, cq, rfl, rfl, rfl, hk, hI, ho, hq, hb⟩ := hrel
    cases k with
    | zero =>
      have hfin : o = a ^ n := by rw [← hI.inv, Nat.pow_zero, Nat.mul_one]
      have HF := Lib.hid hfin
      clear hfin
      go_wp2
      go_ret
      exact ⟨_, _, _, rfl, by rw [← HF.out]; exact ho, hb⟩
    | succ k =>
      have ho8 : no ≤ 8192 := by rw [← ho.len]; exact pow_short ha hn hI.o_le
      have hq8 : nq ≤ 8192 := by rw [← hq.len]; exact pow_short ha hn hI.q_le
      rcases (show (k + 1) % 2 = 0 ∨ (k + 1) % 2 = 1 by omega) with hp | hp
      · have hR := hI.step0 hp
        obtain ⟨j, hj⟩ : ∃ j, j = k + 1 := ⟨_, rfl⟩
        rw [← hj] at hk hp hR ⊢
        have hj0 : 0 < j := by omega
        have hba := odd_and hk hp
        have hlt : j / 2 < j := by omega
        have HH := Lib.hid hp
        clear hj hI hp
        go_wp2_with (go_at_call 52; (with_reducible refine (mul_d _ _ _ _ _ _ _ _ _ hq hq (by omega) (by omega)).mono ?_); rintro e w3 ⟨v3, rfl, o3, b3⟩; obtain ⟨A3, n3, c3, rfl, r3⟩ := o3.reads_n)
        go_roundw
        case rel => exact ⟨j / 2, o, q * q, _, _, _, _, _, _, by go_num, rfl, rfl, by omega, hR, ho.below b3, r3, hb.trans (b3.mono hb.size)⟩
        case measure => simp [intOf]; omega
      · have hR := hI.step1 hp
        obtain ⟨j, hj⟩ : ∃ j, j = k + 1 := ⟨_, rfl⟩
        rw [← hj] at hk hp hR ⊢
        have hj0 : 0 < j := by omega
        have hba := odd_and hk hp
        have hlt : j / 2 < j := by omega
        have HH := Lib.hid hp
        clear hj hI hp
        go_wp2_with (go_at_call 52; first
          | ((with_reducible refine (mul_d Ao Aq _ _ _ _ _ _ _ ho hq (by omega) (by omega)).mono ?_); rintro e w2 ⟨v2, rfl, o2, b2⟩; obtain ⟨A2, n2, c2, rfl, r2⟩ := o2.reads_n; have hq2 := hq.below b2)
          | ((with_reducible refine (mul_d Aq Aq _ _ _ _ _ _ _ hq2 hq2 (by omega) (by omega)).mono ?_); rintro e w3 ⟨v3, rfl, o3, b3⟩; obtain ⟨A3, n3, c3, rfl, r3⟩ := o3.reads_n))
        go_roundw
        case rel => exact ⟨j / 2, o * q, q * q, _, _, _, _, _, _, by go_num, rfl, rfl, by omega, hR, r2.below b3, r3, hb.trans ((b2.trans (b3.mono b2.size)).mono hb.size)⟩
        case measure => simp [intOf]; omega
end Go.Proofs.YtkanddmihmdagaaGreatDoor.Wh

/- Layer 2, on: Pow5, Pow10; the document's Pow. -/
namespace Go.Proofs.YtkanddmihmdagaaGreatDoor.Wh
open Go.RowKit Go.Proofs.YtkanddmihmdagaaGreatDoor.Dig Go.Proofs.YtkanddmihmdagaaGreatDoor.W Go.Proofs.YtkanddmihmdagaaGreatDoor.Nat
open Go.Proofs.YtkanddmihmdagaaGreatDoor.Rf (V V_two V_pos)

def Gives1 (w : World) (l : List Nat) (e : Ending) (w' : World) : Prop := ∃ A n c, e = .returned (.tuple #[.slice A n c, .int .i64 0]) ∧ SI w' .u64 A n c l ∧ Below w.heap.size w w'
theorem power5 (n : Nat) (w : World) (hn : n ≤ 8192) : Calls Tryz.prog 92 #[.int .u64 5, .int .i64 (n : Nat)] w (Gives w .u64 (digs U (5 ^ n))) := power_calls 5 n w (by omega) (by omega) hn
theorem power10 (n : Nat) (w : World) (hn : n ≤ 8192) : Calls Tryz.prog 92 #[.int .u64 10, .int .i64 (n : Nat)] w (Gives w .u64 (digs U (10 ^ n))) := power_calls 10 n w (by omega) (by omega) hn
theorem pow10_calls (n : Nat) (w : World) (hn : n ≤ 8192) : Calls Tryz.prog 79 #[.int .i64 (n : Nat)] w (Gives1 w (digs U (10 ^ n))) := by
  have HP := Lib.hid (power10 n w hn)
  go_enter Tryz.func79, Tryz.ntmps79
  go_wp2_with (go_at_call 92; (with_reducible refine HP.out.mono ?_); rintro e w1 ⟨A1, n1, c1, rfl, r1, b1⟩)
  go_ret2
  exact ⟨_, _, _, rfl, r1, b1⟩
theorem pow10_err (n : Int) (w : World) (hn : n < 0 ∨ 8192 < n) : Calls Tryz.prog 79 #[.int .i64 n] w fun e w' => e = .returned (.tuple #[.slice none 0 0, .int .i64 23]) ∧ w = w' := by
  rcases hn with hn | hn
  all_goals
    go_enter Tryz.func79, Tryz.ntmps79
    go_wp2
    go_ret2
    exact ⟨rfl, rfl⟩
theorem rpow_short {a n x : Nat} (ha : a ≤ 10) (hx : x ≤ a ^ n) (hn : n ≠ 0) : (digs V x).length ≤ n := by
  refine (digs_length_le V_two _ _).2 (Nat.lt_of_le_of_lt hx ?_)
  exact Nat.pow_lt_pow_left (by unfold Rf.V; omega) hn
theorem rmul_d (A A' : Option Addr) (n c n' c' x y : Nat) (w : World) (h : SI w .u32 A n c (digs V x)) (h' : SI w .u32 A' n' c' (digs V y)) (hn : n ≤ 4398046511104) (hn' : n' ≤ 4398046511104) :
    Calls Tryz.prog 96 #[.slice A n c, .slice A' n' c'] w (Rf.GivesF w .u32 (digs V (x * y))) := by
  have e := Rf.mul_calls A A' n c n' c' (digs V x) (digs V y) w h h' (digs_lt V_two x) (digs_lt V_two y) hn hn'
  rw [val_digs V_two, val_digs V_two] at e
  exact e
set_option maxHeartbeats 4000000 in
set_option maxRecDepth 100000 in
theorem rpow_calls (a n : Nat) (w : World) (ha : a ≤ 10) (ha0 : 0 < a) (hn : n ≤ 1048576) :
    Calls Tryz.prog 112 #[.int .i64 (a : Nat), .int .i64 (n : Nat)] w (Gives w .u32 (digs V (a ^ n))) := by
  have h1 : digs V 1 = [1] := digs_one V_two (by decide) (by omega)
  have H1 := Lib.hid h1
  have haV : (digs V a).length ≤ 1 := (digs_length_le V_two a 1).2 (by rw [Nat.pow_one]; unfold Rf.V; omega)
  have HA := Lib.hid haV
  clear h1 haV
  go_enter Tryz.func112, Tryz.ntmps112
  go_wp2
  go_loopw [5, 6] (fun v z wr => ∃ (i : Nat) (Ao : Option Addr) (no co : Nat), z = .int .i64 (i : Nat) ∧ v = .slice Ao no co ∧ i ≤ n ∧ SI wr .u32 Ao no co (digs V (a ^ i)) ∧ Below w.heap.size w wr) (fun _ z _ => n - (intOf z).toNat)
  case atStart => exact ⟨0, _, 1, 1, rfl, rfl, Nat.zero_le _, by rw [Nat.pow_zero, H1.out]; exact Rf.lit32_one w, alloc_below _ _⟩
  case round =>
    obtain ⟨i, Ao, no, co, rfl, rfl, hi, ho, hb⟩ := hrel
    by_cases hlt : i < n
    · have hno : no ≤ n := by
        rw [← ho.len]
        exact rpow_short ha (Nat.pow_le_pow_right ha0 (Nat.le_of_lt hlt)) (by omega)
      have hS := Rf.small_calls a wr (by omega)
      have HS := Lib.hid hS
      clear hS
      obtain ⟨x, hx⟩ : ∃ x, x = a ^ i := ⟨_, rfl⟩
      have HX := Lib.hid hx
      rw [← hx] at ho
      clear hx
      go_wp2_with (first
        | (go_at_call 149; (with_reducible refine HS.out.mono ?_); rintro e w1 ⟨A1, n1, c1, rfl, r1, f1, b1⟩; have ho1 := ho.below b1; have hn1 : n1 ≤ 1 := (by rw [← r1.len]; exact HA.out))
        | (go_at_call 96; (with_reducible refine (rmul_d _ _ _ _ _ _ _ _ _ ho1 r1 (by omega) (by omega)).mono ?_); rintro e w2 ⟨A2, n2, c2, rfl, r2, f2, b2⟩))
      go_roundw
      case rel => exact ⟨i + 1, _, _, _, by go_num, rfl, by omega, by rw [Nat.pow_succ, ← HX.out]; exact r2, hb.trans ((b1.trans (b2.mono b1.size)).mono hb.size)⟩
      case measure => simp [intOf]; omega
    · obtain rfl : i = n := by omega
      go_wp2
      go_ret
      exact ⟨_, _, _, rfl, ho, hb⟩
end Go.Proofs.YtkanddmihmdagaaGreatDoor.Wh
