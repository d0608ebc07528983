/- Texts of one layer, joined: La, Qf, Qi, Uo, Lg, Lh. -/
import Derived.Test.YtkaajgcjdgjcbaaGreatDoorGF
import Derived.Test.YtkaajgcjdgjcbaaGreatDoorGE
import Derived.Test.YtkaajgcjdgjcbaaGreatDoorGD
set_option linter.unusedVariables false
set_option linter.unusedSimpArgs false
set_option linter.unusedSectionVars false
/- Layer 2's laws: WholePowers. -/
namespace Go.Proofs.YtkaajgcjdgjcbaaGreatDoor.Aw
open Go.RowKit Go.Proofs.YtkaajgcjdgjcbaaGreatDoor.Dig Go.Proofs.YtkaajgcjdgjcbaaGreatDoor.W Go.Proofs.YtkaajgcjdgjcbaaGreatDoor.Nat Go.Proofs.YtkaajgcjdgjcbaaGreatDoor.Wh Go.Proofs.YtkaajgcjdgjcbaaGreatDoor.Td Go.Proofs.YtkaajgcjdgjcbaaGreatDoor.Bu Go.Proofs.YtkaajgcjdgjcbaaGreatDoor.Tx
open Go.Proofs.YtkaajgcjdgjcbaaGreatDoor.Rf (V V_two V_pos)

theorem on {w W W' : World} (h : Below w.heap.size w W) (b : Below W.heap.size W W') : Below w.heap.size w W' := h.trans (b.mono h.size)
theorem rpow5 (n : Nat) (w : World) (hn : n ≤ 8192) : Calls Tryz.prog 30 #[.int .i64 5, .int .i64 (n : Nat)] w (Gives w .u32 (digs V (5 ^ n))) := rpow_calls 5 n w (by omega) (by omega) (by omega)
theorem rshl_d (A : Option Addr) (n c m k : Nat) (w : World) (h : SI w .u32 A n c (digs V m)) (hn : n ≤ 4398046511104) (hk : k ≤ 65536) :
    Calls Tryz.prog 33 #[.slice A n c, .int .i64 (k : Nat)] w (Rf.GivesF w .u32 (digs V (m * 2 ^ k))) := by
  have e := Rf.shl_calls A n c (digs V m) k w h (digs_lt V_two m) hn hk
  rw [val_digs V_two] at e
  exact e
theorem rpow_len' {a n x M : Nat} (ha : a ≤ 10) (hx : x ≤ a ^ n) (hn : n ≤ M) (hM : M ≠ 0) : (digs V x).length ≤ M := by
  refine (digs_length_le V_two _ _).2 (Nat.lt_of_le_of_lt hx ?_)
  have h1 : a ^ n ≤ 10 ^ n := Nat.pow_le_pow_left ha n
  have h2 : 10 ^ n ≤ 10 ^ M := Nat.pow_le_pow_right (by omega) hn
  have h3 : 10 ^ M < V ^ M := Nat.pow_lt_pow_left (by decide) hM
  exact Nat.lt_of_le_of_lt (Nat.le_trans h1 h2) h3
theorem rpow_len {a n x : Nat} (ha : a ≤ 10) (hx : x ≤ a ^ n) (hn : n ≤ 8192) : (digs V x).length ≤ 8192 := rpow_len' ha hx hn (by decide)
theorem five_ten (k : Nat) : 5 ^ k * 2 ^ k = 10 ^ k := by rw [← Nat.mul_pow]
set_option maxHeartbeats 4000000 in
set_option maxRecDepth 100000 in
theorem wholePowers_calls (z : Int) (w : World) (hp : Pow w) :
    Calls Tryz.prog 5 #[.int .i64 z] w fun e w' => e = .returned (.bool true) ∧ Below w.heap.size w w' := by
  have HP := Lib.hid hp
  clear hp
  by_cases hin : 0 ≤ z ∧ z ≤ 8192
  · obtain ⟨k, rfl⟩ : ∃ k : Nat, z = k := ⟨z.toNat, by omega⟩
    have hk : k ≤ 8192 := by omega
    clear hin
    have hL1 := rpow_len (a := 5) (by omega) (Nat.le_refl _) hk
    have hL2 := rpow_len (a := 10) (by omega) (Nat.le_refl _) hk
    have HL1 := Lib.hid hL1
    have HL2 := Lib.hid hL2
    have h5 := five_ten k
    have H5 := Lib.hid h5
    have HA := Lib.hid (fun w1 => pow5_calls k w1 hk)
    have HB := Lib.hid (fun w1 => Wh.pow10_calls k w1 hk)
    have HC := Lib.hid (fun w1 => rpow5 k w1 hk)
    have HD := Lib.hid (fun (A : Option Addr) (n c : Nat) (w1 : World) (h : SI w1 .u32 A n c (digs V (5 ^ k))) => rshl_d A n c (5 ^ k) k w1 h (by rw [← h.len]; omega) (by omega))
    rw [h5] at HD
    clear hL1 hL2 h5
    generalize 5 ^ k = p at *
    generalize 10 ^ k = t at *
    go_enter Tryz.func5, Tryz.ntmps5
    go_wp2_with (first
      | (go_at_call 28; (with_reducible refine (HA.out w).mono ?_); rintro e w1 ⟨A1, n1, c1, rfl, r1, b1⟩)
      | (go_at_call 29; (with_reducible refine (HB.out w1).mono ?_); rintro e w2 ⟨A2, n2, c2, rfl, r2, b2⟩)
      | (go_at_call 13; (with_reducible refine (awake_calls w2 ((HP.out.below b1).below b2)).mono ?_); rintro e w3 ⟨rfl, b3⟩)
      | (go_at_call 30; (with_reducible refine (HC.out w3).mono ?_); rintro e w4 ⟨A4, n4, c4, rfl, r4, b4⟩)
      | (go_at_call 32; first
        | ((with_reducible refine (Rw.out_d A4 n4 c4 p w4 r4 (by rw [← r4.len]; have := HL1.out; omega)).mono ?_); rintro e w5 ⟨v5, rfl, o5, b5⟩; obtain ⟨A5, n5, c5, rfl, r5⟩ := o5.reads_n)
        | ((with_reducible refine (Rw.out_d A7 n7 c7 t w7 r7 (by rw [← r7.len]; have := HL2.out; omega)).mono ?_); rintro e w8 ⟨v8, rfl, o8, b8⟩; obtain ⟨A8, n8, c8, rfl, r8⟩ := o8.reads_n))
      | (go_at_call 31; first
        | ((with_reducible refine (Rf.same_calls A1 A5 n1 c1 n5 c5 _ w5 ((((r1.below b2).below b3).below b4).below b5) r5).mono ?_); rintro e w6 ⟨rfl, d6⟩)
        | ((with_reducible refine (Rf.same_calls A2 A8 n2 c2 n8 c8 _ w8 ((((((r2.below b3).below b4).below b5).below d6.below).below b7).below b8) r8).mono ?_); rintro e w9 ⟨rfl, d9⟩))
      | (go_at_call 33; (with_reducible refine (HD.out A4 n4 c4 w6 ((r4.below b5).below d6.below)).mono ?_); rintro e w7 ⟨A7, n7, c7, rfl, r7, f7, b7⟩))
    go_ret
    exact ⟨rfl, on (on (on (on (on (on (on (on b1 b2) b3) b4) b5) d6.below) b7) b8) d9.below⟩
  · have hin' : z < 0 ∨ 8192 < z := by omega
    have HA := Lib.hid (fun w1 => pow5_err z w1 hin')
    have HB := Lib.hid (fun w1 => pow10_err z w1 hin')
    rcases Int.lt_or_le z 0 with h0 | h0
    · have hd1 : decide (z < 0) = true := decide_eq_true h0
      clear hin hin' h0
      go_enter Tryz.func5, Tryz.ntmps5
      go_wp2_with (first
        | (go_at_call 28; (with_reducible refine (HA.out w).mono ?_); rintro e w1 ⟨rfl, rfl⟩)
        | (go_at_call 29; (with_reducible refine (HB.out w).mono ?_); rintro e w2 ⟨rfl, rfl⟩)
        | (go_at_call 13; (with_reducible refine (awake_calls w HP.out).mono ?_); rintro e w3 ⟨rfl, b3⟩))
      go_ret
      exact ⟨rfl, b3⟩
    · have hd1 : decide (z < 0) = false := decide_eq_false (by omega)
      have hd2 : decide (8192 < z) = true := decide_eq_true (by omega)
      clear hin hin' h0
      go_enter Tryz.func5, Tryz.ntmps5
      go_wp2_with (first
        | (go_at_call 28; (with_reducible refine (HA.out w).mono ?_); rintro e w1 ⟨rfl, rfl⟩)
        | (go_at_call 29; (with_reducible refine (HB.out w).mono ?_); rintro e w2 ⟨rfl, rfl⟩)
        | (go_at_call 13; (with_reducible refine (awake_calls w HP.out).mono ?_); rintro e w3 ⟨rfl, b3⟩))
      go_ret
      exact ⟨rfl, b3⟩
end Go.Proofs.YtkaajgcjdgjcbaaGreatDoor.Aw

/- The document's answer of layer 2, on: Add of like signs. -/
namespace Go.Proofs.YtkaajgcjdgjcbaaGreatDoor.Rw
open Go.RowKit Go.Proofs.YtkaajgcjdgjcbaaGreatDoor.Dig Go.Proofs.YtkaajgcjdgjcbaaGreatDoor.W Go.Proofs.YtkaajgcjdgjcbaaGreatDoor.Nat Go.Proofs.YtkaajgcjdgjcbaaGreatDoor.Wh
open Go.Proofs.YtkaajgcjdgjcbaaGreatDoor.Rf (V V_two V_pos)

theorem len_addR {l l' : List Nat} {n n' M : Nat} (hl : Lt V l) (hl' : Lt V l') (h : l.length = n) (h' : l'.length = n') (hn : n ≤ M) (hn' : n' ≤ M) : (digs V (val V l + val V l')).length ≤ M + 1 := by
  have h1 := val_lt V_pos hl
  have h2 := val_lt V_pos hl'
  have p1 : V ^ l.length ≤ V ^ M := Nat.pow_le_pow_right V_pos (by omega)
  have p2 : V ^ l'.length ≤ V ^ M := Nat.pow_le_pow_right V_pos (by omega)
  have p3 : V ^ M * 2 ≤ V ^ (M + 1) := by rw [Nat.pow_succ]; exact Nat.mul_le_mul_left _ V_two
  exact (digs_length_le V_two _ _).2 (by omega)
set_option maxHeartbeats 4000000 in
set_option maxRecDepth 100000 in
theorem radd_f (A A' : Option Addr) (n c n' c' : Nat) (l l' : List Nat) (w : World) (h : SI w .u32 A n c l) (h' : SI w .u32 A' n' c' l') (hl : Lt V l) (hl' : Lt V l') (hn : n ≤ 1099511627776) (hn' : n' ≤ 1099511627776) :
    Calls Tryz.prog 19 #[.agg #[.bool false, .slice A n c], .agg #[.bool false, .slice A' n' c']] w (GivesR w (sg false (val V l + val V l'))) := by
  have hB := BoxR.start w (.bool false) (.slice A n c) (.bool false) (.slice A' n' c')
  obtain ⟨W, hW⟩ : ∃ W, W = WR3 w (.bool false) (.slice A n c) (.bool false) (.slice A' n' c') := ⟨_, rfl⟩
  rw [← hW] at hB
  have HW := Lib.hid hW
  unfold WR3 at HW
  have hB2 := hB.below (Below.refl W.heap.size W).drew
  have kp := hB2.rd
  have hA := Rf.add_calls A A' n c n' c' l l' W.drew (h.below hB2.bl) (h'.below hB2.bl) hl hl' (by omega) (by omega)
  have hlen := len_addR hl hl' h.len h'.len hn hn'
  generalize val V l + val V l' = m at *
  have HA := Lib.hid hA
  have HL := Lib.hid hlen
  clear hA hlen hW h h' hB
  unfold Rd4 at kp
  go_enter Tryz.func19, Tryz.ntmps19
  go_wp2
  rw [← HW.out]
  clear HW
  go_region_held3 (fun w' => w'.cell? ⟨w.heap.size, 0, none⟩ = some (.bool false) ∧ w'.cell? ⟨w.heap.size, 1, none⟩ = some (.slice A n c) ∧ w'.cell? ⟨w.heap.size + 1, 0, none⟩ = some (.bool false) ∧ w'.cell? ⟨w.heap.size + 1, 1, none⟩ = some (.slice A' n' c'))
    (first
      | exact kp
      | exact k1
      | exact k2
      | exact k2.far _ _)
    (first
      | (go_at_call 49; (with_reducible refine HA.out.mono ?_); rintro e w1 ⟨A1, n1, c1, rfl, r1, u1, b1⟩; have x1 := hB2.below b1; have k1 := x1.rd)
      | (go_at_call 46; (with_reducible refine (rmake_d false A1 n1 c1 m w1 r1 (by have := r1.len; have := HL.out; omega)).mono ?_); rintro e w2 ⟨A2, n2, c2, rfl, r2, f2, b2⟩; have x2 := x1.below b2; have k2 := x2.rd; have q0 := x2.r.c0; have q1 := x2.r.c1; have g0 := x2.r.f0; have g1 := x2.r.f1))
  go_wp2
  obtain ⟨p1, p2, p3⟩ := put_resR (a := .bool (decide (sg false m < 0))) (b := .slice A2 n2 c2) x1.bl x1.r (by omega) r2 f2 b2
  exact bodyPost_ret (two_resultsR rfl _ (x2.r.store _ _) rfl) rfl ⟨A2, n2, c2, rfl, p1, p2, p3⟩
set_option maxHeartbeats 4000000 in
set_option maxRecDepth 100000 in
theorem radd_t (A A' : Option Addr) (n c n' c' : Nat) (l l' : List Nat) (w : World) (h : SI w .u32 A n c l) (h' : SI w .u32 A' n' c' l') (hl : Lt V l) (hl' : Lt V l') (hn : n ≤ 1099511627776) (hn' : n' ≤ 1099511627776) :
    Calls Tryz.prog 19 #[.agg #[.bool true, .slice A n c], .agg #[.bool true, .slice A' n' c']] w (GivesR w (sg true (val V l + val V l'))) := by
  have hB := BoxR.start w (.bool true) (.slice A n c) (.bool true) (.slice A' n' c')
  obtain ⟨W, hW⟩ : ∃ W, W = WR3 w (.bool true) (.slice A n c) (.bool true) (.slice A' n' c') := ⟨_, rfl⟩
  rw [← hW] at hB
  have HW := Lib.hid hW
  unfold WR3 at HW
  have hB2 := hB.below (Below.refl W.heap.size W).drew
  have kp := hB2.rd
  have hA := Rf.add_calls A A' n c n' c' l l' W.drew (h.below hB2.bl) (h'.below hB2.bl) hl hl' (by omega) (by omega)
  have hlen := len_addR hl hl' h.len h'.len hn hn'
  generalize val V l + val V l' = m at *
  have HA := Lib.hid hA
  have HL := Lib.hid hlen
  clear hA hlen hW h h' hB
  unfold Rd4 at kp
  go_enter Tryz.func19, Tryz.ntmps19
  go_wp2
  rw [← HW.out]
  clear HW
  go_region_held3 (fun w' => w'.cell? ⟨w.heap.size, 0, none⟩ = some (.bool true) ∧ w'.cell? ⟨w.heap.size, 1, none⟩ = some (.slice A n c) ∧ w'.cell? ⟨w.heap.size + 1, 0, none⟩ = some (.bool true) ∧ w'.cell? ⟨w.heap.size + 1, 1, none⟩ = some (.slice A' n' c'))
    (first
      | exact kp
      | exact k1
      | exact k2
      | exact k2.far _ _)
    (first
      | (go_at_call 49; (with_reducible refine HA.out.mono ?_); rintro e w1 ⟨A1, n1, c1, rfl, r1, u1, b1⟩; have x1 := hB2.below b1; have k1 := x1.rd)
      | (go_at_call 46; (with_reducible refine (rmake_d true A1 n1 c1 m w1 r1 (by have := r1.len; have := HL.out; omega)).mono ?_); rintro e w2 ⟨A2, n2, c2, rfl, r2, f2, b2⟩; have x2 := x1.below b2; have k2 := x2.rd; have q0 := x2.r.c0; have q1 := x2.r.c1; have g0 := x2.r.f0; have g1 := x2.r.f1))
  go_wp2
  obtain ⟨p1, p2, p3⟩ := put_resR (a := .bool (decide (sg true m < 0))) (b := .slice A2 n2 c2) x1.bl x1.r (by omega) r2 f2 b2
  exact bodyPost_ret (two_resultsR rfl _ (x2.r.store _ _) rfl) rfl ⟨A2, n2, c2, rfl, p1, p2, p3⟩
end Go.Proofs.YtkaajgcjdgjcbaaGreatDoor.Rw

/- The document's answer of layer 2, on: DivMod. -/
namespace Go.Proofs.YtkaajgcjdgjcbaaGreatDoor.Rw
open Go.RowKit Go.Proofs.YtkaajgcjdgjcbaaGreatDoor.Dig Go.Proofs.YtkaajgcjdgjcbaaGreatDoor.W Go.Proofs.YtkaajgcjdgjcbaaGreatDoor.Nat Go.Proofs.YtkaajgcjdgjcbaaGreatDoor.Wh
open Go.Proofs.YtkaajgcjdgjcbaaGreatDoor.Rf (V V_two V_pos)

def WR4 (w : World) (u v u' v' : Value) : World := (WR3 w u v u' v').alloc (.cells #[.bool false, .slice none 0 0] 28)
structure Box3R (w W : World) (u v u' v' : Value) : Prop where
  a : Two W w.heap.size 28 u v
  b : Two W (w.heap.size + 1) 28 u' v'
  r : Two W (w.heap.size + 1 + 1) 28 (.bool false) (.slice none 0 0)
  s : Two W (w.heap.size + 1 + 1 + 1) 28 (.bool false) (.slice none 0 0)
  bl : Below w.heap.size w W
theorem WR3_size (w : World) (u v u' v' : Value) : (WR3 w u v u' v').heap.size = w.heap.size + 1 + 1 + 1 := by simp [WR3]
theorem Box3R.start (w : World) (u v u' v' : Value) : Box3R w (WR4 w u v u' v') u v u' v' := by
  have hB := BoxR.start w u v u' v'
  have hb := alloc_below (WR3 w u v u' v') (.cells #[.bool false, .slice none 0 0] 28)
  have h4 := Two.start (WR3 w u v u' v') (.bool false) (.slice none 0 0) 28
  rw [WR3_size] at h4
  exact ⟨hB.a.below hb, hB.b.below hb, hB.r.below hb, h4, hB.bl.alloc hB.bl.size _⟩
theorem Box3R.below {w W W' : World} {u v u' v' : Value} (h : Box3R w W u v u' v') (hb : Below W.heap.size W W') : Box3R w W' u v u' v' :=
  ⟨h.a.below hb, h.b.below hb, h.r.below hb, h.s.below hb, h.bl.trans (hb.mono h.bl.size)⟩
theorem Box3R.put {w W : World} {u v u' v' : Value} (h : Box3R w W u v u' v') (a b a' b' : Value) :
    Two (Put4 W (w.heap.size + 1 + 1) a b a' b') (w.heap.size + 1 + 1) 28 a b ∧ Two (Put4 W (w.heap.size + 1 + 1) a b a' b') (w.heap.size + 1 + 1 + 1) 28 a' b' ∧ Below w.heap.size w (Put4 W (w.heap.size + 1 + 1) a b a' b') :=
  ⟨Two.far (h.r.store a b) (by omega) a' b', (Two.far h.s (by omega) a b).store a' b',
   (((h.bl.setCell (by show _ ≤ w.heap.size + 1 + 1; omega) _).setCell (by show _ ≤ w.heap.size + 1 + 1; omega) _).setCell (by show _ ≤ w.heap.size + 1 + 1 + 1; omega) _).setCell (by show _ ≤ w.heap.size + 1 + 1 + 1; omega) _⟩
theorem results_ccR {fn : Func} {p q : Tmp} (h : fn.results = #[.cell p 28, .cell q 28]) (tmps : Array Value) {w : World} {g g' : Nat} {a b a' b' : Value} (hg : Two w g 28 a b) (hg' : Two w g' 28 a' b')
    (hp : tmps.getD p undef = .pointer (some ⟨g, 0, none⟩)) (hq : tmps.getD q undef = .pointer (some ⟨g', 0, none⟩)) : (results fn tmps).run Tryz.prog w = .ok (.tuple #[.agg #[a, b], .agg #[a', b']]) w := by
  have hp' : tmps[p]?.getD undef = .pointer (some ⟨g, 0, none⟩) := by simpa using hp
  have hq' : tmps[q]?.getD undef = .pointer (some ⟨g', 0, none⟩) := by simpa using hq
  have e1 := run_loadVar_row (P := Tryz.prog) w g 28 28 #[a, b] (0, 0) _ hg Tryz.underlying28 rfl (by kernel_rfl)
  have e2 := run_loadVar_row (P := Tryz.prog) w g' 28 28 #[a', b'] (0, 0) _ hg' Tryz.underlying28 rfl (by kernel_rfl)
  simp [results, h, hp', hq', asAddr, e1, e2]
def GivesDR (w : World) (q r : Int) (e : Ending) (w' : World) : Prop :=
  ∃ A n c A' n' c', e = .returned (.tuple #[.agg #[.bool (decide (q < 0)), .slice A n c], .agg #[.bool (decide (r < 0)), .slice A' n' c']]) ∧
    SI w' .u32 A n c (digs V q.natAbs) ∧ SI w' .u32 A' n' c' (digs V r.natAbs) ∧ Below w.heap.size w w'
theorem len_succR {a M : Nat} (h : (digs V a).length ≤ M) : (digs V (a + 1)).length ≤ M + 1 := by
  have h1 := (digs_length_le V_two _ _).1 h
  refine (digs_length_le V_two _ _).2 ?_
  have p3 : V ^ M * 2 ≤ V ^ (M + 1) := by rw [Nat.pow_succ]; exact Nat.mul_le_mul_left _ V_two
  generalize V ^ M = P at *
  omega
theorem digs_len_leR {l : List Nat} {n M : Nat} (hl : Lt V l) (h : l.length = n) (hn : n ≤ M) : (digs V (val V l)).length ≤ M := by
  have h1 := val_lt V_pos hl
  rw [h] at h1
  exact (digs_length_le V_two _ _).2 (Nat.lt_of_lt_of_le h1 (Nat.pow_le_pow_right V_pos hn))
theorem digs_boundR {a b M : Nat} (h : a ≤ b) (hb : (digs V b).length ≤ M) : (digs V a).length ≤ M := Nat.le_trans (digs_length_mono V_two h) hb
theorem lit1R (w : World) (m : Nat) (hm : w.heap.size = m) : SI (w.alloc (.cells #[.int .u32 1] 79)) .u32 (some ⟨m, 0, none⟩) 1 1 [1] := by
  subst hm
  exact ⟨rfl, Nat.le_refl _, by omega, fun _ => ⟨w.heap.size, 0, rfl, fun j u hu => by
    rw [World.cell?, show (w.alloc (.cells #[.int .u32 1] 79)).heap[w.heap.size]? = _ from heap_alloc_new w _]
    simpa [nums] using hu⟩⟩
theorem radd_1 (A A' : Option Addr) (n c n' c' m M : Nat) (w : World) (h : SI w .u32 A n c (digs V m)) (h' : SI w .u32 A' n' c' [1]) (hM : M ≤ 4398046511104) (hn : (digs V m).length ≤ M) :
    Calls Tryz.prog 49 #[.slice A n c, .slice A' n' c'] w (Rf.GivesF w .u32 (digs V (m + 1))) := by
  have hn' : n' = 1 := h'.len.symm
  have e := Rf.add_calls A A' n c n' c' _ _ w h h' (dv m) (fun x hx => by rw [List.mem_singleton] at hx; subst hx; decide) (by rw [← h.len]; omega) (by omega)
  rw [val_digs V_two, val_cons, val_nil, Nat.mul_zero, Nat.add_zero] at e
  exact e
theorem rsub_d (A A' : Option Addr) (n c n' c' m' : Nat) (l : List Nat) (w : World) (h : SI w .u32 A n c l) (hl : Lt V l) (h' : SI w .u32 A' n' c' (digs V m')) (hn : n ≤ 4398046511104) (hle : m' ≤ val V l) :
    Calls Tryz.prog 51 #[.slice A n c, .slice A' n' c'] w (Rf.GivesF w .u32 (digs V (val V l - m'))) := by
  have e := Rf.sub_fresh A A' n c n' c' _ _ w h h' hl (dv m') hn (by rw [val_digs V_two]; exact hle)
  rw [val_digs V_two] at e
  exact e
theorem rmake_m (ng : Bool) (A : Option Addr) (n c m M : Nat) (w : World) (h : SI w .u32 A n c (digs V m)) (hM : M ≤ 4398046511104) (hn : (digs V m).length ≤ M) : Calls Tryz.prog 46 #[.bool ng, .slice A n c] w (GivesR w (sg ng m)) :=
  rmake_d ng A n c m w h (by rw [← h.len]; omega)
set_option maxHeartbeats 4000000 in
set_option maxRecDepth 100000 in
theorem rdivmod_plain (ng ng' : Bool) (A A' : Option Addr) (n c n' c' : Nat) (l l' : List Nat) (w : World) (h : SI w .u32 A n c l) (h' : SI w .u32 A' n' c' l') (hl : Lt V l) (hl' : Lt V l') (hn : n ≤ 1099511627776) (hn' : n' ≤ 1099511627776) (h0 : val V l' ≠ 0)
    (hp : ng = false ∨ val V l % val V l' = 0) :
    Calls Tryz.prog 27 #[.agg #[.bool ng, .slice A n c], .agg #[.bool ng', .slice A' n' c']] w (GivesDR w (sg ng (val V l) / sg ng' (val V l')) (sg ng (val V l) % sg ng' (val V l'))) := by
  have hB := Box3R.start w (.bool ng) (.slice A n c) (.bool ng') (.slice A' n' c')
  obtain ⟨W, hW⟩ : ∃ W, W = WR4 w (.bool ng) (.slice A n c) (.bool ng') (.slice A' n' c') := ⟨_, rfl⟩
  rw [← hW] at hB
  have hS := Rf.divmod_calls A A' n c n' c' l l' W (h.below hB.bl) (h'.below hB.bl) hl hl' hn (Nat.pos_of_ne_zero h0)
  obtain ⟨t1, t2⟩ := dm_plain ng ng' (val V l) (val V l') h0 hp
  rw [← t1, ← t2]
  have hL1 := digs_boundR (Nat.div_le_self (val V l) (val V l')) (digs_len_leR hl h.len hn)
  have hL2 := digs_boundR (Nat.le_of_lt (Nat.mod_lt (val V l) (Nat.pos_of_ne_zero h0))) (digs_len_leR hl' h'.len hn')
  clear t1 t2 h0
  generalize val V l / val V l' = m at *
  generalize val V l % val V l' = k at *
  unfold WR4 WR3 at hW
  rw [hW] at hS
  have HS := Lib.hid hS
  have HB := Lib.hid hB
  have HL1 := Lib.hid hL1
  have HL2 := Lib.hid hL2
  rw [hW] at HB
  clear hS hL1 hL2 hW h h' hB hl hl' hn hn'
  cases ng
  · clear hp
    rw [show (false != ng') = ng' by cases ng' <;> rfl]
    go_enter Tryz.func27, Tryz.ntmps27
    go_wp2_with (first
      | (go_at_call 56; (with_reducible refine HS.out.mono ?_); rintro e w1 ⟨A1, n1, c1, A2, n2, c2, rfl, r1, r2, _, _, b1⟩; have x1 := HB.out.below b1; have y0 := x1.a.c0; have y1 := x1.b.c0; have y2 := x1.b.c1)
      | (go_at_call_of 46 (Value.slice A1 n1 c1); (with_reducible refine (rmake_m _ A1 n1 c1 m _ w1 r1 (by omega) HL1.out).mono ?_); rintro e w2 ⟨A3, n3, c3, rfl, r3, f3, b2⟩)
      | (go_at_call_of 46 (Value.slice A2 n2 c2); (with_reducible refine (rmake_m _ A2 n2 c2 k _ w2 (r2.below b2) (by omega) HL2.out).mono ?_); rintro e w3 ⟨A4, n4, c4, rfl, r4, f4, b3⟩; have x3 := (x1.below b2).below b3; have q0 := x3.r.c0; have q1 := x3.r.c1; have q2 := x3.s.c0; have q3 := x3.s.c1; have g0 := x3.r.f0; have g1 := x3.r.f1; have g2 := x3.s.f0; have g3 := x3.s.f1))
    have P := x3.put (.bool (decide (sg ng' m < 0))) (.slice A3 n3 c3) (.bool (decide (sg false k < 0))) (.slice A4 n4 c4)
    have h1 := x1.s.lt
    have h2 := b2.size
    have k3 : ∀ b o s, A3 = some ⟨b, o, s⟩ → w.heap.size + 1 + 1 + 2 ≤ b := fun b o s e => by have := f3 b o s e; omega
    have k4 : ∀ b o s, A4 = some ⟨b, o, s⟩ → w.heap.size + 1 + 1 + 2 ≤ b := fun b o s e => by have := f4 b o s e; omega
    refine bodyPost_ret (results_ccR rfl _ P.1 P.2.1 rfl rfl) rfl ⟨A3, n3, c3, A4, n4, c4, rfl, ?_, ?_, P.2.2⟩
    · rw [sg_abs]; rw [sg_abs] at r3; exact si_put4 (r3.below b3) k3 _ _ _ _
    · rw [sg_abs]; rw [sg_abs] at r4; exact si_put4 r4 k4 _ _ _ _
  · have hk : k = 0 := hp.resolve_left (by decide)
    subst hk
    clear hp
    rw [show (true != ng') = !ng' by cases ng' <;> rfl]
    go_enter Tryz.func27, Tryz.ntmps27
    go_wp2_with (first
      | (go_at_call 56; (with_reducible refine HS.out.mono ?_); rintro e w1 ⟨A1, n1, c1, A2, n2, c2, rfl, r1, r2, _, _, b1⟩; have x1 := HB.out.below b1; have y0 := x1.a.c0; have y1 := x1.b.c0; have y2 := x1.b.c1; obtain rfl : n2 = 0 := (by rw [← r2.len, digs_zero]; rfl))
      | (go_at_call_of 46 (Value.slice A1 n1 c1); (with_reducible refine (rmake_m _ A1 n1 c1 m _ w1 r1 (by omega) HL1.out).mono ?_); rintro e w2 ⟨A3, n3, c3, rfl, r3, f3, b2⟩)
      | (go_at_call_of 46 (Value.slice A2 0 c2); (with_reducible refine (rmake_m _ A2 0 c2 0 _ w2 (r2.below b2) (by omega) HL2.out).mono ?_); rintro e w3 ⟨A4, n4, c4, rfl, r4, f4, b3⟩; have x3 := (x1.below b2).below b3; have q0 := x3.r.c0; have q1 := x3.r.c1; have q2 := x3.s.c0; have q3 := x3.s.c1; have g0 := x3.r.f0; have g1 := x3.r.f1; have g2 := x3.s.f0; have g3 := x3.s.f1))
    have P := x3.put (.bool (decide (sg (!ng') m < 0))) (.slice A3 n3 c3) (.bool (decide (sg false 0 < 0))) (.slice A4 n4 c4)
    have h1 := x1.s.lt
    have h2 := b2.size
    have k3 : ∀ b o s, A3 = some ⟨b, o, s⟩ → w.heap.size + 1 + 1 + 2 ≤ b := fun b o s e => by have := f3 b o s e; omega
    have k4 : ∀ b o s, A4 = some ⟨b, o, s⟩ → w.heap.size + 1 + 1 + 2 ≤ b := fun b o s e => by have := f4 b o s e; omega
    refine bodyPost_ret (results_ccR rfl _ P.1 P.2.1 rfl rfl) rfl ⟨A3, n3, c3, A4, n4, c4, rfl, ?_, ?_, P.2.2⟩
    · rw [sg_abs]; rw [sg_abs] at r3; exact si_put4 (r3.below b3) k3 _ _ _ _
    · rw [sg_abs]; rw [sg_abs] at r4; exact si_put4 r4 k4 _ _ _ _
set_option maxHeartbeats 4000000 in
set_option maxRecDepth 100000 in
theorem rdivmod_more (ng' : Bool) (A A' : Option Addr) (n c n' c' : Nat) (l l' : List Nat) (w : World) (h : SI w .u32 A n c l) (h' : SI w .u32 A' n' c' l') (hl : Lt V l) (hl' : Lt V l') (hn : n ≤ 1099511627776) (hn' : n' ≤ 1099511627776) (h0 : val V l' ≠ 0)
    (hp : val V l % val V l' ≠ 0) :
    Calls Tryz.prog 27 #[.agg #[.bool true, .slice A n c], .agg #[.bool ng', .slice A' n' c']] w (GivesDR w (sg true (val V l) / sg ng' (val V l')) (sg true (val V l) % sg ng' (val V l'))) := by
  have hB := Box3R.start w (.bool true) (.slice A n c) (.bool ng') (.slice A' n' c')
  obtain ⟨W, hW⟩ : ∃ W, W = WR4 w (.bool true) (.slice A n c) (.bool ng') (.slice A' n' c') := ⟨_, rfl⟩
  rw [← hW] at hB
  have hS := Rf.divmod_calls A A' n c n' c' l l' W (h.below hB.bl) (h'.below hB.bl) hl hl' hn (Nat.pos_of_ne_zero h0)
  obtain ⟨t1, t2⟩ := dm_more ng' (val V l) (val V l') h0 hp
  rw [← t1, ← t2, show (true != ng') = !ng' by cases ng' <;> rfl]
  have hL1 := digs_boundR (Nat.div_le_self (val V l) (val V l')) (digs_len_leR hl h.len hn)
  have hlt := Nat.mod_lt (val V l) (Nat.pos_of_ne_zero h0)
  have hL3 := digs_boundR (Nat.sub_le (val V l') (val V l % val V l')) (digs_len_leR hl' h'.len hn')
  have hL4 := len_succR hL1
  have hS2 := fun (A2 : Option Addr) (n2 c2 : Nat) (w4 : World) (hb4 : Below W.heap.size W w4) (r2 : SI w4 .u32 A2 n2 c2 (digs V (val V l % val V l'))) =>
    rsub_d A' A2 n' c' n2 c2 (val V l % val V l') l' w4 ((h'.below hB.bl).below hb4) hl' r2 (by omega) (Nat.le_of_lt hlt)
  have hpos : 0 < (digs V (val V l % val V l')).length := digs_length_pos V_two hp
  clear t1 t2 h0
  generalize val V l' - val V l % val V l' = j at *
  generalize val V l / val V l' = m at *
  generalize val V l % val V l' = k at *
  unfold WR4 WR3 at hW
  rw [hW] at hS hS2
  have HS := Lib.hid hS
  have HS2 := Lib.hid hS2
  have HB := Lib.hid hB
  have HL1 := Lib.hid hL1
  have HL3 := Lib.hid hL3
  have HL4 := Lib.hid hL4
  have HP := Lib.hid hpos
  rw [hW] at HB
  clear hS hS2 hL1 hL3 hL4 hpos hlt hW h h' hB hl hl' hn hn' hp
  · skip
    go_enter Tryz.func27, Tryz.ntmps27
    go_wp2_with (first
      | (go_at_call 56; (with_reducible refine HS.out.mono ?_); rintro e w1 ⟨A1, n1, c1, A2, n2, c2, rfl, r1, r2, _, _, b1⟩; have x1 := HB.out.below b1; have y0 := x1.a.c0; have y1 := x1.b.c0; have y2 := x1.b.c1; have hn2 : 0 < n2 := (by rw [← r2.len]; exact HP.out))
      | (go_at_call 49; (with_reducible refine (radd_1 A1 _ n1 c1 _ _ m _ _ (r1.alloc _) (lit1R _ _ rfl) (by omega) HL1.out).mono ?_); rintro e w8 ⟨A8, n8, c8, rfl, r8, _, b8'⟩; have b8 := (alloc_below w1 (.cells #[.int .u32 1] 79)).trans (b8'.mono (alloc_below w1 _).size); have z8 := x1.below b8; have y3 := z8.b.c1)
      | (go_at_call 51; (with_reducible refine (HS2.out A2 n2 c2 w8 (b1.trans (b8.mono b1.size)) (r2.below b8)).mono ?_); rintro e w9 ⟨A9, n9, c9, rfl, r9, _, b9⟩; have z9 := z8.below b9; have y4 := z9.a.c0; have y5 := z9.b.c0)
      | (go_at_call_of 46 (Value.slice A8 n8 c8); (with_reducible refine (rmake_m _ A8 n8 c8 (m + 1) _ w9 (r8.below b9) (by omega) HL4.out).mono ?_); rintro e w2 ⟨A3, n3, c3, rfl, r3, f3, b2⟩)
      | (go_at_call_of 46 (Value.slice A9 n9 c9); (with_reducible refine (rmake_m _ A9 n9 c9 j _ w2 (r9.below b2) (by omega) HL3.out).mono ?_); rintro e w3 ⟨A4, n4, c4, rfl, r4, f4, b3⟩; have x3 := (z9.below b2).below b3; have q0 := x3.r.c0; have q1 := x3.r.c1; have q2 := x3.s.c0; have q3 := x3.s.c1; have g0 := x3.r.f0; have g1 := x3.r.f1; have g2 := x3.s.f0; have g3 := x3.s.f1))
    have P := x3.put (.bool (decide (sg (!ng') (m + 1) < 0))) (.slice A3 n3 c3) (.bool (decide (sg false j < 0))) (.slice A4 n4 c4)
    have h1 := z9.s.lt
    have h2 := b2.size
    have k3 : ∀ b o s, A3 = some ⟨b, o, s⟩ → w.heap.size + 1 + 1 + 2 ≤ b := fun b o s e => by have := f3 b o s e; omega
    have k4 : ∀ b o s, A4 = some ⟨b, o, s⟩ → w.heap.size + 1 + 1 + 2 ≤ b := fun b o s e => by have := f4 b o s e; omega
    refine bodyPost_ret (results_ccR rfl _ P.1 P.2.1 rfl rfl) rfl ⟨A3, n3, c3, A4, n4, c4, rfl, ?_, ?_, P.2.2⟩
    · rw [sg_abs]; rw [sg_abs] at r3; exact si_put4 (r3.below b3) k3 _ _ _ _
    · rw [sg_abs]; rw [sg_abs] at r4; exact si_put4 r4 k4 _ _ _ _
theorem rdivmod_calls (ng ng' : Bool) (A A' : Option Addr) (n c n' c' : Nat) (l l' : List Nat) (w : World) (h : SI w .u32 A n c l) (h' : SI w .u32 A' n' c' l') (hl : Lt V l) (hl' : Lt V l') (hn : n ≤ 1099511627776) (hn' : n' ≤ 1099511627776) (h0 : val V l' ≠ 0) :
    Calls Tryz.prog 27 #[.agg #[.bool ng, .slice A n c], .agg #[.bool ng', .slice A' n' c']] w (GivesDR w (sg ng (val V l) / sg ng' (val V l')) (sg ng (val V l) % sg ng' (val V l'))) := by
  by_cases hp : ng = false ∨ val V l % val V l' = 0
  · exact rdivmod_plain ng ng' A A' n c n' c' l l' w h h' hl hl' hn hn' h0 hp
  · cases ng
    · exact absurd (.inl rfl) hp
    · exact rdivmod_more ng' A A' n c n' c' l l' w h h' hl hl' hn hn' h0 (fun e => hp (.inr e))
end Go.Proofs.YtkaajgcjdgjcbaaGreatDoor.Rw

/- An order's law, on: two or three numbers may come up. -/
namespace Go.Un
variable {P : Program} {ops : Array Oper} {Q : Exit → Act → World → Prop} {md : Region.Mode} {S : World → Prop} {R : List Nat}

theorem two {i j : Nat} {oi oj : Oper} {fuel : Nat} {listed : Array Bool} {a : Act} {w : World} (hi : ops[i]? = some oi) (hj : ops[j]? = some oj) (hr : Region.ready md ops listed = [i, j])
    (h1 : ∀ K' : Act → World → Prop, Shut (∀ a w, (came R (listed.setIfInBounds i true) = false → S w) → wpAnyU P md ops Q S R fuel (listed.setIfInBounds i true) a w → K' a w) → if Region.wanted oi (yielded ops a.tmps) = true then Oper.wp P oi a w K' Q else K' (a.put oi.dst undef) w)
    (h2 : ∀ K' : Act → World → Prop, Shut (∀ a w, (came R (listed.setIfInBounds j true) = false → S w) → wpAnyU P md ops Q S R fuel (listed.setIfInBounds j true) a w → K' a w) → if Region.wanted oj (yielded ops a.tmps) = true then Oper.wp P oj a w K' Q else K' (a.put oj.dst undef) w) :
    wpAnyU P md ops Q S R (fuel + 1) listed a w :=
  all hr (by simp) (fun k hk => by
    rw [List.mem_cons, List.mem_singleton] at hk
    rcases hk with rfl | rfl
    · exact wpOp_step hi (fun K' hK => h1 K' (fun a w hS hW => hK a w ⟨hS, hW⟩))
    · exact wpOp_step hj (fun K' hK => h2 K' (fun a w hS hW => hK a w ⟨hS, hW⟩)))
theorem three {i j k : Nat} {oi oj ok : Oper} {fuel : Nat} {listed : Array Bool} {a : Act} {w : World} (hi : ops[i]? = some oi) (hj : ops[j]? = some oj) (hk : ops[k]? = some ok) (hr : Region.ready md ops listed = [i, j, k])
    (h1 : ∀ K' : Act → World → Prop, Shut (∀ a w, (came R (listed.setIfInBounds i true) = false → S w) → wpAnyU P md ops Q S R fuel (listed.setIfInBounds i true) a w → K' a w) → if Region.wanted oi (yielded ops a.tmps) = true then Oper.wp P oi a w K' Q else K' (a.put oi.dst undef) w)
    (h2 : ∀ K' : Act → World → Prop, Shut (∀ a w, (came R (listed.setIfInBounds j true) = false → S w) → wpAnyU P md ops Q S R fuel (listed.setIfInBounds j true) a w → K' a w) → if Region.wanted oj (yielded ops a.tmps) = true then Oper.wp P oj a w K' Q else K' (a.put oj.dst undef) w)
    (h3 : ∀ K' : Act → World → Prop, Shut (∀ a w, (came R (listed.setIfInBounds k true) = false → S w) → wpAnyU P md ops Q S R fuel (listed.setIfInBounds k true) a w → K' a w) → if Region.wanted ok (yielded ops a.tmps) = true then Oper.wp P ok a w K' Q else K' (a.put ok.dst undef) w) :
    wpAnyU P md ops Q S R (fuel + 1) listed a w :=
  all hr (by simp) (fun m hm => by
    rw [List.mem_cons, List.mem_cons, List.mem_singleton] at hm
    rcases hm with rfl | rfl | rfl
    · exact wpOp_step hi (fun K' hK => h1 K' (fun a w hS hW => hK a w ⟨hS, hW⟩))
    · exact wpOp_step hj (fun K' hK => h2 K' (fun a w hS hW => hK a w ⟨hS, hW⟩))
    · exact wpOp_step hk (fun K' hK => h3 K' (fun a w hS hW => hK a w ⟨hS, hW⟩)))
/-- all orders end in one kind of state, from which the walk goes on once -/
theorem start_key {id : Nat} {a : Act} {w : World} (Good : Act → World → Prop) (S : World → Prop) (R : List Nat) (hm : P.follows .mixedOrders = true)
    (hgood : ∀ a' w', Good a' w' → Q .normal a' w')
    (h : (∀ a' w', Good a' w' → Q .normal a' w') → wpAnyU P .any ops Q S R ops.size (Array.replicate ops.size false) a { w with drawn := w.drawn + 1 }) : (Code.region id ops true).wp P Q a w :=
  start S R hm (h hgood)
end Go.Un
namespace Go.Proofs.YtkaajgcjdgjcbaaGreatDoor.Wh
open Go.RowKit Go.Proofs.YtkaajgcjdgjcbaaGreatDoor.Dig Go.Proofs.YtkaajgcjdgjcbaaGreatDoor.W Go.Proofs.YtkaajgcjdgjcbaaGreatDoor.Nat
/-- two pairs of cells that are read -/
def C4 (w : World) (g g' : Nat) (u v u' v' : Value) : Prop := w.cell? ⟨g, 0, none⟩ = some u ∧ w.cell? ⟨g, 1, none⟩ = some v ∧ w.cell? ⟨g', 0, none⟩ = some u' ∧ w.cell? ⟨g', 1, none⟩ = some v'
theorem C4.keep {w w' : World} {g g' : Nat} {u v u' v' : Value} (h : C4 w g g' u v u' v') (hb : Below w.heap.size w w') : C4 w' g g' u v u' v' :=
  ⟨cell_keep hb h.1, cell_keep hb h.2.1, cell_keep hb h.2.2.1, cell_keep hb h.2.2.2⟩
/-- a row of numbers stands beside a struct's cells -/
theorem si_two {w : World} {k : IntKind} {A : Option Addr} {n c g : Nat} {l : List Nat} {t : TypeId} {b : Bool} {X : Option Addr} {y z : Nat} (h : SI w k A n c l) (hT : Two w g t (.bool b) (.slice X y z)) (u v : Value) :
    SI ((w.setCell ⟨g, 0, none⟩ u).setCell ⟨g, 1, none⟩ v) k A n c l :=
  ⟨h.1, h.2, h.3, fun hn => by
    obtain ⟨b', o, e, hc⟩ := h.4 hn
    refine ⟨b', o, e, fun i x hx => ?_⟩
    have h0 := hc i x hx
    have hi : ∃ q : Nat, x = .int k (q : Nat) := by
      unfold nums at hx
      rw [List.getElem?_map] at hx
      cases hl : l[i]? with
      | none => rw [hl] at hx; cases hx
      | some q => rw [hl] at hx; exact ⟨q, by simpa using hx.symm⟩
    obtain ⟨q, rfl⟩ := hi
    have n0 : (⟨b', o + i, none⟩ : Addr) ≠ ⟨g, 0, none⟩ := fun he => by
      rw [he, hT.c0] at h0
      cases h0
    have n1 : (⟨b', o + i, none⟩ : Addr) ≠ ⟨g, 1, none⟩ := fun he => by
      rw [he, hT.c1] at h0
      cases h0
    rw [World.cell?_setCell_other _ _ _ _ (fun he => n1 he.symm), World.cell?_setCell_other _ _ _ _ (fun he => n0 he.symm)]
    exact h0⟩
end Go.Proofs.YtkaajgcjdgjcbaaGreatDoor.Wh

/- Layer 2's laws: WholeDivides. -/
namespace Go.Proofs.YtkaajgcjdgjcbaaGreatDoor.Aw
open Go.RowKit Go.Proofs.YtkaajgcjdgjcbaaGreatDoor.Dig Go.Proofs.YtkaajgcjdgjcbaaGreatDoor.W Go.Proofs.YtkaajgcjdgjcbaaGreatDoor.Nat Go.Proofs.YtkaajgcjdgjcbaaGreatDoor.Wh Go.Proofs.YtkaajgcjdgjcbaaGreatDoor.Td Go.Proofs.YtkaajgcjdgjcbaaGreatDoor.Bu Go.Proofs.YtkaajgcjdgjcbaaGreatDoor.Tx
open Go.Proofs.YtkaajgcjdgjcbaaGreatDoor.Rf (V V_two V_pos)

/-- what the law holds on to -/
structure DV (w X : World) (b5 b8 : Nat) (ng : Bool) (A : Option Addr) (n c : Nat) (q r y : Int) (A1 : Option Addr) (n1 c1 : Nat) (A2 : Option Addr) (n2 c2 : Nat) (A3 : Option Addr) (n3 c3 : Nat) : Prop where
  a : Two X w.heap.size 24 (.bool ng) (.slice A n c)
  j5 : Two X b5 24 (.bool (decide (q < 0))) (.slice A1 n1 c1)
  j6 : Two X (b5 + 1) 24 (.bool (decide (r < 0))) (.slice A2 n2 c2)
  j8 : Two X b8 28 (.bool (decide (y < 0))) (.slice A3 n3 c3)
  r1 : SI X .u64 A1 n1 c1 (digs U q.natAbs)
  r2 : SI X .u64 A2 n2 c2 (digs U r.natAbs)
  r3 : SI X .u32 A3 n3 c3 (digs V y.natAbs)
  bl : Below w.heap.size w X
section
variable {w X X' : World} {b5 b8 : Nat} {ng : Bool} {A : Option Addr} {n c : Nat} {q r y : Int} {A1 : Option Addr} {n1 c1 : Nat} {A2 : Option Addr} {n2 c2 : Nat} {A3 : Option Addr} {n3 c3 : Nat}
theorem DV.below (h : DV w X b5 b8 ng A n c q r y A1 n1 c1 A2 n2 c2 A3 n3 c3) (hb : Below X.heap.size X X') : DV w X' b5 b8 ng A n c q r y A1 n1 c1 A2 n2 c2 A3 n3 c3 :=
  ⟨h.a.below hb, h.j5.below hb, h.j6.below hb, h.j8.below hb, h.r1.below hb, h.r2.below hb, h.r3.below hb, on h.bl hb⟩
theorem DV.s4 (h : DV w X b5 b8 ng A n c q r y A1 n1 c1 A2 n2 c2 A3 n3 c3) : C4 X w.heap.size b8 (.bool ng) (.slice A n c) (.bool (decide (y < 0))) (.slice A3 n3 c3) := ⟨h.a.c0, h.a.c1, h.j8.c0, h.j8.c1⟩
theorem DV.lts (h : DV w X b5 b8 ng A n c q r y A1 n1 c1 A2 n2 c2 A3 n3 c3) : w.heap.size < X.heap.size ∧ b5 < X.heap.size ∧ b5 + 1 < X.heap.size ∧ b8 < X.heap.size := ⟨h.a.lt, h.j5.lt, h.j6.lt, h.j8.lt⟩
theorem DV.store (h : DV w X b5 b8 ng A n c q r y A1 n1 c1 A2 n2 c2 A3 n3 c3) {g : Nat} (hT : Two X g 28 (.bool false) (.slice none 0 0)) (hg : w.heap.size < g ∧ b5 < g ∧ b5 + 1 < g ∧ b8 < g) (u v : Value) :
    DV w ((X.setCell ⟨g, 0, none⟩ u).setCell ⟨g, 1, none⟩ v) b5 b8 ng A n c q r y A1 n1 c1 A2 n2 c2 A3 n3 c3 :=
  ⟨Two.far h.a (by omega) _ _, Two.far h.j5 (by omega) _ _, Two.far h.j6 (by omega) _ _, Two.far h.j8 (by omega) _ _, si_two h.r1 hT _ _, si_two h.r2 hT _ _, si_two h.r3 hT _ _,
   (h.bl.setCell (p := ⟨g, 0, none⟩) (Nat.le_of_lt hg.1) _).setCell (p := ⟨g, 1, none⟩) (Nat.le_of_lt hg.1) _⟩
end
theorem rdivmod_z (x y : Int) (hy : y ≠ 0) (A A' : Option Addr) (n c n' c' : Nat) (w : World) (h : SI w .u32 A n c (digs V x.natAbs)) (h' : SI w .u32 A' n' c' (digs V y.natAbs)) (hn : n ≤ 1099511627776) (hn' : n' ≤ 1099511627776) :
    Calls Tryz.prog 27 #[.agg #[.bool (decide (x < 0)), .slice A n c], .agg #[.bool (decide (y < 0)), .slice A' n' c']] w (Rw.GivesDR w (x / y) (x % y)) := by
  have e := Rw.rdivmod_calls (decide (x < 0)) (decide (y < 0)) A A' n c n' c' _ _ w h h' (Rw.dv _) (Rw.dv _) hn hn' (by rw [val_digs V_two]; omega)
  rw [val_digs V_two, val_digs V_two, sg_self, sg_self] at e
  exact e
theorem emod_lt' (x : Int) {y : Int} (h : y ≠ 0) : x % y < (y.natAbs : Int) := by
  rcases Int.lt_or_gt_of_ne h with z | z
  · have e := Int.emod_lt_of_pos x (show (0 : Int) < -y by omega)
    rw [Int.emod_neg] at e
    omega
  · have e := Int.emod_lt_of_pos x z
    omega
theorem ediv_le (x y : Int) : (x / y).natAbs ≤ x.natAbs + 1 := by
  by_cases hy : y = 0
  · subst hy; simp
  · have a := Int.emod_nonneg x hy
    have b := emod_lt' x hy
    have e := Int.emod_add_mul_ediv x y
    have h1 : (y * (x / y)).natAbs ≤ x.natAbs + y.natAbs := by omega
    rw [Int.natAbs_mul] at h1
    have h2 : 0 < y.natAbs := by omega
    rcases Nat.lt_or_ge (x.natAbs + 1) (x / y).natAbs with z | z
    · exfalso
      have h3 : y.natAbs * (x.natAbs + 2) ≤ y.natAbs * (x / y).natAbs := Nat.mul_le_mul_left _ z
      rw [Nat.mul_add] at h3
      have h4 : 1 * x.natAbs ≤ y.natAbs * x.natAbs := Nat.mul_le_mul_right _ h2
      omega
    · exact z
theorem digs_boundR' {l : List Nat} {n : Nat} {x : Int} (hl : Lt U l) (h : l.length = n) (hn : n ≤ 1048576) (hx : x.natAbs = val U l) (y : Int) : (digs V (x / y).natAbs).length ≤ 4194305 := by
  have h1 := Rw.len_in hl h
  have h2 : (x / y).natAbs ≤ x.natAbs + 1 := ediv_le x y
  rw [hx] at h2
  exact Nat.le_trans (digs_length_mono V_two h2) (Nat.le_trans (Rw.len_succR (Nat.le_trans h1 (by omega : 4 * n ≤ 4194304))) (Nat.le_refl _))
theorem digs_boundM' (x : Int) {l : List Nat} {n : Nat} {y : Int} (hl : Lt U l) (h : l.length = n) (hn : n ≤ 1048576) (hy : y.natAbs = val U l) (h0 : val U l ≠ 0) : (digs V (x % y).natAbs).length ≤ 4194304 := by
  have h1 := Rw.len_in hl h
  have hy0 : y ≠ 0 := fun e => h0 (by rw [← hy, e]; rfl)
  have h2 : (x % y).natAbs ≤ y.natAbs := by
    have a := Int.emod_nonneg x hy0
    have b := emod_lt' x hy0
    omega
  rw [hy] at h2
  exact Nat.le_trans (digs_length_mono V_two h2) (by omega)
set_option maxHeartbeats 32000000 in
set_option maxRecDepth 100000 in
theorem divides_main (ng ng' : Bool) (A A' : Option Addr) (n c n' c' : Nat) (l l' : List Nat) (w : World) (h : SI w .u64 A n c l) (h' : SI w .u64 A' n' c' l') (hl : Lt U l) (hl' : Lt U l') (hn : n ≤ 1048576) (hn' : n' ≤ 1048576) (hp : Pow w) (h0 : val U l' ≠ 0) :
    Calls Tryz.prog 4 #[.agg #[.bool ng, .slice A n c], .agg #[.bool ng', .slice A' n' c']] w fun e w' => e = .returned (.bool true) ∧ Below w.heap.size w w' := by
  have HP := Lib.hid hp
  have hb0 := box_two w (.bool ng) (.slice A n c) (.bool ng') (.slice A' n' c')
  obtain ⟨W, hW⟩ : ∃ W, W = ((w.alloc (.cells #[.bool ng, .slice A n c] 24)).alloc (.cells #[.bool ng', .slice A' n' c'] 24)) := ⟨_, rfl⟩
  obtain ⟨t1, t2⟩ := Rw.two12 w (.bool ng) (.slice A n c) (.bool ng') (.slice A' n' c') 24 24
  rw [← hW] at hb0 t1 t2
  have HD := Lib.hid (wdivmod_calls ng ng' A A' n c n' c' l l' W (h.below hb0) (h'.below hb0) hl hl' (by omega) (by omega) h0)
  have HW := Lib.hid hW
  have HB0 := Lib.hid hb0
  have HIY := Lib.hid (fun (w1 : World) (b : Below w.heap.size w w1) => Rw.lin_calls ng' A' n' c' l' w1 (h'.below b) hl' (by omega))
  have HIX := Lib.hid (fun (w1 : World) (b : Below w.heap.size w w1) => Rw.lin_calls ng A n c l w1 (h.below b) hl (by omega))
  have HT1 := Lib.hid t1
  have HT2 := Lib.hid t2
  have hylen : 0 < (digs V (sg ng' (val U l')).natAbs).length := by rw [sg_abs]; exact digs_length_pos V_two h0
  have hylen2 : (digs V (sg ng' (val U l')).natAbs).length ≤ 4194304 := by rw [sg_abs]; exact Nat.le_trans (Rw.len_in hl' h'.len) (by omega)
  have hxlen2 : (digs V (sg ng (val U l)).natAbs).length ≤ 4194304 := by rw [sg_abs]; exact Nat.le_trans (Rw.len_in hl h.len) (by omega)
  have hql := digs_boundR' hl h.len hn (sg_abs ng (val U l)) (sg ng' (val U l'))
  have hrl := digs_boundM' (sg ng (val U l)) hl' h'.len hn' (sg_abs ng' (val U l')) h0
  have hy0 : sg ng' (val U l') ≠ 0 := fun e => by
    have := congrArg Int.natAbs e
    rw [sg_abs] at this
    exact h0 this
  clear hW hb0 h h' hl hl' hp t1 t2
  obtain ⟨x, hx⟩ : ∃ x, sg ng (val U l) = x := ⟨_, rfl⟩
  obtain ⟨y, hy⟩ : ∃ y, sg ng' (val U l') = y := ⟨_, rfl⟩
  rw [hx, hy] at HD
  rw [hx] at HIX hxlen2
  rw [hy] at HIY hylen hylen2 hy0
  rw [hx, hy] at hql hrl
  have HYL := Lib.hid hylen
  have HDR := Lib.hid (fun (A4 : Option Addr) (n4 c4 : Nat) (A3 : Option Addr) (n3 c3 : Nat) (v : World) (r4 : SI v .u32 A4 n4 c4 (digs V x.natAbs)) (r3 : SI v .u32 A3 n3 c3 (digs V y.natAbs)) => rdivmod_z x y hy0 A4 A3 n4 c4 n3 c3 v r4 r3 (by rw [← r4.len]; omega) (by rw [← r3.len]; omega))
  clear hx hy h0 hylen hylen2 hxlen2 hy0
  obtain ⟨Qz, hQz⟩ : ∃ Qz, x / y = Qz := ⟨_, rfl⟩
  obtain ⟨Rz, hRz⟩ : ∃ Rz, x % y = Rz := ⟨_, rfl⟩
  rw [hQz, hRz] at HD HDR
  rw [hQz] at hql
  rw [hRz] at hrl
  have HQL := Lib.hid hql
  have HRL := Lib.hid hrl
  clear hQz hRz hql hrl
  go_enter Tryz.func4, Tryz.ntmps4
  go_wp2_with (first
    | (go_at_call 25; rw [← HW.out]; (with_reducible refine HD.out.mono ?_); rintro e w1 ⟨A1, n1, c1, A2, n2, c2, rfl, r1, r2, _, _, b1⟩; have B12 := box_two w1 (.bool (decide (Qz < 0))) (.slice A1 n1 c1) (.bool (decide (Rz < 0))) (.slice A2 n2 c2); have J := Rw.two12 w1 (.bool (decide (Qz < 0))) (.slice A1 n1 c1) (.bool (decide (Rz < 0))) (.slice A2 n2 c2) 24 24; have k1 := (HT1.out.below b1).below B12; have k2 := (HT2.out.below b1).below B12; have bw := on (HB0.out.trans (b1.mono HB0.out.size)) B12; have p2 := k2.c0; have p3 := k2.c1)
    | (go_at_call 12; (with_reducible refine (HIY.out _ bw).mono ?_); rintro e w2 ⟨A3, n3, c3, rfl, r3, _, b2⟩; have hn3 : 0 < n3 := (by rw [← r3.len]; exact HYL.out); have B3 := alloc_below w2 (.cells #[.bool (decide (y < 0)), .slice A3 n3 c3] 28); have D2 : DV w (w2.alloc (.cells #[.bool (decide (y < 0)), .slice A3 n3 c3] 28)) w1.heap.size w2.heap.size ng A n c Qz Rz y A1 n1 c1 A2 n2 c2 A3 n3 c3 := ⟨(k1.below b2).below B3, (J.1.below b2).below B3, (J.2.below b2).below B3, Two.start w2 _ _ _, ((r1.below B12).below b2).below B3, ((r2.below B12).below b2).below B3, r3.below B3, on (on bw b2) B3⟩; clear p2 p3 k1 k2 J)
    | (go_at_call 13; (with_reducible refine (awake_calls _ (HP.out.below D2.bl)).mono ?_); rintro e w3 ⟨rfl, b3⟩; have D3 := D2.below b3; have p0 := D3.j8.c0; have p1 := D3.j8.c1))
  have D0 := D3.below (Below.refl w3.heap.size w3).drew
  clear p0 p1 D3 D2 B12 bw r1 r2 r3 b1 b2 b3 B3 HT1 HT2 HB0 HD HIY
  generalize w1.heap.size = b5 at *
  generalize w2.heap.size = b8 at *
  refine Go.Un.start (fun w' => C4 w' w.heap.size b8 (.bool ng) (.slice A n c) (.bool (decide (y < 0))) (.slice A3 n3 c3)) [10] (by rfl) ?_
  have hS := D0.s4
  obtain ⟨v0, hv0⟩ : ∃ v0, v0 = w3.drew := ⟨_, rfl⟩
  rw [← hv0] at D0 hS
  change Go.Un.wpAnyU _ _ _ _ _ _ _ _ _ w3.drew
  rw [← hv0]
  clear hv0
  refine Go.Un.take [10] (i := 0) (v := ?_) rfl (by kernel_rfl) (by kernel_rfl) (by kernel_rfl) (by kernel_rfl) (by kernel_rfl) (fun _ _ _ h => h) (Or.inl ⟨by rfl, ?_⟩) hS ?_
  rotate_left
  · intro w hSw
    obtain ⟨s1, s2, s3, s4⟩ := hSw
    go_simp
    try with_reducible rfl
  try simp only [Act.put, List.setIfInBounds_toArray, List.set_cons_zero, List.set_cons_succ]
  refine Go.Un.take [10] (i := 2) (v := ?_) rfl (by kernel_rfl) (by kernel_rfl) (by kernel_rfl) (by kernel_rfl) (by kernel_rfl) (fun _ _ _ h => h) (Or.inl ⟨by rfl, ?_⟩) hS ?_
  rotate_left
  · intro w hSw
    obtain ⟨s1, s2, s3, s4⟩ := hSw
    go_simp
    try with_reducible rfl
  try simp only [Act.put, List.setIfInBounds_toArray, List.set_cons_zero, List.set_cons_succ]
  refine Go.Un.three (i := 1) (j := 7) (k := 8) rfl rfl rfl (by kernel_rfl) (fun K hK => ?_) (fun K hK => ?_) (fun K hK => ?_)
  · go_simp
    go_at_call 12; (with_reducible refine (HIX.out v0 D0.bl).mono ?_); rintro e v1 ⟨A4, n4, c4, rfl, r4, _, bb⟩
    have D1 := D0.below bb
    refine hK.out _ _ (fun _ => D1.s4) ?_
    clear hK
    clear K
    clear bb
    try simp only [Act.put, List.setIfInBounds_toArray, List.set_cons_zero, List.set_cons_succ]
    refine Go.Un.three (i := 3) (j := 7) (k := 8) rfl rfl rfl (by kernel_rfl) (fun K hK => ?_) (fun K hK => ?_) (fun K hK => ?_)
    · go_simp
      go_at_call 27; (with_reducible refine (HDR.out A4 n4 c4 A3 n3 c3 v1 r4 D1.r3).mono ?_); rintro e v2 ⟨A5, n5, c5, A6, n6, c6, rfl, rq, rr, bb⟩
      have D2 := D1.below bb
      have r4_2 := r4.below bb
      refine hK.out _ _ (fun _ => D2.s4) ?_
      clear hK
      clear K
      clear bb
      try simp only [Act.put, List.setIfInBounds_toArray, List.set_cons_zero, List.set_cons_succ]
      have hS2 := D2.s4
      refine Go.Un.take [10] (i := 4) (v := ?_) rfl (by kernel_rfl) (by kernel_rfl) (by kernel_rfl) (by kernel_rfl) (by kernel_rfl) (fun _ _ _ h => h) (Or.inl ⟨by rfl, ?_⟩) hS2 ?_
      rotate_left
      · intro w hSw
        obtain ⟨s1, s2, s3, s4⟩ := hSw
        go_simp
        try with_reducible rfl
      try simp only [Act.put, List.setIfInBounds_toArray, List.set_cons_zero, List.set_cons_succ]
      refine Go.Un.take [10] (i := 5) (v := ?_) rfl (by kernel_rfl) (by kernel_rfl) (by kernel_rfl) (by kernel_rfl) (by kernel_rfl) (fun _ _ _ h => h) (Or.inl ⟨by rfl, ?_⟩) hS2 ?_
      rotate_left
      · intro w hSw
        obtain ⟨s1, s2, s3, s4⟩ := hSw
        go_simp
        try with_reducible rfl
      try simp only [Act.put, List.setIfInBounds_toArray, List.set_cons_zero, List.set_cons_succ]
      refine Go.Un.take [10] (i := 6) (v := ?_) rfl (by kernel_rfl) (by kernel_rfl) (by kernel_rfl) (by kernel_rfl) (by kernel_rfl) (fun _ _ _ h => h) (Or.inl ⟨by rfl, ?_⟩) hS2 ?_
      rotate_left
      · intro w hSw
        obtain ⟨s1, s2, s3, s4⟩ := hSw
        go_simp
        try with_reducible rfl
      try simp only [Act.put, List.setIfInBounds_toArray, List.set_cons_zero, List.set_cons_succ]
      refine Go.Un.two (i := 7) (j := 8) rfl rfl (by kernel_rfl) (fun K hK => ?_) (fun K hK => ?_)
      · go_simp
        refine hK.out _ _ (fun _ => (D2.below (alloc_below _ _)).s4) ?_
        clear hK
        clear K
        try simp only [Act.put, List.setIfInBounds_toArray, List.set_cons_zero, List.set_cons_succ]
        have ab := alloc_below v2 (.cells #[.bool false, .slice none 0 0] 28)
        have T7 := Two.start v2 (.bool false) (.slice none 0 0) 28
        have hg7 := D2.lts
        have D3 := D2.below ab
        have r4_3 := r4_2.below ab
        have rq_3 := rq.below ab
        have rr_3 := rr.below ab
        clear ab
        generalize v2.heap.size = g7 at *
        generalize v2.alloc (.cells #[.bool false, .slice none 0 0] 28) = v3 at *
        refine Go.Un.one (i := 8) rfl (by kernel_rfl) (fun K hK => ?_)
        go_simp
        refine hK.out _ _ (fun _ => (D3.below (alloc_below _ _)).s4) ?_
        clear hK
        clear K
        try simp only [Act.put, List.setIfInBounds_toArray, List.set_cons_zero, List.set_cons_succ]
        have ab := alloc_below v3 (.cells #[.bool false, .slice none 0 0] 28)
        have T8 := Two.start v3 (.bool false) (.slice none 0 0) 28
        have hg8 := D3.lts
        have hne := T7.lt
        have D4 := D3.below ab
        have T7_4 := T7.below ab
        have r4_4 := r4_3.below ab
        have rq_4 := rq_3.below ab
        have rr_4 := rr_3.below ab
        clear ab
        generalize v3.heap.size = g8 at *
        generalize v3.alloc (.cells #[.bool false, .slice none 0 0] 28) = v4 at *
        have q0 := T7_4.c0
        have q1 := T7_4.c1
        have f0 := T7_4.f0
        have f1 := T7_4.f1
        have E1 := D4.store T7_4 hg7 (.bool (decide (Qz < 0))) (.slice A5 n5 c5)
        have Y8 := Two.far T8 (show g8 ≠ g7 by omega) (.bool (decide (Qz < 0))) (.slice A5 n5 c5)
        have Y7 := T7_4.store (.bool (decide (Qz < 0))) (.slice A5 n5 c5)
        have yq := si_two rq_4 T7_4 (.bool (decide (Qz < 0))) (.slice A5 n5 c5)
        have yr := si_two rr_4 T7_4 (.bool (decide (Qz < 0))) (.slice A5 n5 c5)
        refine Go.Un.one (i := 9) rfl (by kernel_rfl) (fun K hK => ?_)
        go_simp
        refine hK.out _ _ (fun _ => E1.s4) ?_
        clear hK
        clear K
        try simp only [Act.put, List.setIfInBounds_toArray, List.set_cons_zero, List.set_cons_succ]
        clear q0 q1 f0 f1
        generalize ((v4.setCell _ _).setCell _ _) = u1 at *
        have q0 := Y8.c0
        have q1 := Y8.c1
        have f0 := Y8.f0
        have f1 := Y8.f1
        have E2 := E1.store Y8 hg8 (.bool (decide (Rz < 0))) (.slice A6 n6 c6)
        have X7 := Two.far Y7 (show g7 ≠ g8 by omega) (.bool (decide (Rz < 0))) (.slice A6 n6 c6)
        have X8 := Y8.store (.bool (decide (Rz < 0))) (.slice A6 n6 c6)
        have xq := si_two yq Y8 (.bool (decide (Rz < 0))) (.slice A6 n6 c6)
        have xr := si_two yr Y8 (.bool (decide (Rz < 0))) (.slice A6 n6 c6)
        refine Go.Un.one (i := 10) rfl (by kernel_rfl) (fun K hK => ?_)
        go_simp
        refine hK.out _ _ (fun h => by exact absurd h (by decide)) ?_
        clear hK
        clear K
        try simp only [Act.put, List.setIfInBounds_toArray, List.set_cons_zero, List.set_cons_succ]
        refine Go.Un.done (by kernel_rfl) ?_ _
        clear q0 q1 f0 f1 Y7 Y8 yq yr E1
        generalize ((u1.setCell _ _).setCell _ _) = u2 at *
        have z0 := E2.j5.c0
        have z1 := E2.j5.c1
        have z2 := X7.c0
        have z3 := X7.c1
        go_wp2_with (go_at_call 14; first
          | ((with_reducible refine (Rw.is_calls (decide (Qz < 0)) A1 A5 n1 c1 n5 c5 Qz.natAbs u2 E2.r1 xq (by rw [← xq.len]; have := HQL.out; omega)).mono ?_); rintro e u3 ⟨rfl, m3⟩; have E3 := E2.below m3; have W8 := X8.below m3; have z4 := E3.j6.c0; have z5 := E3.j6.c1; have z6 := W8.c0; have z7 := W8.c1)
          | ((with_reducible refine (Rw.is_calls (decide (Rz < 0)) A2 A6 n2 c2 n6 c6 Rz.natAbs u3 E3.r2 (xr.below m3) (by rw [← xr.len]; have := HRL.out; omega)).mono ?_); rintro e u4 ⟨rfl, m4⟩))
        go_ret
        exact ⟨rfl, on E3.bl m4⟩
      · go_simp
        refine hK.out _ _ (fun _ => (D2.below (alloc_below _ _)).s4) ?_
        clear hK
        clear K
        try simp only [Act.put, List.setIfInBounds_toArray, List.set_cons_zero, List.set_cons_succ]
        have ab := alloc_below v2 (.cells #[.bool false, .slice none 0 0] 28)
        have T8 := Two.start v2 (.bool false) (.slice none 0 0) 28
        have hg8 := D2.lts
        have D3 := D2.below ab
        have r4_3 := r4_2.below ab
        have rq_3 := rq.below ab
        have rr_3 := rr.below ab
        clear ab
        generalize v2.heap.size = g8 at *
        generalize v2.alloc (.cells #[.bool false, .slice none 0 0] 28) = v3 at *
        refine Go.Un.one (i := 7) rfl (by kernel_rfl) (fun K hK => ?_)
        go_simp
        refine hK.out _ _ (fun _ => (D3.below (alloc_below _ _)).s4) ?_
        clear hK
        clear K
        try simp only [Act.put, List.setIfInBounds_toArray, List.set_cons_zero, List.set_cons_succ]
        have ab := alloc_below v3 (.cells #[.bool false, .slice none 0 0] 28)
        have T7 := Two.start v3 (.bool false) (.slice none 0 0) 28
        have hg7 := D3.lts
        have hne := T8.lt
        have D4 := D3.below ab
        have T8_4 := T8.below ab
        have r4_4 := r4_3.below ab
        have rq_4 := rq_3.below ab
        have rr_4 := rr_3.below ab
        clear ab
        generalize v3.heap.size = g7 at *
        generalize v3.alloc (.cells #[.bool false, .slice none 0 0] 28) = v4 at *
        have q0 := T7.c0
        have q1 := T7.c1
        have f0 := T7.f0
        have f1 := T7.f1
        have E1 := D4.store T7 hg7 (.bool (decide (Qz < 0))) (.slice A5 n5 c5)
        have Y8 := Two.far T8_4 (show g8 ≠ g7 by omega) (.bool (decide (Qz < 0))) (.slice A5 n5 c5)
        have Y7 := T7.store (.bool (decide (Qz < 0))) (.slice A5 n5 c5)
        have yq := si_two rq_4 T7 (.bool (decide (Qz < 0))) (.slice A5 n5 c5)
        have yr := si_two rr_4 T7 (.bool (decide (Qz < 0))) (.slice A5 n5 c5)
        refine Go.Un.one (i := 9) rfl (by kernel_rfl) (fun K hK => ?_)
        go_simp
        refine hK.out _ _ (fun _ => E1.s4) ?_
        clear hK
        clear K
        try simp only [Act.put, List.setIfInBounds_toArray, List.set_cons_zero, List.set_cons_succ]
        clear q0 q1 f0 f1
        generalize ((v4.setCell _ _).setCell _ _) = u1 at *
        have q0 := Y8.c0
        have q1 := Y8.c1
        have f0 := Y8.f0
        have f1 := Y8.f1
        have E2 := E1.store Y8 hg8 (.bool (decide (Rz < 0))) (.slice A6 n6 c6)
        have X7 := Two.far Y7 (show g7 ≠ g8 by omega) (.bool (decide (Rz < 0))) (.slice A6 n6 c6)
        have X8 := Y8.store (.bool (decide (Rz < 0))) (.slice A6 n6 c6)
        have xq := si_two yq Y8 (.bool (decide (Rz < 0))) (.slice A6 n6 c6)
        have xr := si_two yr Y8 (.bool (decide (Rz < 0))) (.slice A6 n6 c6)
        refine Go.Un.one (i := 10) rfl (by kernel_rfl) (fun K hK => ?_)
        go_simp
        refine hK.out _ _ (fun h => by exact absurd h (by decide)) ?_
        clear hK
        clear K
        try simp only [Act.put, List.setIfInBounds_toArray, List.set_cons_zero, List.set_cons_succ]
        refine Go.Un.done (by kernel_rfl) ?_ _
        clear q0 q1 f0 f1 Y7 Y8 yq yr E1
        generalize ((u1.setCell _ _).setCell _ _) = u2 at *
        have z0 := E2.j5.c0
        have z1 := E2.j5.c1
        have z2 := X7.c0
        have z3 := X7.c1
        go_wp2_with (go_at_call 14; first
          | ((with_reducible refine (Rw.is_calls (decide (Qz < 0)) A1 A5 n1 c1 n5 c5 Qz.natAbs u2 E2.r1 xq (by rw [← xq.len]; have := HQL.out; omega)).mono ?_); rintro e u3 ⟨rfl, m3⟩; have E3 := E2.below m3; have W8 := X8.below m3; have z4 := E3.j6.c0; have z5 := E3.j6.c1; have z6 := W8.c0; have z7 := W8.c1)
          | ((with_reducible refine (Rw.is_calls (decide (Rz < 0)) A2 A6 n2 c2 n6 c6 Rz.natAbs u3 E3.r2 (xr.below m3) (by rw [← xr.len]; have := HRL.out; omega)).mono ?_); rintro e u4 ⟨rfl, m4⟩))
        go_ret
        exact ⟨rfl, on E3.bl m4⟩
    · go_simp
      refine hK.out _ _ (fun _ => (D1.below (alloc_below _ _)).s4) ?_
      clear hK
      clear K
      try simp only [Act.put, List.setIfInBounds_toArray, List.set_cons_zero, List.set_cons_succ]
      have ab := alloc_below v1 (.cells #[.bool false, .slice none 0 0] 28)
      have T7 := Two.start v1 (.bool false) (.slice none 0 0) 28
      have hg7 := D1.lts
      have D2 := D1.below ab
      have r4_2 := r4.below ab
      clear ab
      generalize v1.heap.size = g7 at *
      generalize v1.alloc (.cells #[.bool false, .slice none 0 0] 28) = v2 at *
      refine Go.Un.two (i := 3) (j := 8) rfl rfl (by kernel_rfl) (fun K hK => ?_) (fun K hK => ?_)
      · go_simp
        go_at_call 27; (with_reducible refine (HDR.out A4 n4 c4 A3 n3 c3 v2 r4_2 D2.r3).mono ?_); rintro e v3 ⟨A5, n5, c5, A6, n6, c6, rfl, rq, rr, bb⟩
        have D3 := D2.below bb
        have T7_3 := T7.below bb
        have r4_3 := r4_2.below bb
        refine hK.out _ _ (fun _ => D3.s4) ?_
        clear hK
        clear K
        clear bb
        try simp only [Act.put, List.setIfInBounds_toArray, List.set_cons_zero, List.set_cons_succ]
        have hS3 := D3.s4
        refine Go.Un.take [10] (i := 4) (v := ?_) rfl (by kernel_rfl) (by kernel_rfl) (by kernel_rfl) (by kernel_rfl) (by kernel_rfl) (fun _ _ _ h => h) (Or.inl ⟨by rfl, ?_⟩) hS3 ?_
        rotate_left
        · intro w hSw
          obtain ⟨s1, s2, s3, s4⟩ := hSw
          go_simp
          try with_reducible rfl
        try simp only [Act.put, List.setIfInBounds_toArray, List.set_cons_zero, List.set_cons_succ]
        refine Go.Un.take [10] (i := 5) (v := ?_) rfl (by kernel_rfl) (by kernel_rfl) (by kernel_rfl) (by kernel_rfl) (by kernel_rfl) (fun _ _ _ h => h) (Or.inl ⟨by rfl, ?_⟩) hS3 ?_
        rotate_left
        · intro w hSw
          obtain ⟨s1, s2, s3, s4⟩ := hSw
          go_simp
          try with_reducible rfl
        try simp only [Act.put, List.setIfInBounds_toArray, List.set_cons_zero, List.set_cons_succ]
        refine Go.Un.take [10] (i := 6) (v := ?_) rfl (by kernel_rfl) (by kernel_rfl) (by kernel_rfl) (by kernel_rfl) (by kernel_rfl) (fun _ _ _ h => h) (Or.inl ⟨by rfl, ?_⟩) hS3 ?_
        rotate_left
        · intro w hSw
          obtain ⟨s1, s2, s3, s4⟩ := hSw
          go_simp
          try with_reducible rfl
        try simp only [Act.put, List.setIfInBounds_toArray, List.set_cons_zero, List.set_cons_succ]
        refine Go.Un.one (i := 8) rfl (by kernel_rfl) (fun K hK => ?_)
        go_simp
        refine hK.out _ _ (fun _ => (D3.below (alloc_below _ _)).s4) ?_
        clear hK
        clear K
        try simp only [Act.put, List.setIfInBounds_toArray, List.set_cons_zero, List.set_cons_succ]
        have ab := alloc_below v3 (.cells #[.bool false, .slice none 0 0] 28)
        have T8 := Two.start v3 (.bool false) (.slice none 0 0) 28
        have hg8 := D3.lts
        have hne := T7_3.lt
        have D4 := D3.below ab
        have T7_4 := T7_3.below ab
        have r4_4 := r4_3.below ab
        have rq_4 := rq.below ab
        have rr_4 := rr.below ab
        clear ab
        generalize v3.heap.size = g8 at *
        generalize v3.alloc (.cells #[.bool false, .slice none 0 0] 28) = v4 at *
        have q0 := T7_4.c0
        have q1 := T7_4.c1
        have f0 := T7_4.f0
        have f1 := T7_4.f1
        have E1 := D4.store T7_4 hg7 (.bool (decide (Qz < 0))) (.slice A5 n5 c5)
        have Y8 := Two.far T8 (show g8 ≠ g7 by omega) (.bool (decide (Qz < 0))) (.slice A5 n5 c5)
        have Y7 := T7_4.store (.bool (decide (Qz < 0))) (.slice A5 n5 c5)
        have yq := si_two rq_4 T7_4 (.bool (decide (Qz < 0))) (.slice A5 n5 c5)
        have yr := si_two rr_4 T7_4 (.bool (decide (Qz < 0))) (.slice A5 n5 c5)
        refine Go.Un.one (i := 9) rfl (by kernel_rfl) (fun K hK => ?_)
        go_simp
        refine hK.out _ _ (fun _ => E1.s4) ?_
        clear hK
        clear K
        try simp only [Act.put, List.setIfInBounds_toArray, List.set_cons_zero, List.set_cons_succ]
        clear q0 q1 f0 f1
        generalize ((v4.setCell _ _).setCell _ _) = u1 at *
        have q0 := Y8.c0
        have q1 := Y8.c1
        have f0 := Y8.f0
        have f1 := Y8.f1
        have E2 := E1.store Y8 hg8 (.bool (decide (Rz < 0))) (.slice A6 n6 c6)
        have X7 := Two.far Y7 (show g7 ≠ g8 by omega) (.bool (decide (Rz < 0))) (.slice A6 n6 c6)
        have X8 := Y8.store (.bool (decide (Rz < 0))) (.slice A6 n6 c6)
        have xq := si_two yq Y8 (.bool (decide (Rz < 0))) (.slice A6 n6 c6)
        have xr := si_two yr Y8 (.bool (decide (Rz < 0))) (.slice A6 n6 c6)
        refine Go.Un.one (i := 10) rfl (by kernel_rfl) (fun K hK => ?_)
        go_simp
        refine hK.out _ _ (fun h => by exact absurd h (by decide)) ?_
        clear hK
        clear K
        try simp only [Act.put, List.setIfInBounds_toArray, List.set_cons_zero, List.set_cons_succ]
        refine Go.Un.done (by kernel_rfl) ?_ _
        clear q0 q1 f0 f1 Y7 Y8 yq yr E1
        generalize ((u1.setCell _ _).setCell _ _) = u2 at *
        have z0 := E2.j5.c0
        have z1 := E2.j5.c1
        have z2 := X7.c0
        have z3 := X7.c1
        go_wp2_with (go_at_call 14; first
          | ((with_reducible refine (Rw.is_calls (decide (Qz < 0)) A1 A5 n1 c1 n5 c5 Qz.natAbs u2 E2.r1 xq (by rw [← xq.len]; have := HQL.out; omega)).mono ?_); rintro e u3 ⟨rfl, m3⟩; have E3 := E2.below m3; have W8 := X8.below m3; have z4 := E3.j6.c0; have z5 := E3.j6.c1; have z6 := W8.c0; have z7 := W8.c1)
          | ((with_reducible refine (Rw.is_calls (decide (Rz < 0)) A2 A6 n2 c2 n6 c6 Rz.natAbs u3 E3.r2 (xr.below m3) (by rw [← xr.len]; have := HRL.out; omega)).mono ?_); rintro e u4 ⟨rfl, m4⟩))
        go_ret
        exact ⟨rfl, on E3.bl m4⟩
      · go_simp
        refine hK.out _ _ (fun _ => (D2.below (alloc_below _ _)).s4) ?_
        clear hK
        clear K
        try simp only [Act.put, List.setIfInBounds_toArray, List.set_cons_zero, List.set_cons_succ]
        have ab := alloc_below v2 (.cells #[.bool false, .slice none 0 0] 28)
        have T8 := Two.start v2 (.bool false) (.slice none 0 0) 28
        have hg8 := D2.lts
        have hne := T7.lt
        have D3 := D2.below ab
        have T7_3 := T7.below ab
        have r4_3 := r4_2.below ab
        clear ab
        generalize v2.heap.size = g8 at *
        generalize v2.alloc (.cells #[.bool false, .slice none 0 0] 28) = v3 at *
        refine Go.Un.one (i := 3) rfl (by kernel_rfl) (fun K hK => ?_)
        go_simp
        go_at_call 27; (with_reducible refine (HDR.out A4 n4 c4 A3 n3 c3 v3 r4_3 D3.r3).mono ?_); rintro e v4 ⟨A5, n5, c5, A6, n6, c6, rfl, rq, rr, bb⟩
        have D4 := D3.below bb
        have T7_4 := T7_3.below bb
        have T8_4 := T8.below bb
        have r4_4 := r4_3.below bb
        refine hK.out _ _ (fun _ => D4.s4) ?_
        clear hK
        clear K
        clear bb
        try simp only [Act.put, List.setIfInBounds_toArray, List.set_cons_zero, List.set_cons_succ]
        have hS4 := D4.s4
        refine Go.Un.take [10] (i := 4) (v := ?_) rfl (by kernel_rfl) (by kernel_rfl) (by kernel_rfl) (by kernel_rfl) (by kernel_rfl) (fun _ _ _ h => h) (Or.inl ⟨by rfl, ?_⟩) hS4 ?_
        rotate_left
        · intro w hSw
          obtain ⟨s1, s2, s3, s4⟩ := hSw
          go_simp
          try with_reducible rfl
        try simp only [Act.put, List.setIfInBounds_toArray, List.set_cons_zero, List.set_cons_succ]
        refine Go.Un.take [10] (i := 5) (v := ?_) rfl (by kernel_rfl) (by kernel_rfl) (by kernel_rfl) (by kernel_rfl) (by kernel_rfl) (fun _ _ _ h => h) (Or.inl ⟨by rfl, ?_⟩) hS4 ?_
        rotate_left
        · intro w hSw
          obtain ⟨s1, s2, s3, s4⟩ := hSw
          go_simp
          try with_reducible rfl
        try simp only [Act.put, List.setIfInBounds_toArray, List.set_cons_zero, List.set_cons_succ]
        refine Go.Un.take [10] (i := 6) (v := ?_) rfl (by kernel_rfl) (by kernel_rfl) (by kernel_rfl) (by kernel_rfl) (by kernel_rfl) (fun _ _ _ h => h) (Or.inl ⟨by rfl, ?_⟩) hS4 ?_
        rotate_left
        · intro w hSw
          obtain ⟨s1, s2, s3, s4⟩ := hSw
          go_simp
          try with_reducible rfl
        try simp only [Act.put, List.setIfInBounds_toArray, List.set_cons_zero, List.set_cons_succ]
        have q0 := T7_4.c0
        have q1 := T7_4.c1
        have f0 := T7_4.f0
        have f1 := T7_4.f1
        have E1 := D4.store T7_4 hg7 (.bool (decide (Qz < 0))) (.slice A5 n5 c5)
        have Y8 := Two.far T8_4 (show g8 ≠ g7 by omega) (.bool (decide (Qz < 0))) (.slice A5 n5 c5)
        have Y7 := T7_4.store (.bool (decide (Qz < 0))) (.slice A5 n5 c5)
        have yq := si_two rq T7_4 (.bool (decide (Qz < 0))) (.slice A5 n5 c5)
        have yr := si_two rr T7_4 (.bool (decide (Qz < 0))) (.slice A5 n5 c5)
        refine Go.Un.one (i := 9) rfl (by kernel_rfl) (fun K hK => ?_)
        go_simp
        refine hK.out _ _ (fun _ => E1.s4) ?_
        clear hK
        clear K
        try simp only [Act.put, List.setIfInBounds_toArray, List.set_cons_zero, List.set_cons_succ]
        clear q0 q1 f0 f1
        generalize ((v4.setCell _ _).setCell _ _) = u1 at *
        have q0 := Y8.c0
        have q1 := Y8.c1
        have f0 := Y8.f0
        have f1 := Y8.f1
        have E2 := E1.store Y8 hg8 (.bool (decide (Rz < 0))) (.slice A6 n6 c6)
        have X7 := Two.far Y7 (show g7 ≠ g8 by omega) (.bool (decide (Rz < 0))) (.slice A6 n6 c6)
        have X8 := Y8.store (.bool (decide (Rz < 0))) (.slice A6 n6 c6)
        have xq := si_two yq Y8 (.bool (decide (Rz < 0))) (.slice A6 n6 c6)
        have xr := si_two yr Y8 (.bool (decide (Rz < 0))) (.slice A6 n6 c6)
        refine Go.Un.one (i := 10) rfl (by kernel_rfl) (fun K hK => ?_)
        go_simp
        refine hK.out _ _ (fun h => by exact absurd h (by decide)) ?_
        clear hK
        clear K
        try simp only [Act.put, List.setIfInBounds_toArray, List.set_cons_zero, List.set_cons_succ]
        refine Go.Un.done (by kernel_rfl) ?_ _
        clear q0 q1 f0 f1 Y7 Y8 yq yr E1
        generalize ((u1.setCell _ _).setCell _ _) = u2 at *
        have z0 := E2.j5.c0
        have z1 := E2.j5.c1
        have z2 := X7.c0
        have z3 := X7.c1
        go_wp2_with (go_at_call 14; first
          | ((with_reducible refine (Rw.is_calls (decide (Qz < 0)) A1 A5 n1 c1 n5 c5 Qz.natAbs u2 E2.r1 xq (by rw [← xq.len]; have := HQL.out; omega)).mono ?_); rintro e u3 ⟨rfl, m3⟩; have E3 := E2.below m3; have W8 := X8.below m3; have z4 := E3.j6.c0; have z5 := E3.j6.c1; have z6 := W8.c0; have z7 := W8.c1)
          | ((with_reducible refine (Rw.is_calls (decide (Rz < 0)) A2 A6 n2 c2 n6 c6 Rz.natAbs u3 E3.r2 (xr.below m3) (by rw [← xr.len]; have := HRL.out; omega)).mono ?_); rintro e u4 ⟨rfl, m4⟩))
        go_ret
        exact ⟨rfl, on E3.bl m4⟩
    · go_simp
      refine hK.out _ _ (fun _ => (D1.below (alloc_below _ _)).s4) ?_
      clear hK
      clear K
      try simp only [Act.put, List.setIfInBounds_toArray, List.set_cons_zero, List.set_cons_succ]
      have ab := alloc_below v1 (.cells #[.bool false, .slice none 0 0] 28)
      have T8 := Two.start v1 (.bool false) (.slice none 0 0) 28
      have hg8 := D1.lts
      have D2 := D1.below ab
      have r4_2 := r4.below ab
      clear ab
      generalize v1.heap.size = g8 at *
      generalize v1.alloc (.cells #[.bool false, .slice none 0 0] 28) = v2 at *
      refine Go.Un.two (i := 3) (j := 7) rfl rfl (by kernel_rfl) (fun K hK => ?_) (fun K hK => ?_)
      · go_simp
        go_at_call 27; (with_reducible refine (HDR.out A4 n4 c4 A3 n3 c3 v2 r4_2 D2.r3).mono ?_); rintro e v3 ⟨A5, n5, c5, A6, n6, c6, rfl, rq, rr, bb⟩
        have D3 := D2.below bb
        have T8_3 := T8.below bb
        have r4_3 := r4_2.below bb
        refine hK.out _ _ (fun _ => D3.s4) ?_
        clear hK
        clear K
        clear bb
        try simp only [Act.put, List.setIfInBounds_toArray, List.set_cons_zero, List.set_cons_succ]
        have hS3 := D3.s4
        refine Go.Un.take [10] (i := 4) (v := ?_) rfl (by kernel_rfl) (by kernel_rfl) (by kernel_rfl) (by kernel_rfl) (by kernel_rfl) (fun _ _ _ h => h) (Or.inl ⟨by rfl, ?_⟩) hS3 ?_
        rotate_left
        · intro w hSw
          obtain ⟨s1, s2, s3, s4⟩ := hSw
          go_simp
          try with_reducible rfl
        try simp only [Act.put, List.setIfInBounds_toArray, List.set_cons_zero, List.set_cons_succ]
        refine Go.Un.take [10] (i := 5) (v := ?_) rfl (by kernel_rfl) (by kernel_rfl) (by kernel_rfl) (by kernel_rfl) (by kernel_rfl) (fun _ _ _ h => h) (Or.inl ⟨by rfl, ?_⟩) hS3 ?_
        rotate_left
        · intro w hSw
          obtain ⟨s1, s2, s3, s4⟩ := hSw
          go_simp
          try with_reducible rfl
        try simp only [Act.put, List.setIfInBounds_toArray, List.set_cons_zero, List.set_cons_succ]
        refine Go.Un.take [10] (i := 6) (v := ?_) rfl (by kernel_rfl) (by kernel_rfl) (by kernel_rfl) (by kernel_rfl) (by kernel_rfl) (fun _ _ _ h => h) (Or.inl ⟨by rfl, ?_⟩) hS3 ?_
        rotate_left
        · intro w hSw
          obtain ⟨s1, s2, s3, s4⟩ := hSw
          go_simp
          try with_reducible rfl
        try simp only [Act.put, List.setIfInBounds_toArray, List.set_cons_zero, List.set_cons_succ]
        refine Go.Un.one (i := 7) rfl (by kernel_rfl) (fun K hK => ?_)
        go_simp
        refine hK.out _ _ (fun _ => (D3.below (alloc_below _ _)).s4) ?_
        clear hK
        clear K
        try simp only [Act.put, List.setIfInBounds_toArray, List.set_cons_zero, List.set_cons_succ]
        have ab := alloc_below v3 (.cells #[.bool false, .slice none 0 0] 28)
        have T7 := Two.start v3 (.bool false) (.slice none 0 0) 28
        have hg7 := D3.lts
        have hne := T8_3.lt
        have D4 := D3.below ab
        have T8_4 := T8_3.below ab
        have r4_4 := r4_3.below ab
        have rq_4 := rq.below ab
        have rr_4 := rr.below ab
        clear ab
        generalize v3.heap.size = g7 at *
        generalize v3.alloc (.cells #[.bool false, .slice none 0 0] 28) = v4 at *
        have q0 := T7.c0
        have q1 := T7.c1
        have f0 := T7.f0
        have f1 := T7.f1
        have E1 := D4.store T7 hg7 (.bool (decide (Qz < 0))) (.slice A5 n5 c5)
        have Y8 := Two.far T8_4 (show g8 ≠ g7 by omega) (.bool (decide (Qz < 0))) (.slice A5 n5 c5)
        have Y7 := T7.store (.bool (decide (Qz < 0))) (.slice A5 n5 c5)
        have yq := si_two rq_4 T7 (.bool (decide (Qz < 0))) (.slice A5 n5 c5)
        have yr := si_two rr_4 T7 (.bool (decide (Qz < 0))) (.slice A5 n5 c5)
        refine Go.Un.one (i := 9) rfl (by kernel_rfl) (fun K hK => ?_)
        go_simp
        refine hK.out _ _ (fun _ => E1.s4) ?_
        clear hK
        clear K
        try simp only [Act.put, List.setIfInBounds_toArray, List.set_cons_zero, List.set_cons_succ]
        clear q0 q1 f0 f1
        generalize ((v4.setCell _ _).setCell _ _) = u1 at *
        have q0 := Y8.c0
        have q1 := Y8.c1
        have f0 := Y8.f0
        have f1 := Y8.f1
        have E2 := E1.store Y8 hg8 (.bool (decide (Rz < 0))) (.slice A6 n6 c6)
        have X7 := Two.far Y7 (show g7 ≠ g8 by omega) (.bool (decide (Rz < 0))) (.slice A6 n6 c6)
        have X8 := Y8.store (.bool (decide (Rz < 0))) (.slice A6 n6 c6)
        have xq := si_two yq Y8 (.bool (decide (Rz < 0))) (.slice A6 n6 c6)
        have xr := si_two yr Y8 (.bool (decide (Rz < 0))) (.slice A6 n6 c6)
        refine Go.Un.one (i := 10) rfl (by kernel_rfl) (fun K hK => ?_)
        go_simp
        refine hK.out _ _ (fun h => by exact absurd h (by decide)) ?_
        clear hK
        clear K
        try simp only [Act.put, List.setIfInBounds_toArray, List.set_cons_zero, List.set_cons_succ]
        refine Go.Un.done (by kernel_rfl) ?_ _
        clear q0 q1 f0 f1 Y7 Y8 yq yr E1
        generalize ((u1.setCell _ _).setCell _ _) = u2 at *
        have z0 := E2.j5.c0
        have z1 := E2.j5.c1
        have z2 := X7.c0
        have z3 := X7.c1
        go_wp2_with (go_at_call 14; first
          | ((with_reducible refine (Rw.is_calls (decide (Qz < 0)) A1 A5 n1 c1 n5 c5 Qz.natAbs u2 E2.r1 xq (by rw [← xq.len]; have := HQL.out; omega)).mono ?_); rintro e u3 ⟨rfl, m3⟩; have E3 := E2.below m3; have W8 := X8.below m3; have z4 := E3.j6.c0; have z5 := E3.j6.c1; have z6 := W8.c0; have z7 := W8.c1)
          | ((with_reducible refine (Rw.is_calls (decide (Rz < 0)) A2 A6 n2 c2 n6 c6 Rz.natAbs u3 E3.r2 (xr.below m3) (by rw [← xr.len]; have := HRL.out; omega)).mono ?_); rintro e u4 ⟨rfl, m4⟩))
        go_ret
        exact ⟨rfl, on E3.bl m4⟩
      · go_simp
        refine hK.out _ _ (fun _ => (D2.below (alloc_below _ _)).s4) ?_
        clear hK
        clear K
        try simp only [Act.put, List.setIfInBounds_toArray, List.set_cons_zero, List.set_cons_succ]
        have ab := alloc_below v2 (.cells #[.bool false, .slice none 0 0] 28)
        have T7 := Two.start v2 (.bool false) (.slice none 0 0) 28
        have hg7 := D2.lts
        have hne := T8.lt
        have D3 := D2.below ab
        have T8_3 := T8.below ab
        have r4_3 := r4_2.below ab
        clear ab
        generalize v2.heap.size = g7 at *
        generalize v2.alloc (.cells #[.bool false, .slice none 0 0] 28) = v3 at *
        refine Go.Un.one (i := 3) rfl (by kernel_rfl) (fun K hK => ?_)
        go_simp
        go_at_call 27; (with_reducible refine (HDR.out A4 n4 c4 A3 n3 c3 v3 r4_3 D3.r3).mono ?_); rintro e v4 ⟨A5, n5, c5, A6, n6, c6, rfl, rq, rr, bb⟩
        have D4 := D3.below bb
        have T7_4 := T7.below bb
        have T8_4 := T8_3.below bb
        have r4_4 := r4_3.below bb
        refine hK.out _ _ (fun _ => D4.s4) ?_
        clear hK
        clear K
        clear bb
        try simp only [Act.put, List.setIfInBounds_toArray, List.set_cons_zero, List.set_cons_succ]
        have hS4 := D4.s4
        refine Go.Un.take [10] (i := 4) (v := ?_) rfl (by kernel_rfl) (by kernel_rfl) (by kernel_rfl) (by kernel_rfl) (by kernel_rfl) (fun _ _ _ h => h) (Or.inl ⟨by rfl, ?_⟩) hS4 ?_
        rotate_left
        · intro w hSw
          obtain ⟨s1, s2, s3, s4⟩ := hSw
          go_simp
          try with_reducible rfl
        try simp only [Act.put, List.setIfInBounds_toArray, List.set_cons_zero, List.set_cons_succ]
        refine Go.Un.take [10] (i := 5) (v := ?_) rfl (by kernel_rfl) (by kernel_rfl) (by kernel_rfl) (by kernel_rfl) (by kernel_rfl) (fun _ _ _ h => h) (Or.inl ⟨by rfl, ?_⟩) hS4 ?_
        rotate_left
        · intro w hSw
          obtain ⟨s1, s2, s3, s4⟩ := hSw
          go_simp
          try with_reducible rfl
        try simp only [Act.put, List.setIfInBounds_toArray, List.set_cons_zero, List.set_cons_succ]
        refine Go.Un.take [10] (i := 6) (v := ?_) rfl (by kernel_rfl) (by kernel_rfl) (by kernel_rfl) (by kernel_rfl) (by kernel_rfl) (fun _ _ _ h => h) (Or.inl ⟨by rfl, ?_⟩) hS4 ?_
        rotate_left
        · intro w hSw
          obtain ⟨s1, s2, s3, s4⟩ := hSw
          go_simp
          try with_reducible rfl
        try simp only [Act.put, List.setIfInBounds_toArray, List.set_cons_zero, List.set_cons_succ]
        have q0 := T7_4.c0
        have q1 := T7_4.c1
        have f0 := T7_4.f0
        have f1 := T7_4.f1
        have E1 := D4.store T7_4 hg7 (.bool (decide (Qz < 0))) (.slice A5 n5 c5)
        have Y8 := Two.far T8_4 (show g8 ≠ g7 by omega) (.bool (decide (Qz < 0))) (.slice A5 n5 c5)
        have Y7 := T7_4.store (.bool (decide (Qz < 0))) (.slice A5 n5 c5)
        have yq := si_two rq T7_4 (.bool (decide (Qz < 0))) (.slice A5 n5 c5)
        have yr := si_two rr T7_4 (.bool (decide (Qz < 0))) (.slice A5 n5 c5)
        refine Go.Un.one (i := 9) rfl (by kernel_rfl) (fun K hK => ?_)
        go_simp
        refine hK.out _ _ (fun _ => E1.s4) ?_
        clear hK
        clear K
        try simp only [Act.put, List.setIfInBounds_toArray, List.set_cons_zero, List.set_cons_succ]
        clear q0 q1 f0 f1
        generalize ((v4.setCell _ _).setCell _ _) = u1 at *
        have q0 := Y8.c0
        have q1 := Y8.c1
        have f0 := Y8.f0
        have f1 := Y8.f1
        have E2 := E1.store Y8 hg8 (.bool (decide (Rz < 0))) (.slice A6 n6 c6)
        have X7 := Two.far Y7 (show g7 ≠ g8 by omega) (.bool (decide (Rz < 0))) (.slice A6 n6 c6)
        have X8 := Y8.store (.bool (decide (Rz < 0))) (.slice A6 n6 c6)
        have xq := si_two yq Y8 (.bool (decide (Rz < 0))) (.slice A6 n6 c6)
        have xr := si_two yr Y8 (.bool (decide (Rz < 0))) (.slice A6 n6 c6)
        refine Go.Un.one (i := 10) rfl (by kernel_rfl) (fun K hK => ?_)
        go_simp
        refine hK.out _ _ (fun h => by exact absurd h (by decide)) ?_
        clear hK
        clear K
        try simp only [Act.put, List.setIfInBounds_toArray, List.set_cons_zero, List.set_cons_succ]
        refine Go.Un.done (by kernel_rfl) ?_ _
        clear q0 q1 f0 f1 Y7 Y8 yq yr E1
        generalize ((u1.setCell _ _).setCell _ _) = u2 at *
        have z0 := E2.j5.c0
        have z1 := E2.j5.c1
        have z2 := X7.c0
        have z3 := X7.c1
        go_wp2_with (go_at_call 14; first
          | ((with_reducible refine (Rw.is_calls (decide (Qz < 0)) A1 A5 n1 c1 n5 c5 Qz.natAbs u2 E2.r1 xq (by rw [← xq.len]; have := HQL.out; omega)).mono ?_); rintro e u3 ⟨rfl, m3⟩; have E3 := E2.below m3; have W8 := X8.below m3; have z4 := E3.j6.c0; have z5 := E3.j6.c1; have z6 := W8.c0; have z7 := W8.c1)
          | ((with_reducible refine (Rw.is_calls (decide (Rz < 0)) A2 A6 n2 c2 n6 c6 Rz.natAbs u3 E3.r2 (xr.below m3) (by rw [← xr.len]; have := HRL.out; omega)).mono ?_); rintro e u4 ⟨rfl, m4⟩))
        go_ret
        exact ⟨rfl, on E3.bl m4⟩
  · go_simp
    refine hK.out _ _ (fun _ => (D0.below (alloc_below _ _)).s4) ?_
    clear hK
    clear K
    try simp only [Act.put, List.setIfInBounds_toArray, List.set_cons_zero, List.set_cons_succ]
    have ab := alloc_below v0 (.cells #[.bool false, .slice none 0 0] 28)
    have T7 := Two.start v0 (.bool false) (.slice none 0 0) 28
    have hg7 := D0.lts
    have D1 := D0.below ab
    clear ab
    generalize v0.heap.size = g7 at *
    generalize v0.alloc (.cells #[.bool false, .slice none 0 0] 28) = v1 at *
    refine Go.Un.two (i := 1) (j := 8) rfl rfl (by kernel_rfl) (fun K hK => ?_) (fun K hK => ?_)
    · go_simp
      go_at_call 12; (with_reducible refine (HIX.out v1 D1.bl).mono ?_); rintro e v2 ⟨A4, n4, c4, rfl, r4, _, bb⟩
      have D2 := D1.below bb
      have T7_2 := T7.below bb
      refine hK.out _ _ (fun _ => D2.s4) ?_
      clear hK
      clear K
      clear bb
      try simp only [Act.put, List.setIfInBounds_toArray, List.set_cons_zero, List.set_cons_succ]
      refine Go.Un.two (i := 3) (j := 8) rfl rfl (by kernel_rfl) (fun K hK => ?_) (fun K hK => ?_)
      · go_simp
        go_at_call 27; (with_reducible refine (HDR.out A4 n4 c4 A3 n3 c3 v2 r4 D2.r3).mono ?_); rintro e v3 ⟨A5, n5, c5, A6, n6, c6, rfl, rq, rr, bb⟩
        have D3 := D2.below bb
        have T7_3 := T7_2.below bb
        have r4_3 := r4.below bb
        refine hK.out _ _ (fun _ => D3.s4) ?_
        clear hK
        clear K
        clear bb
        try simp only [Act.put, List.setIfInBounds_toArray, List.set_cons_zero, List.set_cons_succ]
        have hS3 := D3.s4
        refine Go.Un.take [10] (i := 4) (v := ?_) rfl (by kernel_rfl) (by kernel_rfl) (by kernel_rfl) (by kernel_rfl) (by kernel_rfl) (fun _ _ _ h => h) (Or.inl ⟨by rfl, ?_⟩) hS3 ?_
        rotate_left
        · intro w hSw
          obtain ⟨s1, s2, s3, s4⟩ := hSw
          go_simp
          try with_reducible rfl
        try simp only [Act.put, List.setIfInBounds_toArray, List.set_cons_zero, List.set_cons_succ]
        refine Go.Un.take [10] (i := 5) (v := ?_) rfl (by kernel_rfl) (by kernel_rfl) (by kernel_rfl) (by kernel_rfl) (by kernel_rfl) (fun _ _ _ h => h) (Or.inl ⟨by rfl, ?_⟩) hS3 ?_
        rotate_left
        · intro w hSw
          obtain ⟨s1, s2, s3, s4⟩ := hSw
          go_simp
          try with_reducible rfl
        try simp only [Act.put, List.setIfInBounds_toArray, List.set_cons_zero, List.set_cons_succ]
        refine Go.Un.take [10] (i := 6) (v := ?_) rfl (by kernel_rfl) (by kernel_rfl) (by kernel_rfl) (by kernel_rfl) (by kernel_rfl) (fun _ _ _ h => h) (Or.inl ⟨by rfl, ?_⟩) hS3 ?_
        rotate_left
        · intro w hSw
          obtain ⟨s1, s2, s3, s4⟩ := hSw
          go_simp
          try with_reducible rfl
        try simp only [Act.put, List.setIfInBounds_toArray, List.set_cons_zero, List.set_cons_succ]
        refine Go.Un.one (i := 8) rfl (by kernel_rfl) (fun K hK => ?_)
        go_simp
        refine hK.out _ _ (fun _ => (D3.below (alloc_below _ _)).s4) ?_
        clear hK
        clear K
        try simp only [Act.put, List.setIfInBounds_toArray, List.set_cons_zero, List.set_cons_succ]
        have ab := alloc_below v3 (.cells #[.bool false, .slice none 0 0] 28)
        have T8 := Two.start v3 (.bool false) (.slice none 0 0) 28
        have hg8 := D3.lts
        have hne := T7_3.lt
        have D4 := D3.below ab
        have T7_4 := T7_3.below ab
        have r4_4 := r4_3.below ab
        have rq_4 := rq.below ab
        have rr_4 := rr.below ab
        clear ab
        generalize v3.heap.size = g8 at *
        generalize v3.alloc (.cells #[.bool false, .slice none 0 0] 28) = v4 at *
        have q0 := T7_4.c0
        have q1 := T7_4.c1
        have f0 := T7_4.f0
        have f1 := T7_4.f1
        have E1 := D4.store T7_4 hg7 (.bool (decide (Qz < 0))) (.slice A5 n5 c5)
        have Y8 := Two.far T8 (show g8 ≠ g7 by omega) (.bool (decide (Qz < 0))) (.slice A5 n5 c5)
        have Y7 := T7_4.store (.bool (decide (Qz < 0))) (.slice A5 n5 c5)
        have yq := si_two rq_4 T7_4 (.bool (decide (Qz < 0))) (.slice A5 n5 c5)
        have yr := si_two rr_4 T7_4 (.bool (decide (Qz < 0))) (.slice A5 n5 c5)
        refine Go.Un.one (i := 9) rfl (by kernel_rfl) (fun K hK => ?_)
        go_simp
        refine hK.out _ _ (fun _ => E1.s4) ?_
        clear hK
        clear K
        try simp only [Act.put, List.setIfInBounds_toArray, List.set_cons_zero, List.set_cons_succ]
        clear q0 q1 f0 f1
        generalize ((v4.setCell _ _).setCell _ _) = u1 at *
        have q0 := Y8.c0
        have q1 := Y8.c1
        have f0 := Y8.f0
        have f1 := Y8.f1
        have E2 := E1.store Y8 hg8 (.bool (decide (Rz < 0))) (.slice A6 n6 c6)
        have X7 := Two.far Y7 (show g7 ≠ g8 by omega) (.bool (decide (Rz < 0))) (.slice A6 n6 c6)
        have X8 := Y8.store (.bool (decide (Rz < 0))) (.slice A6 n6 c6)
        have xq := si_two yq Y8 (.bool (decide (Rz < 0))) (.slice A6 n6 c6)
        have xr := si_two yr Y8 (.bool (decide (Rz < 0))) (.slice A6 n6 c6)
        refine Go.Un.one (i := 10) rfl (by kernel_rfl) (fun K hK => ?_)
        go_simp
        refine hK.out _ _ (fun h => by exact absurd h (by decide)) ?_
        clear hK
        clear K
        try simp only [Act.put, List.setIfInBounds_toArray, List.set_cons_zero, List.set_cons_succ]
        refine Go.Un.done (by kernel_rfl) ?_ _
        clear q0 q1 f0 f1 Y7 Y8 yq yr E1
        generalize ((u1.setCell _ _).setCell _ _) = u2 at *
        have z0 := E2.j5.c0
        have z1 := E2.j5.c1
        have z2 := X7.c0
        have z3 := X7.c1
        go_wp2_with (go_at_call 14; first
          | ((with_reducible refine (Rw.is_calls (decide (Qz < 0)) A1 A5 n1 c1 n5 c5 Qz.natAbs u2 E2.r1 xq (by rw [← xq.len]; have := HQL.out; omega)).mono ?_); rintro e u3 ⟨rfl, m3⟩; have E3 := E2.below m3; have W8 := X8.below m3; have z4 := E3.j6.c0; have z5 := E3.j6.c1; have z6 := W8.c0; have z7 := W8.c1)
          | ((with_reducible refine (Rw.is_calls (decide (Rz < 0)) A2 A6 n2 c2 n6 c6 Rz.natAbs u3 E3.r2 (xr.below m3) (by rw [← xr.len]; have := HRL.out; omega)).mono ?_); rintro e u4 ⟨rfl, m4⟩))
        go_ret
        exact ⟨rfl, on E3.bl m4⟩
      · go_simp
        refine hK.out _ _ (fun _ => (D2.below (alloc_below _ _)).s4) ?_
        clear hK
        clear K
        try simp only [Act.put, List.setIfInBounds_toArray, List.set_cons_zero, List.set_cons_succ]
        have ab := alloc_below v2 (.cells #[.bool false, .slice none 0 0] 28)
        have T8 := Two.start v2 (.bool false) (.slice none 0 0) 28
        have hg8 := D2.lts
        have hne := T7_2.lt
        have D3 := D2.below ab
        have T7_3 := T7_2.below ab
        have r4_3 := r4.below ab
        clear ab
        generalize v2.heap.size = g8 at *
        generalize v2.alloc (.cells #[.bool false, .slice none 0 0] 28) = v3 at *
        refine Go.Un.one (i := 3) rfl (by kernel_rfl) (fun K hK => ?_)
        go_simp
        go_at_call 27; (with_reducible refine (HDR.out A4 n4 c4 A3 n3 c3 v3 r4_3 D3.r3).mono ?_); rintro e v4 ⟨A5, n5, c5, A6, n6, c6, rfl, rq, rr, bb⟩
        have D4 := D3.below bb
        have T7_4 := T7_3.below bb
        have T8_4 := T8.below bb
        have r4_4 := r4_3.below bb
        refine hK.out _ _ (fun _ => D4.s4) ?_
        clear hK
        clear K
        clear bb
        try simp only [Act.put, List.setIfInBounds_toArray, List.set_cons_zero, List.set_cons_succ]
        have hS4 := D4.s4
        refine Go.Un.take [10] (i := 4) (v := ?_) rfl (by kernel_rfl) (by kernel_rfl) (by kernel_rfl) (by kernel_rfl) (by kernel_rfl) (fun _ _ _ h => h) (Or.inl ⟨by rfl, ?_⟩) hS4 ?_
        rotate_left
        · intro w hSw
          obtain ⟨s1, s2, s3, s4⟩ := hSw
          go_simp
          try with_reducible rfl
        try simp only [Act.put, List.setIfInBounds_toArray, List.set_cons_zero, List.set_cons_succ]
        refine Go.Un.take [10] (i := 5) (v := ?_) rfl (by kernel_rfl) (by kernel_rfl) (by kernel_rfl) (by kernel_rfl) (by kernel_rfl) (fun _ _ _ h => h) (Or.inl ⟨by rfl, ?_⟩) hS4 ?_
        rotate_left
        · intro w hSw
          obtain ⟨s1, s2, s3, s4⟩ := hSw
          go_simp
          try with_reducible rfl
        try simp only [Act.put, List.setIfInBounds_toArray, List.set_cons_zero, List.set_cons_succ]
        refine Go.Un.take [10] (i := 6) (v := ?_) rfl (by kernel_rfl) (by kernel_rfl) (by kernel_rfl) (by kernel_rfl) (by kernel_rfl) (fun _ _ _ h => h) (Or.inl ⟨by rfl, ?_⟩) hS4 ?_
        rotate_left
        · intro w hSw
          obtain ⟨s1, s2, s3, s4⟩ := hSw
          go_simp
          try with_reducible rfl
        try simp only [Act.put, List.setIfInBounds_toArray, List.set_cons_zero, List.set_cons_succ]
        have q0 := T7_4.c0
        have q1 := T7_4.c1
        have f0 := T7_4.f0
        have f1 := T7_4.f1
        have E1 := D4.store T7_4 hg7 (.bool (decide (Qz < 0))) (.slice A5 n5 c5)
        have Y8 := Two.far T8_4 (show g8 ≠ g7 by omega) (.bool (decide (Qz < 0))) (.slice A5 n5 c5)
        have Y7 := T7_4.store (.bool (decide (Qz < 0))) (.slice A5 n5 c5)
        have yq := si_two rq T7_4 (.bool (decide (Qz < 0))) (.slice A5 n5 c5)
        have yr := si_two rr T7_4 (.bool (decide (Qz < 0))) (.slice A5 n5 c5)
        refine Go.Un.one (i := 9) rfl (by kernel_rfl) (fun K hK => ?_)
        go_simp
        refine hK.out _ _ (fun _ => E1.s4) ?_
        clear hK
        clear K
        try simp only [Act.put, List.setIfInBounds_toArray, List.set_cons_zero, List.set_cons_succ]
        clear q0 q1 f0 f1
        generalize ((v4.setCell _ _).setCell _ _) = u1 at *
        have q0 := Y8.c0
        have q1 := Y8.c1
        have f0 := Y8.f0
        have f1 := Y8.f1
        have E2 := E1.store Y8 hg8 (.bool (decide (Rz < 0))) (.slice A6 n6 c6)
        have X7 := Two.far Y7 (show g7 ≠ g8 by omega) (.bool (decide (Rz < 0))) (.slice A6 n6 c6)
        have X8 := Y8.store (.bool (decide (Rz < 0))) (.slice A6 n6 c6)
        have xq := si_two yq Y8 (.bool (decide (Rz < 0))) (.slice A6 n6 c6)
        have xr := si_two yr Y8 (.bool (decide (Rz < 0))) (.slice A6 n6 c6)
        refine Go.Un.one (i := 10) rfl (by kernel_rfl) (fun K hK => ?_)
        go_simp
        refine hK.out _ _ (fun h => by exact absurd h (by decide)) ?_
        clear hK
        clear K
        try simp only [Act.put, List.setIfInBounds_toArray, List.set_cons_zero, List.set_cons_succ]
        refine Go.Un.done (by kernel_rfl) ?_ _
        clear q0 q1 f0 f1 Y7 Y8 yq yr E1
        generalize ((u1.setCell _ _).setCell _ _) = u2 at *
        have z0 := E2.j5.c0
        have z1 := E2.j5.c1
        have z2 := X7.c0
        have z3 := X7.c1
        go_wp2_with (go_at_call 14; first
          | ((with_reducible refine (Rw.is_calls (decide (Qz < 0)) A1 A5 n1 c1 n5 c5 Qz.natAbs u2 E2.r1 xq (by rw [← xq.len]; have := HQL.out; omega)).mono ?_); rintro e u3 ⟨rfl, m3⟩; have E3 := E2.below m3; have W8 := X8.below m3; have z4 := E3.j6.c0; have z5 := E3.j6.c1; have z6 := W8.c0; have z7 := W8.c1)
          | ((with_reducible refine (Rw.is_calls (decide (Rz < 0)) A2 A6 n2 c2 n6 c6 Rz.natAbs u3 E3.r2 (xr.below m3) (by rw [← xr.len]; have := HRL.out; omega)).mono ?_); rintro e u4 ⟨rfl, m4⟩))
        go_ret
        exact ⟨rfl, on E3.bl m4⟩
    · go_simp
      refine hK.out _ _ (fun _ => (D1.below (alloc_below _ _)).s4) ?_
      clear hK
      clear K
      try simp only [Act.put, List.setIfInBounds_toArray, List.set_cons_zero, List.set_cons_succ]
      have ab := alloc_below v1 (.cells #[.bool false, .slice none 0 0] 28)
      have T8 := Two.start v1 (.bool false) (.slice none 0 0) 28
      have hg8 := D1.lts
      have hne := T7.lt
      have D2 := D1.below ab
      have T7_2 := T7.below ab
      clear ab
      generalize v1.heap.size = g8 at *
      generalize v1.alloc (.cells #[.bool false, .slice none 0 0] 28) = v2 at *
      refine Go.Un.one (i := 1) rfl (by kernel_rfl) (fun K hK => ?_)
      go_simp
      go_at_call 12; (with_reducible refine (HIX.out v2 D2.bl).mono ?_); rintro e v3 ⟨A4, n4, c4, rfl, r4, _, bb⟩
      have D3 := D2.below bb
      have T7_3 := T7_2.below bb
      have T8_3 := T8.below bb
      refine hK.out _ _ (fun _ => D3.s4) ?_
      clear hK
      clear K
      clear bb
      try simp only [Act.put, List.setIfInBounds_toArray, List.set_cons_zero, List.set_cons_succ]
      refine Go.Un.one (i := 3) rfl (by kernel_rfl) (fun K hK => ?_)
      go_simp
      go_at_call 27; (with_reducible refine (HDR.out A4 n4 c4 A3 n3 c3 v3 r4 D3.r3).mono ?_); rintro e v4 ⟨A5, n5, c5, A6, n6, c6, rfl, rq, rr, bb⟩
      have D4 := D3.below bb
      have T7_4 := T7_3.below bb
      have T8_4 := T8_3.below bb
      have r4_4 := r4.below bb
      refine hK.out _ _ (fun _ => D4.s4) ?_
      clear hK
      clear K
      clear bb
      try simp only [Act.put, List.setIfInBounds_toArray, List.set_cons_zero, List.set_cons_succ]
      have hS4 := D4.s4
      refine Go.Un.take [10] (i := 4) (v := ?_) rfl (by kernel_rfl) (by kernel_rfl) (by kernel_rfl) (by kernel_rfl) (by kernel_rfl) (fun _ _ _ h => h) (Or.inl ⟨by rfl, ?_⟩) hS4 ?_
      rotate_left
      · intro w hSw
        obtain ⟨s1, s2, s3, s4⟩ := hSw
        go_simp
        try with_reducible rfl
      try simp only [Act.put, List.setIfInBounds_toArray, List.set_cons_zero, List.set_cons_succ]
      refine Go.Un.take [10] (i := 5) (v := ?_) rfl (by kernel_rfl) (by kernel_rfl) (by kernel_rfl) (by kernel_rfl) (by kernel_rfl) (fun _ _ _ h => h) (Or.inl ⟨by rfl, ?_⟩) hS4 ?_
      rotate_left
      · intro w hSw
        obtain ⟨s1, s2, s3, s4⟩ := hSw
        go_simp
        try with_reducible rfl
      try simp only [Act.put, List.setIfInBounds_toArray, List.set_cons_zero, List.set_cons_succ]
      refine Go.Un.take [10] (i := 6) (v := ?_) rfl (by kernel_rfl) (by kernel_rfl) (by kernel_rfl) (by kernel_rfl) (by kernel_rfl) (fun _ _ _ h => h) (Or.inl ⟨by rfl, ?_⟩) hS4 ?_
      rotate_left
      · intro w hSw
        obtain ⟨s1, s2, s3, s4⟩ := hSw
        go_simp
        try with_reducible rfl
      try simp only [Act.put, List.setIfInBounds_toArray, List.set_cons_zero, List.set_cons_succ]
      have q0 := T7_4.c0
      have q1 := T7_4.c1
      have f0 := T7_4.f0
      have f1 := T7_4.f1
      have E1 := D4.store T7_4 hg7 (.bool (decide (Qz < 0))) (.slice A5 n5 c5)
      have Y8 := Two.far T8_4 (show g8 ≠ g7 by omega) (.bool (decide (Qz < 0))) (.slice A5 n5 c5)
      have Y7 := T7_4.store (.bool (decide (Qz < 0))) (.slice A5 n5 c5)
      have yq := si_two rq T7_4 (.bool (decide (Qz < 0))) (.slice A5 n5 c5)
      have yr := si_two rr T7_4 (.bool (decide (Qz < 0))) (.slice A5 n5 c5)
      refine Go.Un.one (i := 9) rfl (by kernel_rfl) (fun K hK => ?_)
      go_simp
      refine hK.out _ _ (fun _ => E1.s4) ?_
      clear hK
      clear K
      try simp only [Act.put, List.setIfInBounds_toArray, List.set_cons_zero, List.set_cons_succ]
      clear q0 q1 f0 f1
      generalize ((v4.setCell _ _).setCell _ _) = u1 at *
      have q0 := Y8.c0
      have q1 := Y8.c1
      have f0 := Y8.f0
      have f1 := Y8.f1
      have E2 := E1.store Y8 hg8 (.bool (decide (Rz < 0))) (.slice A6 n6 c6)
      have X7 := Two.far Y7 (show g7 ≠ g8 by omega) (.bool (decide (Rz < 0))) (.slice A6 n6 c6)
      have X8 := Y8.store (.bool (decide (Rz < 0))) (.slice A6 n6 c6)
      have xq := si_two yq Y8 (.bool (decide (Rz < 0))) (.slice A6 n6 c6)
      have xr := si_two yr Y8 (.bool (decide (Rz < 0))) (.slice A6 n6 c6)
      refine Go.Un.one (i := 10) rfl (by kernel_rfl) (fun K hK => ?_)
      go_simp
      refine hK.out _ _ (fun h => by exact absurd h (by decide)) ?_
      clear hK
      clear K
      try simp only [Act.put, List.setIfInBounds_toArray, List.set_cons_zero, List.set_cons_succ]
      refine Go.Un.done (by kernel_rfl) ?_ _
      clear q0 q1 f0 f1 Y7 Y8 yq yr E1
      generalize ((u1.setCell _ _).setCell _ _) = u2 at *
      have z0 := E2.j5.c0
      have z1 := E2.j5.c1
      have z2 := X7.c0
      have z3 := X7.c1
      go_wp2_with (go_at_call 14; first
        | ((with_reducible refine (Rw.is_calls (decide (Qz < 0)) A1 A5 n1 c1 n5 c5 Qz.natAbs u2 E2.r1 xq (by rw [← xq.len]; have := HQL.out; omega)).mono ?_); rintro e u3 ⟨rfl, m3⟩; have E3 := E2.below m3; have W8 := X8.below m3; have z4 := E3.j6.c0; have z5 := E3.j6.c1; have z6 := W8.c0; have z7 := W8.c1)
        | ((with_reducible refine (Rw.is_calls (decide (Rz < 0)) A2 A6 n2 c2 n6 c6 Rz.natAbs u3 E3.r2 (xr.below m3) (by rw [← xr.len]; have := HRL.out; omega)).mono ?_); rintro e u4 ⟨rfl, m4⟩))
      go_ret
      exact ⟨rfl, on E3.bl m4⟩
  · go_simp
    refine hK.out _ _ (fun _ => (D0.below (alloc_below _ _)).s4) ?_
    clear hK
    clear K
    try simp only [Act.put, List.setIfInBounds_toArray, List.set_cons_zero, List.set_cons_succ]
    have ab := alloc_below v0 (.cells #[.bool false, .slice none 0 0] 28)
    have T8 := Two.start v0 (.bool false) (.slice none 0 0) 28
    have hg8 := D0.lts
    have D1 := D0.below ab
    clear ab
    generalize v0.heap.size = g8 at *
    generalize v0.alloc (.cells #[.bool false, .slice none 0 0] 28) = v1 at *
    refine Go.Un.two (i := 1) (j := 7) rfl rfl (by kernel_rfl) (fun K hK => ?_) (fun K hK => ?_)
    · go_simp
      go_at_call 12; (with_reducible refine (HIX.out v1 D1.bl).mono ?_); rintro e v2 ⟨A4, n4, c4, rfl, r4, _, bb⟩
      have D2 := D1.below bb
      have T8_2 := T8.below bb
      refine hK.out _ _ (fun _ => D2.s4) ?_
      clear hK
      clear K
      clear bb
      try simp only [Act.put, List.setIfInBounds_toArray, List.set_cons_zero, List.set_cons_succ]
      refine Go.Un.two (i := 3) (j := 7) rfl rfl (by kernel_rfl) (fun K hK => ?_) (fun K hK => ?_)
      · go_simp
        go_at_call 27; (with_reducible refine (HDR.out A4 n4 c4 A3 n3 c3 v2 r4 D2.r3).mono ?_); rintro e v3 ⟨A5, n5, c5, A6, n6, c6, rfl, rq, rr, bb⟩
        have D3 := D2.below bb
        have T8_3 := T8_2.below bb
        have r4_3 := r4.below bb
        refine hK.out _ _ (fun _ => D3.s4) ?_
        clear hK
        clear K
        clear bb
        try simp only [Act.put, List.setIfInBounds_toArray, List.set_cons_zero, List.set_cons_succ]
        have hS3 := D3.s4
        refine Go.Un.take [10] (i := 4) (v := ?_) rfl (by kernel_rfl) (by kernel_rfl) (by kernel_rfl) (by kernel_rfl) (by kernel_rfl) (fun _ _ _ h => h) (Or.inl ⟨by rfl, ?_⟩) hS3 ?_
        rotate_left
        · intro w hSw
          obtain ⟨s1, s2, s3, s4⟩ := hSw
          go_simp
          try with_reducible rfl
        try simp only [Act.put, List.setIfInBounds_toArray, List.set_cons_zero, List.set_cons_succ]
        refine Go.Un.take [10] (i := 5) (v := ?_) rfl (by kernel_rfl) (by kernel_rfl) (by kernel_rfl) (by kernel_rfl) (by kernel_rfl) (fun _ _ _ h => h) (Or.inl ⟨by rfl, ?_⟩) hS3 ?_
        rotate_left
        · intro w hSw
          obtain ⟨s1, s2, s3, s4⟩ := hSw
          go_simp
          try with_reducible rfl
        try simp only [Act.put, List.setIfInBounds_toArray, List.set_cons_zero, List.set_cons_succ]
        refine Go.Un.take [10] (i := 6) (v := ?_) rfl (by kernel_rfl) (by kernel_rfl) (by kernel_rfl) (by kernel_rfl) (by kernel_rfl) (fun _ _ _ h => h) (Or.inl ⟨by rfl, ?_⟩) hS3 ?_
        rotate_left
        · intro w hSw
          obtain ⟨s1, s2, s3, s4⟩ := hSw
          go_simp
          try with_reducible rfl
        try simp only [Act.put, List.setIfInBounds_toArray, List.set_cons_zero, List.set_cons_succ]
        refine Go.Un.one (i := 7) rfl (by kernel_rfl) (fun K hK => ?_)
        go_simp
        refine hK.out _ _ (fun _ => (D3.below (alloc_below _ _)).s4) ?_
        clear hK
        clear K
        try simp only [Act.put, List.setIfInBounds_toArray, List.set_cons_zero, List.set_cons_succ]
        have ab := alloc_below v3 (.cells #[.bool false, .slice none 0 0] 28)
        have T7 := Two.start v3 (.bool false) (.slice none 0 0) 28
        have hg7 := D3.lts
        have hne := T8_3.lt
        have D4 := D3.below ab
        have T8_4 := T8_3.below ab
        have r4_4 := r4_3.below ab
        have rq_4 := rq.below ab
        have rr_4 := rr.below ab
        clear ab
        generalize v3.heap.size = g7 at *
        generalize v3.alloc (.cells #[.bool false, .slice none 0 0] 28) = v4 at *
        have q0 := T7.c0
        have q1 := T7.c1
        have f0 := T7.f0
        have f1 := T7.f1
        have E1 := D4.store T7 hg7 (.bool (decide (Qz < 0))) (.slice A5 n5 c5)
        have Y8 := Two.far T8_4 (show g8 ≠ g7 by omega) (.bool (decide (Qz < 0))) (.slice A5 n5 c5)
        have Y7 := T7.store (.bool (decide (Qz < 0))) (.slice A5 n5 c5)
        have yq := si_two rq_4 T7 (.bool (decide (Qz < 0))) (.slice A5 n5 c5)
        have yr := si_two rr_4 T7 (.bool (decide (Qz < 0))) (.slice A5 n5 c5)
        refine Go.Un.one (i := 9) rfl (by kernel_rfl) (fun K hK => ?_)
        go_simp
        refine hK.out _ _ (fun _ => E1.s4) ?_
        clear hK
        clear K
        try simp only [Act.put, List.setIfInBounds_toArray, List.set_cons_zero, List.set_cons_succ]
        clear q0 q1 f0 f1
        generalize ((v4.setCell _ _).setCell _ _) = u1 at *
        have q0 := Y8.c0
        have q1 := Y8.c1
        have f0 := Y8.f0
        have f1 := Y8.f1
        have E2 := E1.store Y8 hg8 (.bool (decide (Rz < 0))) (.slice A6 n6 c6)
        have X7 := Two.far Y7 (show g7 ≠ g8 by omega) (.bool (decide (Rz < 0))) (.slice A6 n6 c6)
        have X8 := Y8.store (.bool (decide (Rz < 0))) (.slice A6 n6 c6)
        have xq := si_two yq Y8 (.bool (decide (Rz < 0))) (.slice A6 n6 c6)
        have xr := si_two yr Y8 (.bool (decide (Rz < 0))) (.slice A6 n6 c6)
        refine Go.Un.one (i := 10) rfl (by kernel_rfl) (fun K hK => ?_)
        go_simp
        refine hK.out _ _ (fun h => by exact absurd h (by decide)) ?_
        clear hK
        clear K
        try simp only [Act.put, List.setIfInBounds_toArray, List.set_cons_zero, List.set_cons_succ]
        refine Go.Un.done (by kernel_rfl) ?_ _
        clear q0 q1 f0 f1 Y7 Y8 yq yr E1
        generalize ((u1.setCell _ _).setCell _ _) = u2 at *
        have z0 := E2.j5.c0
        have z1 := E2.j5.c1
        have z2 := X7.c0
        have z3 := X7.c1
        go_wp2_with (go_at_call 14; first
          | ((with_reducible refine (Rw.is_calls (decide (Qz < 0)) A1 A5 n1 c1 n5 c5 Qz.natAbs u2 E2.r1 xq (by rw [← xq.len]; have := HQL.out; omega)).mono ?_); rintro e u3 ⟨rfl, m3⟩; have E3 := E2.below m3; have W8 := X8.below m3; have z4 := E3.j6.c0; have z5 := E3.j6.c1; have z6 := W8.c0; have z7 := W8.c1)
          | ((with_reducible refine (Rw.is_calls (decide (Rz < 0)) A2 A6 n2 c2 n6 c6 Rz.natAbs u3 E3.r2 (xr.below m3) (by rw [← xr.len]; have := HRL.out; omega)).mono ?_); rintro e u4 ⟨rfl, m4⟩))
        go_ret
        exact ⟨rfl, on E3.bl m4⟩
      · go_simp
        refine hK.out _ _ (fun _ => (D2.below (alloc_below _ _)).s4) ?_
        clear hK
        clear K
        try simp only [Act.put, List.setIfInBounds_toArray, List.set_cons_zero, List.set_cons_succ]
        have ab := alloc_below v2 (.cells #[.bool false, .slice none 0 0] 28)
        have T7 := Two.start v2 (.bool false) (.slice none 0 0) 28
        have hg7 := D2.lts
        have hne := T8_2.lt
        have D3 := D2.below ab
        have T8_3 := T8_2.below ab
        have r4_3 := r4.below ab
        clear ab
        generalize v2.heap.size = g7 at *
        generalize v2.alloc (.cells #[.bool false, .slice none 0 0] 28) = v3 at *
        refine Go.Un.one (i := 3) rfl (by kernel_rfl) (fun K hK => ?_)
        go_simp
        go_at_call 27; (with_reducible refine (HDR.out A4 n4 c4 A3 n3 c3 v3 r4_3 D3.r3).mono ?_); rintro e v4 ⟨A5, n5, c5, A6, n6, c6, rfl, rq, rr, bb⟩
        have D4 := D3.below bb
        have T7_4 := T7.below bb
        have T8_4 := T8_3.below bb
        have r4_4 := r4_3.below bb
        refine hK.out _ _ (fun _ => D4.s4) ?_
        clear hK
        clear K
        clear bb
        try simp only [Act.put, List.setIfInBounds_toArray, List.set_cons_zero, List.set_cons_succ]
        have hS4 := D4.s4
        refine Go.Un.take [10] (i := 4) (v := ?_) rfl (by kernel_rfl) (by kernel_rfl) (by kernel_rfl) (by kernel_rfl) (by kernel_rfl) (fun _ _ _ h => h) (Or.inl ⟨by rfl, ?_⟩) hS4 ?_
        rotate_left
        · intro w hSw
          obtain ⟨s1, s2, s3, s4⟩ := hSw
          go_simp
          try with_reducible rfl
        try simp only [Act.put, List.setIfInBounds_toArray, List.set_cons_zero, List.set_cons_succ]
        refine Go.Un.take [10] (i := 5) (v := ?_) rfl (by kernel_rfl) (by kernel_rfl) (by kernel_rfl) (by kernel_rfl) (by kernel_rfl) (fun _ _ _ h => h) (Or.inl ⟨by rfl, ?_⟩) hS4 ?_
        rotate_left
        · intro w hSw
          obtain ⟨s1, s2, s3, s4⟩ := hSw
          go_simp
          try with_reducible rfl
        try simp only [Act.put, List.setIfInBounds_toArray, List.set_cons_zero, List.set_cons_succ]
        refine Go.Un.take [10] (i := 6) (v := ?_) rfl (by kernel_rfl) (by kernel_rfl) (by kernel_rfl) (by kernel_rfl) (by kernel_rfl) (fun _ _ _ h => h) (Or.inl ⟨by rfl, ?_⟩) hS4 ?_
        rotate_left
        · intro w hSw
          obtain ⟨s1, s2, s3, s4⟩ := hSw
          go_simp
          try with_reducible rfl
        try simp only [Act.put, List.setIfInBounds_toArray, List.set_cons_zero, List.set_cons_succ]
        have q0 := T7_4.c0
        have q1 := T7_4.c1
        have f0 := T7_4.f0
        have f1 := T7_4.f1
        have E1 := D4.store T7_4 hg7 (.bool (decide (Qz < 0))) (.slice A5 n5 c5)
        have Y8 := Two.far T8_4 (show g8 ≠ g7 by omega) (.bool (decide (Qz < 0))) (.slice A5 n5 c5)
        have Y7 := T7_4.store (.bool (decide (Qz < 0))) (.slice A5 n5 c5)
        have yq := si_two rq T7_4 (.bool (decide (Qz < 0))) (.slice A5 n5 c5)
        have yr := si_two rr T7_4 (.bool (decide (Qz < 0))) (.slice A5 n5 c5)
        refine Go.Un.one (i := 9) rfl (by kernel_rfl) (fun K hK => ?_)
        go_simp
        refine hK.out _ _ (fun _ => E1.s4) ?_
        clear hK
        clear K
        try simp only [Act.put, List.setIfInBounds_toArray, List.set_cons_zero, List.set_cons_succ]
        clear q0 q1 f0 f1
        generalize ((v4.setCell _ _).setCell _ _) = u1 at *
        have q0 := Y8.c0
        have q1 := Y8.c1
        have f0 := Y8.f0
        have f1 := Y8.f1
        have E2 := E1.store Y8 hg8 (.bool (decide (Rz < 0))) (.slice A6 n6 c6)
        have X7 := Two.far Y7 (show g7 ≠ g8 by omega) (.bool (decide (Rz < 0))) (.slice A6 n6 c6)
        have X8 := Y8.store (.bool (decide (Rz < 0))) (.slice A6 n6 c6)
        have xq := si_two yq Y8 (.bool (decide (Rz < 0))) (.slice A6 n6 c6)
        have xr := si_two yr Y8 (.bool (decide (Rz < 0))) (.slice A6 n6 c6)
        refine Go.Un.one (i := 10) rfl (by kernel_rfl) (fun K hK => ?_)
        go_simp
        refine hK.out _ _ (fun h => by exact absurd h (by decide)) ?_
        clear hK
        clear K
        try simp only [Act.put, List.setIfInBounds_toArray, List.set_cons_zero, List.set_cons_succ]
        refine Go.Un.done (by kernel_rfl) ?_ _
        clear q0 q1 f0 f1 Y7 Y8 yq yr E1
        generalize ((u1.setCell _ _).setCell _ _) = u2 at *
        have z0 := E2.j5.c0
        have z1 := E2.j5.c1
        have z2 := X7.c0
        have z3 := X7.c1
        go_wp2_with (go_at_call 14; first
          | ((with_reducible refine (Rw.is_calls (decide (Qz < 0)) A1 A5 n1 c1 n5 c5 Qz.natAbs u2 E2.r1 xq (by rw [← xq.len]; have := HQL.out; omega)).mono ?_); rintro e u3 ⟨rfl, m3⟩; have E3 := E2.below m3; have W8 := X8.below m3; have z4 := E3.j6.c0; have z5 := E3.j6.c1; have z6 := W8.c0; have z7 := W8.c1)
          | ((with_reducible refine (Rw.is_calls (decide (Rz < 0)) A2 A6 n2 c2 n6 c6 Rz.natAbs u3 E3.r2 (xr.below m3) (by rw [← xr.len]; have := HRL.out; omega)).mono ?_); rintro e u4 ⟨rfl, m4⟩))
        go_ret
        exact ⟨rfl, on E3.bl m4⟩
    · go_simp
      refine hK.out _ _ (fun _ => (D1.below (alloc_below _ _)).s4) ?_
      clear hK
      clear K
      try simp only [Act.put, List.setIfInBounds_toArray, List.set_cons_zero, List.set_cons_succ]
      have ab := alloc_below v1 (.cells #[.bool false, .slice none 0 0] 28)
      have T7 := Two.start v1 (.bool false) (.slice none 0 0) 28
      have hg7 := D1.lts
      have hne := T8.lt
      have D2 := D1.below ab
      have T8_2 := T8.below ab
      clear ab
      generalize v1.heap.size = g7 at *
      generalize v1.alloc (.cells #[.bool false, .slice none 0 0] 28) = v2 at *
      refine Go.Un.one (i := 1) rfl (by kernel_rfl) (fun K hK => ?_)
      go_simp
      go_at_call 12; (with_reducible refine (HIX.out v2 D2.bl).mono ?_); rintro e v3 ⟨A4, n4, c4, rfl, r4, _, bb⟩
      have D3 := D2.below bb
      have T7_3 := T7.below bb
      have T8_3 := T8_2.below bb
      refine hK.out _ _ (fun _ => D3.s4) ?_
      clear hK
      clear K
      clear bb
      try simp only [Act.put, List.setIfInBounds_toArray, List.set_cons_zero, List.set_cons_succ]
      refine Go.Un.one (i := 3) rfl (by kernel_rfl) (fun K hK => ?_)
      go_simp
      go_at_call 27; (with_reducible refine (HDR.out A4 n4 c4 A3 n3 c3 v3 r4 D3.r3).mono ?_); rintro e v4 ⟨A5, n5, c5, A6, n6, c6, rfl, rq, rr, bb⟩
      have D4 := D3.below bb
      have T7_4 := T7_3.below bb
      have T8_4 := T8_3.below bb
      have r4_4 := r4.below bb
      refine hK.out _ _ (fun _ => D4.s4) ?_
      clear hK
      clear K
      clear bb
      try simp only [Act.put, List.setIfInBounds_toArray, List.set_cons_zero, List.set_cons_succ]
      have hS4 := D4.s4
      refine Go.Un.take [10] (i := 4) (v := ?_) rfl (by kernel_rfl) (by kernel_rfl) (by kernel_rfl) (by kernel_rfl) (by kernel_rfl) (fun _ _ _ h => h) (Or.inl ⟨by rfl, ?_⟩) hS4 ?_
      rotate_left
      · intro w hSw
        obtain ⟨s1, s2, s3, s4⟩ := hSw
        go_simp
        try with_reducible rfl
      try simp only [Act.put, List.setIfInBounds_toArray, List.set_cons_zero, List.set_cons_succ]
      refine Go.Un.take [10] (i := 5) (v := ?_) rfl (by kernel_rfl) (by kernel_rfl) (by kernel_rfl) (by kernel_rfl) (by kernel_rfl) (fun _ _ _ h => h) (Or.inl ⟨by rfl, ?_⟩) hS4 ?_
      rotate_left
      · intro w hSw
        obtain ⟨s1, s2, s3, s4⟩ := hSw
        go_simp
        try with_reducible rfl
      try simp only [Act.put, List.setIfInBounds_toArray, List.set_cons_zero, List.set_cons_succ]
      refine Go.Un.take [10] (i := 6) (v := ?_) rfl (by kernel_rfl) (by kernel_rfl) (by kernel_rfl) (by kernel_rfl) (by kernel_rfl) (fun _ _ _ h => h) (Or.inl ⟨by rfl, ?_⟩) hS4 ?_
      rotate_left
      · intro w hSw
        obtain ⟨s1, s2, s3, s4⟩ := hSw
        go_simp
        try with_reducible rfl
      try simp only [Act.put, List.setIfInBounds_toArray, List.set_cons_zero, List.set_cons_succ]
      have q0 := T7_4.c0
      have q1 := T7_4.c1
      have f0 := T7_4.f0
      have f1 := T7_4.f1
      have E1 := D4.store T7_4 hg7 (.bool (decide (Qz < 0))) (.slice A5 n5 c5)
      have Y8 := Two.far T8_4 (show g8 ≠ g7 by omega) (.bool (decide (Qz < 0))) (.slice A5 n5 c5)
      have Y7 := T7_4.store (.bool (decide (Qz < 0))) (.slice A5 n5 c5)
      have yq := si_two rq T7_4 (.bool (decide (Qz < 0))) (.slice A5 n5 c5)
      have yr := si_two rr T7_4 (.bool (decide (Qz < 0))) (.slice A5 n5 c5)
      refine Go.Un.one (i := 9) rfl (by kernel_rfl) (fun K hK => ?_)
      go_simp
      refine hK.out _ _ (fun _ => E1.s4) ?_
      clear hK
      clear K
      try simp only [Act.put, List.setIfInBounds_toArray, List.set_cons_zero, List.set_cons_succ]
      clear q0 q1 f0 f1
      generalize ((v4.setCell _ _).setCell _ _) = u1 at *
      have q0 := Y8.c0
      have q1 := Y8.c1
      have f0 := Y8.f0
      have f1 := Y8.f1
      have E2 := E1.store Y8 hg8 (.bool (decide (Rz < 0))) (.slice A6 n6 c6)
      have X7 := Two.far Y7 (show g7 ≠ g8 by omega) (.bool (decide (Rz < 0))) (.slice A6 n6 c6)
      have X8 := Y8.store (.bool (decide (Rz < 0))) (.slice A6 n6 c6)
      have xq := si_two yq Y8 (.bool (decide (Rz < 0))) (.slice A6 n6 c6)
      have xr := si_two yr Y8 (.bool (decide (Rz < 0))) (.slice A6 n6 c6)
      refine Go.Un.one (i := 10) rfl (by kernel_rfl) (fun K hK => ?_)
      go_simp
      refine hK.out _ _ (fun h => by exact absurd h (by decide)) ?_
      clear hK
      clear K
      try simp only [Act.put, List.setIfInBounds_toArray, List.set_cons_zero, List.set_cons_succ]
      refine Go.Un.done (by kernel_rfl) ?_ _
      clear q0 q1 f0 f1 Y7 Y8 yq yr E1
      generalize ((u1.setCell _ _).setCell _ _) = u2 at *
      have z0 := E2.j5.c0
      have z1 := E2.j5.c1
      have z2 := X7.c0
      have z3 := X7.c1
      go_wp2_with (go_at_call 14; first
        | ((with_reducible refine (Rw.is_calls (decide (Qz < 0)) A1 A5 n1 c1 n5 c5 Qz.natAbs u2 E2.r1 xq (by rw [← xq.len]; have := HQL.out; omega)).mono ?_); rintro e u3 ⟨rfl, m3⟩; have E3 := E2.below m3; have W8 := X8.below m3; have z4 := E3.j6.c0; have z5 := E3.j6.c1; have z6 := W8.c0; have z7 := W8.c1)
        | ((with_reducible refine (Rw.is_calls (decide (Rz < 0)) A2 A6 n2 c2 n6 c6 Rz.natAbs u3 E3.r2 (xr.below m3) (by rw [← xr.len]; have := HRL.out; omega)).mono ?_); rintro e u4 ⟨rfl, m4⟩))
      go_ret
      exact ⟨rfl, on E3.bl m4⟩
end Go.Proofs.YtkaajgcjdgjcbaaGreatDoor.Aw

/- Layer 2's laws: WholeDivides whole. -/
namespace Go.Proofs.YtkaajgcjdgjcbaaGreatDoor.Aw
open Go.RowKit Go.Proofs.YtkaajgcjdgjcbaaGreatDoor.Dig Go.Proofs.YtkaajgcjdgjcbaaGreatDoor.W Go.Proofs.YtkaajgcjdgjcbaaGreatDoor.Nat Go.Proofs.YtkaajgcjdgjcbaaGreatDoor.Wh Go.Proofs.YtkaajgcjdgjcbaaGreatDoor.Td Go.Proofs.YtkaajgcjdgjcbaaGreatDoor.Bu Go.Proofs.YtkaajgcjdgjcbaaGreatDoor.Tx
open Go.Proofs.YtkaajgcjdgjcbaaGreatDoor.Rf (V V_two V_pos)

set_option maxHeartbeats 8000000 in
set_option maxRecDepth 100000 in
theorem divides_zero (ng ng' : Bool) (A A' : Option Addr) (n c n' c' : Nat) (l l' : List Nat) (w : World) (h : SI w .u64 A n c l) (h' : SI w .u64 A' n' c' l') (hl' : Lt U l') (hn' : n' ≤ 1048576) (hp : Pow w) (h0 : val U l' = 0) :
    Calls Tryz.prog 4 #[.agg #[.bool ng, .slice A n c], .agg #[.bool ng', .slice A' n' c']] w fun e w' => e = .returned (.bool true) ∧ Below w.heap.size w w' := by
  have HP := Lib.hid hp
  have hb0 := box_two w (.bool ng) (.slice A n c) (.bool ng') (.slice A' n' c')
  obtain ⟨W, hW⟩ : ∃ W, W = ((w.alloc (.cells #[.bool ng, .slice A n c] 24)).alloc (.cells #[.bool ng', .slice A' n' c'] 24)) := ⟨_, rfl⟩
  obtain ⟨t1, t2⟩ := Rw.two12 w (.bool ng) (.slice A n c) (.bool ng') (.slice A' n' c') 24 24
  rw [← hW] at hb0 t1 t2
  have HD := Lib.hid (wdivmod_zero ng ng' A A' n c n' c' l l' W (h.below hb0) (h'.below hb0) hl' h0)
  have HW := Lib.hid hW
  have HB0 := Lib.hid hb0
  have hiy := fun (w1 : World) (b : Below w.heap.size w w1) => Rw.lin_calls ng' A' n' c' l' w1 (h'.below b) hl' (by omega)
  have hz : sg ng' (val U l') = 0 := by rw [h0]; cases ng' <;> rfl
  rw [hz] at hiy
  have HIY := Lib.hid hiy
  have HT2 := Lib.hid t2
  have hdz : digs V (0 : Int).natAbs = [] := digs_zero V
  have HDZ := Lib.hid hdz
  clear hW hb0 h h' hl' hp t1 t2 hz hiy hdz h0
  go_enter Tryz.func4, Tryz.ntmps4
  go_wp2_with (first
    | (go_at_call 25; rw [← HW.out]; (with_reducible refine HD.out.mono ?_); rintro e w1 ⟨rfl, b1⟩; have B12 := box_two w1 (.bool false) (.slice none 0 0) (.bool false) (.slice none 0 0); have J := Rw.two12 w1 (.bool false) (.slice none 0 0) (.bool false) (.slice none 0 0) 24 24; have k2 := (HT2.out.below b1).below B12; have bw := on (HB0.out.trans (b1.mono HB0.out.size)) B12; have p2 := k2.c0; have p3 := k2.c1)
    | (go_at_call 12; (with_reducible refine (HIY.out _ bw).mono ?_); rintro e w2 ⟨A3, n3, c3, rfl, r3, _, b2⟩; obtain rfl : n3 = 0 := (by rw [← r3.len, HDZ.out]; rfl); have B3 := alloc_below w2 (.cells #[.bool false, .slice A3 0 c3] 28); have T8 := Two.start w2 (.bool false) (.slice A3 0 c3) 28; have J5 := (J.1.below b2).below B3; have J6 := (J.2.below b2).below B3; have bw2 := on (on bw b2) B3; clear p2 p3 k2 J)
    | (go_at_call 13; (with_reducible refine (awake_calls _ (HP.out.below bw2)).mono ?_); rintro e w3 ⟨rfl, b3⟩; have bw3 := on bw2 b3; have U8 := T8.below b3; have p0 := U8.c0; have p1 := U8.c1; have L5 := J5.below b3; have L6 := J6.below b3; have p2 := L5.c0; have p3 := L5.c1)
    | (go_at_call 26; first
      | ((with_reducible refine (Rw.same_calls false none none 0 0 0 0 [] w3 (SI.nil _ _ _ _ (by omega)) (SI.nil _ _ _ _ (by omega))).mono ?_); rintro e w4 ⟨rfl, b4⟩; have M6 := L6.below b4; have p4 := M6.c0; have p5 := M6.c1)
      | ((with_reducible refine (Rw.same_calls false none none 0 0 0 0 [] w4 (SI.nil _ _ _ _ (by omega)) (SI.nil _ _ _ _ (by omega))).mono ?_); rintro e w5 ⟨rfl, b5⟩)))
  go_ret
  exact ⟨rfl, on (on bw3 b4) b5⟩
theorem wholeDivides_calls (ng ng' : Bool) (A A' : Option Addr) (n c n' c' : Nat) (l l' : List Nat) (w : World) (h : SI w .u64 A n c l) (h' : SI w .u64 A' n' c' l') (hl : Lt U l) (hl' : Lt U l') (hn : n ≤ 1048576) (hn' : n' ≤ 1048576) (hp : Pow w) :
    Calls Tryz.prog 4 #[.agg #[.bool ng, .slice A n c], .agg #[.bool ng', .slice A' n' c']] w fun e w' => e = .returned (.bool true) ∧ Below w.heap.size w w' := by
  by_cases h0 : val U l' = 0
  · exact divides_zero ng ng' A A' n c n' c' l l' w h h' hl' hn' hp h0
  · exact divides_main ng ng' A A' n c n' c' l l' w h h' hl hl' hn hn' hp h0
end Go.Proofs.YtkaajgcjdgjcbaaGreatDoor.Aw
