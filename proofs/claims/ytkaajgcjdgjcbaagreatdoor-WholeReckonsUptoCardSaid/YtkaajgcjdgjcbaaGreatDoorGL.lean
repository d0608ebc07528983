/- Texts of one layer, joined: La, Qf, Qg, Qh, Qi, Uo, Qj, Li. -/
import Derived.Test.YtkaajgcjdgjcbaaGreatDoorGF
import Derived.Test.YtkaajgcjdgjcbaaGreatDoorGE
import Derived.Test.YtkaajgcjdgjcbaaGreatDoorGD
set_option linter.unusedVariables false
set_option linter.unusedSimpArgs false
set_option linter.unusedSectionVars false
/- Layer 2's laws: WholePowers. -/
namespace Go.Proofs.YtkaajgcjdgjcbaaGreatDoor.Aw
open Go.RowKit Go.Proofs.YtkaajgcjdgjcbaaGreatDoor.Dig Go.Proofs.YtkaajgcjdgjcbaaGreatDoor.W Go.Proofs.YtkaajgcjdgjcbaaGreatDoor.Nat Go.Proofs.YtkaajgcjdgjcbaaGreatDoor.Wh Go.Proofs.YtkaajgcjdgjcbaaGreatDoor.Td Go.Proofs.YtkaajgcjdgjcbaaGreatDoor.Bu Go.Proofs.YtkaajgcjdgjcbaaGreatDoor.Tx
open Go.Proofs.YtkaajgcjdgjcbaaGreatDoor.Rf (V V_two V_pos)

theorem on {w W W' : World} (h : Below w.heap.size w W) (b : Below W.heap.size W W') : Below w.heap.size w W' := h.trans (b.mono h.size)
theorem rpow5 (n : Nat) (w : World) (hn : n ≤ 8192) : Calls Tryz.prog 30 #[.int .i64 5, .int .i64 (n : Nat)] w (Gives w .u32 (digs V (5 ^ n))) := rpow_calls 5 n w (by omega) (by omega) (by omega)
theorem rshl_d (A : Option Addr) (n c m k : Nat) (w : World) (h : SI w .u32 A n c (digs V m)) (hn : n ≤ 4398046511104) (hk : k ≤ 65536) :
    Calls Tryz.prog 33 #[.slice A n c, .int .i64 (k : Nat)] w (Rf.GivesF w .u32 (digs V (m * 2 ^ k))) := by
  have e := Rf.shl_calls A n c (digs V m) k w h (digs_lt V_two m) hn hk
  rw [val_digs V_two] at e
  exact e
theorem rpow_len' {a n x M : Nat} (ha : a ≤ 10) (hx : x ≤ a ^ n) (hn : n ≤ M) (hM : M ≠ 0) : (digs V x).length ≤ M := by
  refine (digs_length_le V_two _ _).2 (Nat.lt_of_le_of_lt hx ?_)
  have h1 : a ^ n ≤ 10 ^ n := Nat.pow_le_pow_left ha n
  have h2 : 10 ^ n ≤ 10 ^ M := Nat.pow_le_pow_right (by omega) hn
  have h3 : 10 ^ M < V ^ M := Nat.pow_lt_pow_left (by decide) hM
  exact Nat.lt_of_le_of_lt (Nat.le_trans h1 h2) h3
theorem rpow_len {a n x : Nat} (ha : a ≤ 10) (hx : x ≤ a ^ n) (hn : n ≤ 8192) : (digs V x).length ≤ 8192 := rpow_len' ha hx hn (by decide)
theorem five_ten (k : Nat) : 5 ^ k * 2 ^ k = 10 ^ k := by rw [← Nat.mul_pow]
set_option maxHeartbeats 4000000 in
set_option maxRecDepth 100000 in
theorem wholePowers_calls (z : Int) (w : World) (hp : Pow w) :
    Calls Tryz.prog 5 #[.int .i64 z] w fun e w' => e = .returned (.bool true) ∧ Below w.heap.size w w' := by
  have HP := Lib.hid hp
  clear hp
  by_cases hin : 0 ≤ z ∧ z ≤ 8192
  · obtain ⟨k, rfl⟩ : ∃ k : Nat, z = k := ⟨z.toNat, by omega⟩
    have hk : k ≤ 8192 := by omega
    clear hin
    have hL1 := rpow_len (a := 5) (by omega) (Nat.le_refl _) hk
    have hL2 := rpow_len (a := 10) (by omega) (Nat.le_refl _) hk
    have HL1 := Lib.hid hL1
    have HL2 := Lib.hid hL2
    have h5 := five_ten k
    have H5 := Lib.hid h5
    have HA := Lib.hid (fun w1 => pow5_calls k w1 hk)
    have HB := Lib.hid (fun w1 => Wh.pow10_calls k w1 hk)
    have HC := Lib.hid (fun w1 => rpow5 k w1 hk)
    have HD := Lib.hid (fun (A : Option Addr) (n c : Nat) (w1 : World) (h : SI w1 .u32 A n c (digs V (5 ^ k))) => rshl_d A n c (5 ^ k) k w1 h (by rw [← h.len]; omega) (by omega))
    rw [h5] at HD
    clear hL1 hL2 h5
    generalize 5 ^ k = p at *
    generalize 10 ^ k = t at *
    go_enter Tryz.func5, Tryz.ntmps5
    go_wp2_with (first
      | (go_at_call 28; (with_reducible refine (HA.out w).mono ?_); rintro e w1 ⟨A1, n1, c1, rfl, r1, b1⟩)
      | (go_at_call 29; (with_reducible refine (HB.out w1).mono ?_); rintro e w2 ⟨A2, n2, c2, rfl, r2, b2⟩)
      | (go_at_call 13; (with_reducible refine (awake_calls w2 ((HP.out.below b1).below b2)).mono ?_); rintro e w3 ⟨rfl, b3⟩)
      | (go_at_call 30; (with_reducible refine (HC.out w3).mono ?_); rintro e w4 ⟨A4, n4, c4, rfl, r4, b4⟩)
      | (go_at_call 32; first
        | ((with_reducible refine (Rw.out_d A4 n4 c4 p w4 r4 (by rw [← r4.len]; have := HL1.out; omega)).mono ?_); rintro e w5 ⟨v5, rfl, o5, b5⟩; obtain ⟨A5, n5, c5, rfl, r5⟩ := o5.reads_n)
        | ((with_reducible refine (Rw.out_d A7 n7 c7 t w7 r7 (by rw [← r7.len]; have := HL2.out; omega)).mono ?_); rintro e w8 ⟨v8, rfl, o8, b8⟩; obtain ⟨A8, n8, c8, rfl, r8⟩ := o8.reads_n))
      | (go_at_call 31; first
        | ((with_reducible refine (Rf.same_calls A1 A5 n1 c1 n5 c5 _ w5 ((((r1.below b2).below b3).below b4).below b5) r5).mono ?_); rintro e w6 ⟨rfl, d6⟩)
        | ((with_reducible refine (Rf.same_calls A2 A8 n2 c2 n8 c8 _ w8 ((((((r2.below b3).below b4).below b5).below d6.below).below b7).below b8) r8).mono ?_); rintro e w9 ⟨rfl, d9⟩))
      | (go_at_call 33; (with_reducible refine (HD.out A4 n4 c4 w6 ((r4.below b5).below d6.below)).mono ?_); rintro e w7 ⟨A7, n7, c7, rfl, r7, f7, b7⟩))
    go_ret
    exact ⟨rfl, on (on (on (on (on (on (on (on b1 b2) b3) b4) b5) d6.below) b7) b8) d9.below⟩
  · have hin' : z < 0 ∨ 8192 < z := by omega
    have HA := Lib.hid (fun w1 => pow5_err z w1 hin')
    have HB := Lib.hid (fun w1 => pow10_err z w1 hin')
    rcases Int.lt_or_le z 0 with h0 | h0
    · have hd1 : decide (z < 0) = true := decide_eq_true h0
      clear hin hin' h0
      go_enter Tryz.func5, Tryz.ntmps5
      go_wp2_with (first
        | (go_at_call 28; (with_reducible refine (HA.out w).mono ?_); rintro e w1 ⟨rfl, rfl⟩)
        | (go_at_call 29; (with_reducible refine (HB.out w).mono ?_); rintro e w2 ⟨rfl, rfl⟩)
        | (go_at_call 13; (with_reducible refine (awake_calls w HP.out).mono ?_); rintro e w3 ⟨rfl, b3⟩))
      go_ret
      exact ⟨rfl, b3⟩
    · have hd1 : decide (z < 0) = false := decide_eq_false (by omega)
      have hd2 : decide (8192 < z) = true := decide_eq_true (by omega)
      clear hin hin' h0
      go_enter Tryz.func5, Tryz.ntmps5
      go_wp2_with (first
        | (go_at_call 28; (with_reducible refine (HA.out w).mono ?_); rintro e w1 ⟨rfl, rfl⟩)
        | (go_at_call 29; (with_reducible refine (HB.out w).mono ?_); rintro e w2 ⟨rfl, rfl⟩)
        | (go_at_call 13; (with_reducible refine (awake_calls w HP.out).mono ?_); rintro e w3 ⟨rfl, b3⟩))
      go_ret
      exact ⟨rfl, b3⟩
end Go.Proofs.YtkaajgcjdgjcbaaGreatDoor.Aw

/- The document's answer of layer 2, on: Add of like signs. -/
namespace Go.Proofs.YtkaajgcjdgjcbaaGreatDoor.Rw
open Go.RowKit Go.Proofs.YtkaajgcjdgjcbaaGreatDoor.Dig Go.Proofs.YtkaajgcjdgjcbaaGreatDoor.W Go.Proofs.YtkaajgcjdgjcbaaGreatDoor.Nat Go.Proofs.YtkaajgcjdgjcbaaGreatDoor.Wh
open Go.Proofs.YtkaajgcjdgjcbaaGreatDoor.Rf (V V_two V_pos)

theorem len_addR {l l' : List Nat} {n n' M : Nat} (hl : Lt V l) (hl' : Lt V l') (h : l.length = n) (h' : l'.length = n') (hn : n ≤ M) (hn' : n' ≤ M) : (digs V (val V l + val V l')).length ≤ M + 1 := by
  have h1 := val_lt V_pos hl
  have h2 := val_lt V_pos hl'
  have p1 : V ^ l.length ≤ V ^ M := Nat.pow_le_pow_right V_pos (by omega)
  have p2 : V ^ l'.length ≤ V ^ M := Nat.pow_le_pow_right V_pos (by omega)
  have p3 : V ^ M * 2 ≤ V ^ (M + 1) := by rw [Nat.pow_succ]; exact Nat.mul_le_mul_left _ V_two
  exact (digs_length_le V_two _ _).2 (by omega)
set_option maxHeartbeats 4000000 in
set_option maxRecDepth 100000 in
theorem radd_f (A A' : Option Addr) (n c n' c' : Nat) (l l' : List Nat) (w : World) (h : SI w .u32 A n c l) (h' : SI w .u32 A' n' c' l') (hl : Lt V l) (hl' : Lt V l') (hn : n ≤ 1099511627776) (hn' : n' ≤ 1099511627776) :
    Calls Tryz.prog 19 #[.agg #[.bool false, .slice A n c], .agg #[.bool false, .slice A' n' c']] w (GivesR w (sg false (val V l + val V l'))) := by
  have hB := BoxR.start w (.bool false) (.slice A n c) (.bool false) (.slice A' n' c')
  obtain ⟨W, hW⟩ : ∃ W, W = WR3 w (.bool false) (.slice A n c) (.bool false) (.slice A' n' c') := ⟨_, rfl⟩
  rw [← hW] at hB
  have HW := Lib.hid hW
  unfold WR3 at HW
  have hB2 := hB.below (Below.refl W.heap.size W).drew
  have kp := hB2.rd
  have hA := Rf.add_calls A A' n c n' c' l l' W.drew (h.below hB2.bl) (h'.below hB2.bl) hl hl' (by omega) (by omega)
  have hlen := len_addR hl hl' h.len h'.len hn hn'
  generalize val V l + val V l' = m at *
  have HA := Lib.hid hA
  have HL := Lib.hid hlen
  clear hA hlen hW h h' hB
  unfold Rd4 at kp
  go_enter Tryz.func19, Tryz.ntmps19
  go_wp2
  rw [← HW.out]
  clear HW
  go_region_held3 (fun w' => w'.cell? ⟨w.heap.size, 0, none⟩ = some (.bool false) ∧ w'.cell? ⟨w.heap.size, 1, none⟩ = some (.slice A n c) ∧ w'.cell? ⟨w.heap.size + 1, 0, none⟩ = some (.bool false) ∧ w'.cell? ⟨w.heap.size + 1, 1, none⟩ = some (.slice A' n' c'))
    (first
      | exact kp
      | exact k1
      | exact k2
      | exact k2.far _ _)
    (first
      | (go_at_call 49; (with_reducible refine HA.out.mono ?_); rintro e w1 ⟨A1, n1, c1, rfl, r1, u1, b1⟩; have x1 := hB2.below b1; have k1 := x1.rd)
      | (go_at_call 46; (with_reducible refine (rmake_d false A1 n1 c1 m w1 r1 (by have := r1.len; have := HL.out; omega)).mono ?_); rintro e w2 ⟨A2, n2, c2, rfl, r2, f2, b2⟩; have x2 := x1.below b2; have k2 := x2.rd; have q0 := x2.r.c0; have q1 := x2.r.c1; have g0 := x2.r.f0; have g1 := x2.r.f1))
  go_wp2
  obtain ⟨p1, p2, p3⟩ := put_resR (a := .bool (decide (sg false m < 0))) (b := .slice A2 n2 c2) x1.bl x1.r (by omega) r2 f2 b2
  exact bodyPost_ret (two_resultsR rfl _ (x2.r.store _ _) rfl) rfl ⟨A2, n2, c2, rfl, p1, p2, p3⟩
set_option maxHeartbeats 4000000 in
set_option maxRecDepth 100000 in
theorem radd_t (A A' : Option Addr) (n c n' c' : Nat) (l l' : List Nat) (w : World) (h : SI w .u32 A n c l) (h' : SI w .u32 A' n' c' l') (hl : Lt V l) (hl' : Lt V l') (hn : n ≤ 1099511627776) (hn' : n' ≤ 1099511627776) :
    Calls Tryz.prog 19 #[.agg #[.bool true, .slice A n c], .agg #[.bool true, .slice A' n' c']] w (GivesR w (sg true (val V l + val V l'))) := by
  have hB := BoxR.start w (.bool true) (.slice A n c) (.bool true) (.slice A' n' c')
  obtain ⟨W, hW⟩ : ∃ W, W = WR3 w (.bool true) (.slice A n c) (.bool true) (.slice A' n' c') := ⟨_, rfl⟩
  rw [← hW] at hB
  have HW := Lib.hid hW
  unfold WR3 at HW
  have hB2 := hB.below (Below.refl W.heap.size W).drew
  have kp := hB2.rd
  have hA := Rf.add_calls A A' n c n' c' l l' W.drew (h.below hB2.bl) (h'.below hB2.bl) hl hl' (by omega) (by omega)
  have hlen := len_addR hl hl' h.len h'.len hn hn'
  generalize val V l + val V l' = m at *
  have HA := Lib.hid hA
  have HL := Lib.hid hlen
  clear hA hlen hW h h' hB
  unfold Rd4 at kp
  go_enter Tryz.func19, Tryz.ntmps19
  go_wp2
  rw [← HW.out]
  clear HW
  go_region_held3 (fun w' => w'.cell? ⟨w.heap.size, 0, none⟩ = some (.bool true) ∧ w'.cell? ⟨w.heap.size, 1, none⟩ = some (.slice A n c) ∧ w'.cell? ⟨w.heap.size + 1, 0, none⟩ = some (.bool true) ∧ w'.cell? ⟨w.heap.size + 1, 1, none⟩ = some (.slice A' n' c'))
    (first
      | exact kp
      | exact k1
      | exact k2
      | exact k2.far _ _)
    (first
      | (go_at_call 49; (with_reducible refine HA.out.mono ?_); rintro e w1 ⟨A1, n1, c1, rfl, r1, u1, b1⟩; have x1 := hB2.below b1; have k1 := x1.rd)
      | (go_at_call 46; (with_reducible refine (rmake_d true A1 n1 c1 m w1 r1 (by have := r1.len; have := HL.out; omega)).mono ?_); rintro e w2 ⟨A2, n2, c2, rfl, r2, f2, b2⟩; have x2 := x1.below b2; have k2 := x2.rd; have q0 := x2.r.c0; have q1 := x2.r.c1; have g0 := x2.r.f0; have g1 := x2.r.f1))
  go_wp2
  obtain ⟨p1, p2, p3⟩ := put_resR (a := .bool (decide (sg true m < 0))) (b := .slice A2 n2 c2) x1.bl x1.r (by omega) r2 f2 b2
  exact bodyPost_ret (two_resultsR rfl _ (x2.r.store _ _) rfl) rfl ⟨A2, n2, c2, rfl, p1, p2, p3⟩
end Go.Proofs.YtkaajgcjdgjcbaaGreatDoor.Rw

/- The document's answer of layer 2, on: Add of any signs. -/
namespace Go.Proofs.YtkaajgcjdgjcbaaGreatDoor.Rw
open Go.RowKit Go.Proofs.YtkaajgcjdgjcbaaGreatDoor.Dig Go.Proofs.YtkaajgcjdgjcbaaGreatDoor.W Go.Proofs.YtkaajgcjdgjcbaaGreatDoor.Nat Go.Proofs.YtkaajgcjdgjcbaaGreatDoor.Wh
open Go.Proofs.YtkaajgcjdgjcbaaGreatDoor.Rf (V V_two V_pos)

set_option maxHeartbeats 4000000 in
set_option maxRecDepth 100000 in
theorem radd_ft_ge (A A' : Option Addr) (n c n' c' : Nat) (l l' : List Nat) (w : World) (h : SI w .u32 A n c l) (h' : SI w .u32 A' n' c' l') (hl : Lt V l) (hl' : Lt V l') (hn : n ≤ 1099511627776) (hn' : n' ≤ 1099511627776) (hle : val V l' ≤ val V l) :
    Calls Tryz.prog 19 #[.agg #[.bool false, .slice A n c], .agg #[.bool true, .slice A' n' c']] w (GivesR w (sg false (val V l - val V l'))) := by
  have hB := BoxR.start w (.bool false) (.slice A n c) (.bool true) (.slice A' n' c')
  obtain ⟨W, hW⟩ : ∃ W, W = WR3 w (.bool false) (.slice A n c) (.bool true) (.slice A' n' c') := ⟨_, rfl⟩
  rw [← hW] at hB
  have HW := Lib.hid hW
  unfold WR3 at HW
  obtain ⟨z, hz, hz0⟩ : ∃ z, cmp (val V l) (val V l') = z ∧ 0 ≤ z := ⟨_, rfl, by unfold cmp; rw [if_neg (by omega)]; split <;> omega⟩
  have hz1 : decide (0 ≤ z) = true := decide_eq_true hz0
  have hC := Rf.cmp_calls A A' n c n' c' l l' W (h.below hB.bl) (h'.below hB.bl) hl hl'
  rw [hz] at hC
  have hv := val_lt V_pos hl
  have hlen : (digs V (val V l - val V l')).length ≤ n := (digs_length_le V_two _ _).2 (by rw [h.len] at hv; omega)
  have HLE := Lib.hid hle
  have Hh := Lib.hid h
  have Hh' := Lib.hid h'
  have HS := fun (w0 : World) (hB2 : BoxR w w0.drew (.bool false) (.slice A n c) (.bool true) (.slice A' n' c')) => Rf.sub_fresh A A' n c n' c' l l' w0.drew (Hh.out.below hB2.bl) (Hh'.out.below hB2.bl) hl hl' (by omega) HLE.out
  generalize val V l - val V l' = m at hlen HS ⊢
  have HS2 := Lib.hid HS
  have HL := Lib.hid hlen
  have HB := Lib.hid hB
  have HC := Lib.hid hC
  rw [HW.out] at HB HC
  clear hC hB hlen HS hW h h' hv hz hle
  go_enter Tryz.func19, Tryz.ntmps19
  go_wp2_with (go_at_call 50; (with_reducible refine HC.out.mono ?_); rintro e w0 ⟨rfl, d0⟩; have x0 := HB.out.below d0.below)
  have hB2 := x0.below (Below.refl w0.heap.size w0).drew
  have kp := hB2.rd
  unfold Rd4 at kp
  have HA := Lib.hid (HS2.out w0 hB2)
  go_region_held3 (fun w' => w'.cell? ⟨w.heap.size, 0, none⟩ = some (.bool false) ∧ w'.cell? ⟨w.heap.size, 1, none⟩ = some (.slice A n c) ∧ w'.cell? ⟨w.heap.size + 1, 0, none⟩ = some (.bool true) ∧ w'.cell? ⟨w.heap.size + 1, 1, none⟩ = some (.slice A' n' c'))
    (first
      | exact kp
      | exact k1
      | exact k2
      | exact k2.far _ _)
    (first
      | (go_at_call 51; (with_reducible refine HA.out.mono ?_); rintro e w1 ⟨A1, n1, c1, rfl, r1, u1, b1⟩; have x1 := hB2.below b1; have k1 := x1.rd)
      | (go_at_call 46; (with_reducible refine (rmake_d false A1 n1 c1 m w1 r1 (by have := r1.len; have := HL.out; omega)).mono ?_); rintro e w2 ⟨A2, n2, c2, rfl, r2, f2, b2⟩; have x2 := x1.below b2; have k2 := x2.rd; have q0 := x2.r.c0; have q1 := x2.r.c1; have g0 := x2.r.f0; have g1 := x2.r.f1))
  go_wp2
  obtain ⟨p1, p2, p3⟩ := put_resR (a := .bool (decide (sg false m < 0))) (b := .slice A2 n2 c2) x1.bl x1.r (by omega) r2 f2 b2
  exact bodyPost_ret (two_resultsR rfl _ (x2.r.store _ _) rfl) rfl ⟨A2, n2, c2, rfl, p1, p2, p3⟩
set_option maxHeartbeats 4000000 in
set_option maxRecDepth 100000 in
theorem radd_ft_lt (A A' : Option Addr) (n c n' c' : Nat) (l l' : List Nat) (w : World) (h : SI w .u32 A n c l) (h' : SI w .u32 A' n' c' l') (hl : Lt V l) (hl' : Lt V l') (hn : n ≤ 1099511627776) (hn' : n' ≤ 1099511627776) (hle : val V l < val V l') :
    Calls Tryz.prog 19 #[.agg #[.bool false, .slice A n c], .agg #[.bool true, .slice A' n' c']] w (GivesR w (sg true (val V l' - val V l))) := by
  have hB := BoxR.start w (.bool false) (.slice A n c) (.bool true) (.slice A' n' c')
  obtain ⟨W, hW⟩ : ∃ W, W = WR3 w (.bool false) (.slice A n c) (.bool true) (.slice A' n' c') := ⟨_, rfl⟩
  rw [← hW] at hB
  have HW := Lib.hid hW
  unfold WR3 at HW
  obtain ⟨z, hz, hz0⟩ : ∃ z, cmp (val V l) (val V l') = z ∧ z < 0 := ⟨_, rfl, by rw [Rf.cmp_lt hle]; omega⟩
  have hz1 : decide (0 ≤ z) = false := decide_eq_false (by omega)
  have hz2 : ¬ 0 ≤ z := by omega
  have hC := Rf.cmp_calls A A' n c n' c' l l' W (h.below hB.bl) (h'.below hB.bl) hl hl'
  rw [hz] at hC
  have hv := val_lt V_pos hl'
  have hlen : (digs V (val V l' - val V l)).length ≤ n' := (digs_length_le V_two _ _).2 (by rw [h'.len] at hv; omega)
  have HLE := Lib.hid hle
  have Hh := Lib.hid h
  have Hh' := Lib.hid h'
  have HS := fun (w0 : World) (hB2 : BoxR w w0.drew (.bool false) (.slice A n c) (.bool true) (.slice A' n' c')) => Rf.sub_fresh A' A n' c' n c l' l w0.drew (Hh'.out.below hB2.bl) (Hh.out.below hB2.bl) hl' hl (by omega) (Nat.le_of_lt HLE.out)
  generalize val V l' - val V l = m at hlen HS ⊢
  have HS2 := Lib.hid HS
  have HL := Lib.hid hlen
  have HB := Lib.hid hB
  have HC := Lib.hid hC
  rw [HW.out] at HB HC
  clear hC hB hlen HS hW h h' hv hz hle
  go_enter Tryz.func19, Tryz.ntmps19
  go_wp2_with (go_at_call 50; (with_reducible refine HC.out.mono ?_); rintro e w0 ⟨rfl, d0⟩; have x0 := HB.out.below d0.below)
  have hB2 := x0.below (Below.refl w0.heap.size w0).drew
  have kp := hB2.rd
  unfold Rd4 at kp
  have HA := Lib.hid (HS2.out w0 hB2)
  go_region_held3 (fun w' => w'.cell? ⟨w.heap.size, 0, none⟩ = some (.bool false) ∧ w'.cell? ⟨w.heap.size, 1, none⟩ = some (.slice A n c) ∧ w'.cell? ⟨w.heap.size + 1, 0, none⟩ = some (.bool true) ∧ w'.cell? ⟨w.heap.size + 1, 1, none⟩ = some (.slice A' n' c'))
    (first
      | exact kp
      | exact k1
      | exact k2
      | exact k2.far _ _)
    (first
      | (go_at_call 51; (with_reducible refine HA.out.mono ?_); rintro e w1 ⟨A1, n1, c1, rfl, r1, u1, b1⟩; have x1 := hB2.below b1; have k1 := x1.rd)
      | (go_at_call 46; (with_reducible refine (rmake_d true A1 n1 c1 m w1 r1 (by have := r1.len; have := HL.out; omega)).mono ?_); rintro e w2 ⟨A2, n2, c2, rfl, r2, f2, b2⟩; have x2 := x1.below b2; have k2 := x2.rd; have q0 := x2.r.c0; have q1 := x2.r.c1; have g0 := x2.r.f0; have g1 := x2.r.f1))
  go_wp2
  obtain ⟨p1, p2, p3⟩ := put_resR (a := .bool (decide (sg true m < 0))) (b := .slice A2 n2 c2) x1.bl x1.r (by omega) r2 f2 b2
  exact bodyPost_ret (two_resultsR rfl _ (x2.r.store _ _) rfl) rfl ⟨A2, n2, c2, rfl, p1, p2, p3⟩
set_option maxHeartbeats 4000000 in
set_option maxRecDepth 100000 in
theorem radd_tf_ge (A A' : Option Addr) (n c n' c' : Nat) (l l' : List Nat) (w : World) (h : SI w .u32 A n c l) (h' : SI w .u32 A' n' c' l') (hl : Lt V l) (hl' : Lt V l') (hn : n ≤ 1099511627776) (hn' : n' ≤ 1099511627776) (hle : val V l' ≤ val V l) :
    Calls Tryz.prog 19 #[.agg #[.bool true, .slice A n c], .agg #[.bool false, .slice A' n' c']] w (GivesR w (sg true (val V l - val V l'))) := by
  have hB := BoxR.start w (.bool true) (.slice A n c) (.bool false) (.slice A' n' c')
  obtain ⟨W, hW⟩ : ∃ W, W = WR3 w (.bool true) (.slice A n c) (.bool false) (.slice A' n' c') := ⟨_, rfl⟩
  rw [← hW] at hB
  have HW := Lib.hid hW
  unfold WR3 at HW
  obtain ⟨z, hz, hz0⟩ : ∃ z, cmp (val V l) (val V l') = z ∧ 0 ≤ z := ⟨_, rfl, by unfold cmp; rw [if_neg (by omega)]; split <;> omega⟩
  have hz1 : decide (0 ≤ z) = true := decide_eq_true hz0
  have hC := Rf.cmp_calls A A' n c n' c' l l' W (h.below hB.bl) (h'.below hB.bl) hl hl'
  rw [hz] at hC
  have hv := val_lt V_pos hl
  have hlen : (digs V (val V l - val V l')).length ≤ n := (digs_length_le V_two _ _).2 (by rw [h.len] at hv; omega)
  have HLE := Lib.hid hle
  have Hh := Lib.hid h
  have Hh' := Lib.hid h'
  have HS := fun (w0 : World) (hB2 : BoxR w w0.drew (.bool true) (.slice A n c) (.bool false) (.slice A' n' c')) => Rf.sub_fresh A A' n c n' c' l l' w0.drew (Hh.out.below hB2.bl) (Hh'.out.below hB2.bl) hl hl' (by omega) HLE.out
  generalize val V l - val V l' = m at hlen HS ⊢
  have HS2 := Lib.hid HS
  have HL := Lib.hid hlen
  have HB := Lib.hid hB
  have HC := Lib.hid hC
  rw [HW.out] at HB HC
  clear hC hB hlen HS hW h h' hv hz hle
  go_enter Tryz.func19, Tryz.ntmps19
  go_wp2_with (go_at_call 50; (with_reducible refine HC.out.mono ?_); rintro e w0 ⟨rfl, d0⟩; have x0 := HB.out.below d0.below)
  have hB2 := x0.below (Below.refl w0.heap.size w0).drew
  have kp := hB2.rd
  unfold Rd4 at kp
  have HA := Lib.hid (HS2.out w0 hB2)
  go_region_held3 (fun w' => w'.cell? ⟨w.heap.size, 0, none⟩ = some (.bool true) ∧ w'.cell? ⟨w.heap.size, 1, none⟩ = some (.slice A n c) ∧ w'.cell? ⟨w.heap.size + 1, 0, none⟩ = some (.bool false) ∧ w'.cell? ⟨w.heap.size + 1, 1, none⟩ = some (.slice A' n' c'))
    (first
      | exact kp
      | exact k1
      | exact k2
      | exact k2.far _ _)
    (first
      | (go_at_call 51; (with_reducible refine HA.out.mono ?_); rintro e w1 ⟨A1, n1, c1, rfl, r1, u1, b1⟩; have x1 := hB2.below b1; have k1 := x1.rd)
      | (go_at_call 46; (with_reducible refine (rmake_d true A1 n1 c1 m w1 r1 (by have := r1.len; have := HL.out; omega)).mono ?_); rintro e w2 ⟨A2, n2, c2, rfl, r2, f2, b2⟩; have x2 := x1.below b2; have k2 := x2.rd; have q0 := x2.r.c0; have q1 := x2.r.c1; have g0 := x2.r.f0; have g1 := x2.r.f1))
  go_wp2
  obtain ⟨p1, p2, p3⟩ := put_resR (a := .bool (decide (sg true m < 0))) (b := .slice A2 n2 c2) x1.bl x1.r (by omega) r2 f2 b2
  exact bodyPost_ret (two_resultsR rfl _ (x2.r.store _ _) rfl) rfl ⟨A2, n2, c2, rfl, p1, p2, p3⟩
set_option maxHeartbeats 4000000 in
set_option maxRecDepth 100000 in
theorem radd_tf_lt (A A' : Option Addr) (n c n' c' : Nat) (l l' : List Nat) (w : World) (h : SI w .u32 A n c l) (h' : SI w .u32 A' n' c' l') (hl : Lt V l) (hl' : Lt V l') (hn : n ≤ 1099511627776) (hn' : n' ≤ 1099511627776) (hle : val V l < val V l') :
    Calls Tryz.prog 19 #[.agg #[.bool true, .slice A n c], .agg #[.bool false, .slice A' n' c']] w (GivesR w (sg false (val V l' - val V l))) := by
  have hB := BoxR.start w (.bool true) (.slice A n c) (.bool false) (.slice A' n' c')
  obtain ⟨W, hW⟩ : ∃ W, W = WR3 w (.bool true) (.slice A n c) (.bool false) (.slice A' n' c') := ⟨_, rfl⟩
  rw [← hW] at hB
  have HW := Lib.hid hW
  unfold WR3 at HW
  obtain ⟨z, hz, hz0⟩ : ∃ z, cmp (val V l) (val V l') = z ∧ z < 0 := ⟨_, rfl, by rw [Rf.cmp_lt hle]; omega⟩
  have hz1 : decide (0 ≤ z) = false := decide_eq_false (by omega)
  have hz2 : ¬ 0 ≤ z := by omega
  have hC := Rf.cmp_calls A A' n c n' c' l l' W (h.below hB.bl) (h'.below hB.bl) hl hl'
  rw [hz] at hC
  have hv := val_lt V_pos hl'
  have hlen : (digs V (val V l' - val V l)).length ≤ n' := (digs_length_le V_two _ _).2 (by rw [h'.len] at hv; omega)
  have HLE := Lib.hid hle
  have Hh := Lib.hid h
  have Hh' := Lib.hid h'
  have HS := fun (w0 : World) (hB2 : BoxR w w0.drew (.bool true) (.slice A n c) (.bool false) (.slice A' n' c')) => Rf.sub_fresh A' A n' c' n c l' l w0.drew (Hh'.out.below hB2.bl) (Hh.out.below hB2.bl) hl' hl (by omega) (Nat.le_of_lt HLE.out)
  generalize val V l' - val V l = m at hlen HS ⊢
  have HS2 := Lib.hid HS
  have HL := Lib.hid hlen
  have HB := Lib.hid hB
  have HC := Lib.hid hC
  rw [HW.out] at HB HC
  clear hC hB hlen HS hW h h' hv hz hle
  go_enter Tryz.func19, Tryz.ntmps19
  go_wp2_with (go_at_call 50; (with_reducible refine HC.out.mono ?_); rintro e w0 ⟨rfl, d0⟩; have x0 := HB.out.below d0.below)
  have hB2 := x0.below (Below.refl w0.heap.size w0).drew
  have kp := hB2.rd
  unfold Rd4 at kp
  have HA := Lib.hid (HS2.out w0 hB2)
  go_region_held3 (fun w' => w'.cell? ⟨w.heap.size, 0, none⟩ = some (.bool true) ∧ w'.cell? ⟨w.heap.size, 1, none⟩ = some (.slice A n c) ∧ w'.cell? ⟨w.heap.size + 1, 0, none⟩ = some (.bool false) ∧ w'.cell? ⟨w.heap.size + 1, 1, none⟩ = some (.slice A' n' c'))
    (first
      | exact kp
      | exact k1
      | exact k2
      | exact k2.far _ _)
    (first
      | (go_at_call 51; (with_reducible refine HA.out.mono ?_); rintro e w1 ⟨A1, n1, c1, rfl, r1, u1, b1⟩; have x1 := hB2.below b1; have k1 := x1.rd)
      | (go_at_call 46; (with_reducible refine (rmake_d false A1 n1 c1 m w1 r1 (by have := r1.len; have := HL.out; omega)).mono ?_); rintro e w2 ⟨A2, n2, c2, rfl, r2, f2, b2⟩; have x2 := x1.below b2; have k2 := x2.rd; have q0 := x2.r.c0; have q1 := x2.r.c1; have g0 := x2.r.f0; have g1 := x2.r.f1))
  go_wp2
  obtain ⟨p1, p2, p3⟩ := put_resR (a := .bool (decide (sg false m < 0))) (b := .slice A2 n2 c2) x1.bl x1.r (by omega) r2 f2 b2
  exact bodyPost_ret (two_resultsR rfl _ (x2.r.store _ _) rfl) rfl ⟨A2, n2, c2, rfl, p1, p2, p3⟩
theorem radd_calls (ng ng' : Bool) (A A' : Option Addr) (n c n' c' : Nat) (l l' : List Nat) (w : World) (h : SI w .u32 A n c l) (h' : SI w .u32 A' n' c' l') (hl : Lt V l) (hl' : Lt V l') (hn : n ≤ 1099511627776) (hn' : n' ≤ 1099511627776) :
    Calls Tryz.prog 19 #[.agg #[.bool ng, .slice A n c], .agg #[.bool ng', .slice A' n' c']] w (GivesR w (sg ng (val V l) + sg ng' (val V l'))) := by
  cases ng <;> cases ng'
  · have e := radd_f A A' n c n' c' l l' w h h' hl hl' hn hn'
    rwa [show sg false (val V l + val V l') = sg false (val V l) + sg false (val V l') by simp [sg]] at e
  · rcases Nat.lt_or_ge (val V l) (val V l') with hx | hx
    · have e := radd_ft_lt A A' n c n' c' l l' w h h' hl hl' hn hn' hx
      rwa [show sg true (val V l' - val V l) = sg false (val V l) + sg true (val V l') by simp [sg]; omega] at e
    · have e := radd_ft_ge A A' n c n' c' l l' w h h' hl hl' hn hn' hx
      rwa [show sg false (val V l - val V l') = sg false (val V l) + sg true (val V l') by simp [sg]; omega] at e
  · rcases Nat.lt_or_ge (val V l) (val V l') with hx | hx
    · have e := radd_tf_lt A A' n c n' c' l l' w h h' hl hl' hn hn' hx
      rwa [show sg false (val V l' - val V l) = sg true (val V l) + sg false (val V l') by simp [sg]; omega] at e
    · have e := radd_tf_ge A A' n c n' c' l l' w h h' hl hl' hn hn' hx
      rwa [show sg true (val V l - val V l') = sg true (val V l) + sg false (val V l') by simp [sg]; omega] at e
  · have e := radd_t A A' n c n' c' l l' w h h' hl hl' hn hn'
    rwa [show sg true (val V l + val V l') = sg true (val V l) + sg true (val V l') by simp [sg]; omega] at e
end Go.Proofs.YtkaajgcjdgjcbaaGreatDoor.Rw

/- The document's answer of layer 2, on: Cmp. -/
namespace Go.Proofs.YtkaajgcjdgjcbaaGreatDoor.Rw
open Go.RowKit Go.Proofs.YtkaajgcjdgjcbaaGreatDoor.Dig Go.Proofs.YtkaajgcjdgjcbaaGreatDoor.W Go.Proofs.YtkaajgcjdgjcbaaGreatDoor.Nat Go.Proofs.YtkaajgcjdgjcbaaGreatDoor.Wh
open Go.Proofs.YtkaajgcjdgjcbaaGreatDoor.Rf (V V_two V_pos)

/-- how two whole numbers stand -/
def cmpz (x y : Int) : Int := if x < y then -1 else if y < x then 1 else 0
theorem sg_of (z : Int) : sg (decide (z < 0)) z.natAbs = z := by
  unfold sg
  split <;> simp at * <;> omega
end Go.Proofs.YtkaajgcjdgjcbaaGreatDoor.Rw

/- The document's answer of layer 2, on: DivMod. -/
namespace Go.Proofs.YtkaajgcjdgjcbaaGreatDoor.Rw
open Go.RowKit Go.Proofs.YtkaajgcjdgjcbaaGreatDoor.Dig Go.Proofs.YtkaajgcjdgjcbaaGreatDoor.W Go.Proofs.YtkaajgcjdgjcbaaGreatDoor.Nat Go.Proofs.YtkaajgcjdgjcbaaGreatDoor.Wh
open Go.Proofs.YtkaajgcjdgjcbaaGreatDoor.Rf (V V_two V_pos)

def WR4 (w : World) (u v u' v' : Value) : World := (WR3 w u v u' v').alloc (.cells #[.bool false, .slice none 0 0] 28)
structure Box3R (w W : World) (u v u' v' : Value) : Prop where
  a : Two W w.heap.size 28 u v
  b : Two W (w.heap.size + 1) 28 u' v'
  r : Two W (w.heap.size + 1 + 1) 28 (.bool false) (.slice none 0 0)
  s : Two W (w.heap.size + 1 + 1 + 1) 28 (.bool false) (.slice none 0 0)
  bl : Below w.heap.size w W
theorem WR3_size (w : World) (u v u' v' : Value) : (WR3 w u v u' v').heap.size = w.heap.size + 1 + 1 + 1 := by simp [WR3]
theorem Box3R.start (w : World) (u v u' v' : Value) : Box3R w (WR4 w u v u' v') u v u' v' := by
  have hB := BoxR.start w u v u' v'
  have hb := alloc_below (WR3 w u v u' v') (.cells #[.bool false, .slice none 0 0] 28)
  have h4 := Two.start (WR3 w u v u' v') (.bool false) (.slice none 0 0) 28
  rw [WR3_size] at h4
  exact ⟨hB.a.below hb, hB.b.below hb, hB.r.below hb, h4, hB.bl.alloc hB.bl.size _⟩
theorem Box3R.below {w W W' : World} {u v u' v' : Value} (h : Box3R w W u v u' v') (hb : Below W.heap.size W W') : Box3R w W' u v u' v' :=
  ⟨h.a.below hb, h.b.below hb, h.r.below hb, h.s.below hb, h.bl.trans (hb.mono h.bl.size)⟩
theorem Box3R.put {w W : World} {u v u' v' : Value} (h : Box3R w W u v u' v') (a b a' b' : Value) :
    Two (Put4 W (w.heap.size + 1 + 1) a b a' b') (w.heap.size + 1 + 1) 28 a b ∧ Two (Put4 W (w.heap.size + 1 + 1) a b a' b') (w.heap.size + 1 + 1 + 1) 28 a' b' ∧ Below w.heap.size w (Put4 W (w.heap.size + 1 + 1) a b a' b') :=
  ⟨Two.far (h.r.store a b) (by omega) a' b', (Two.far h.s (by omega) a b).store a' b',
   (((h.bl.setCell (by show _ ≤ w.heap.size + 1 + 1; omega) _).setCell (by show _ ≤ w.heap.size + 1 + 1; omega) _).setCell (by show _ ≤ w.heap.size + 1 + 1 + 1; omega) _).setCell (by show _ ≤ w.heap.size + 1 + 1 + 1; omega) _⟩
theorem results_ccR {fn : Func} {p q : Tmp} (h : fn.results = #[.cell p 28, .cell q 28]) (tmps : Array Value) {w : World} {g g' : Nat} {a b a' b' : Value} (hg : Two w g 28 a b) (hg' : Two w g' 28 a' b')
    (hp : tmps.getD p undef = .pointer (some ⟨g, 0, none⟩)) (hq : tmps.getD q undef = .pointer (some ⟨g', 0, none⟩)) : (results fn tmps).run Tryz.prog w = .ok (.tuple #[.agg #[a, b], .agg #[a', b']]) w := by
  have hp' : tmps[p]?.getD undef = .pointer (some ⟨g, 0, none⟩) := by simpa using hp
  have hq' : tmps[q]?.getD undef = .pointer (some ⟨g', 0, none⟩) := by simpa using hq
  have e1 := run_loadVar_row (P := Tryz.prog) w g 28 28 #[a, b] (0, 0) _ hg Tryz.underlying28 rfl (by kernel_rfl)
  have e2 := run_loadVar_row (P := Tryz.prog) w g' 28 28 #[a', b'] (0, 0) _ hg' Tryz.underlying28 rfl (by kernel_rfl)
  simp [results, h, hp', hq', asAddr, e1, e2]
def GivesDR (w : World) (q r : Int) (e : Ending) (w' : World) : Prop :=
  ∃ A n c A' n' c', e = .returned (.tuple #[.agg #[.bool (decide (q < 0)), .slice A n c], .agg #[.bool (decide (r < 0)), .slice A' n' c']]) ∧
    SI w' .u32 A n c (digs V q.natAbs) ∧ SI w' .u32 A' n' c' (digs V r.natAbs) ∧ Below w.heap.size w w'
theorem len_succR {a M : Nat} (h : (digs V a).length ≤ M) : (digs V (a + 1)).length ≤ M + 1 := by
  have h1 := (digs_length_le V_two _ _).1 h
  refine (digs_length_le V_two _ _).2 ?_
  have p3 : V ^ M * 2 ≤ V ^ (M + 1) := by rw [Nat.pow_succ]; exact Nat.mul_le_mul_left _ V_two
  generalize V ^ M = P at *
  omega
theorem digs_len_leR {l : List Nat} {n M : Nat} (hl : Lt V l) (h : l.length = n) (hn : n ≤ M) : (digs V (val V l)).length ≤ M := by
  have h1 := val_lt V_pos hl
  rw [h] at h1
  exact (digs_length_le V_two _ _).2 (Nat.lt_of_lt_of_le h1 (Nat.pow_le_pow_right V_pos hn))
theorem digs_boundR {a b M : Nat} (h : a ≤ b) (hb : (digs V b).length ≤ M) : (digs V a).length ≤ M := Nat.le_trans (digs_length_mono V_two h) hb
theorem lit1R (w : World) (m : Nat) (hm : w.heap.size = m) : SI (w.alloc (.cells #[.int .u32 1] 79)) .u32 (some ⟨m, 0, none⟩) 1 1 [1] := by
  subst hm
  exact ⟨rfl, Nat.le_refl _, by omega, fun _ => ⟨w.heap.size, 0, rfl, fun j u hu => by
    rw [World.cell?, show (w.alloc (.cells #[.int .u32 1] 79)).heap[w.heap.size]? = _ from heap_alloc_new w _]
    simpa [nums] using hu⟩⟩
theorem radd_1 (A A' : Option Addr) (n c n' c' m M : Nat) (w : World) (h : SI w .u32 A n c (digs V m)) (h' : SI w .u32 A' n' c' [1]) (hM : M ≤ 4398046511104) (hn : (digs V m).length ≤ M) :
    Calls Tryz.prog 49 #[.slice A n c, .slice A' n' c'] w (Rf.GivesF w .u32 (digs V (m + 1))) := by
  have hn' : n' = 1 := h'.len.symm
  have e := Rf.add_calls A A' n c n' c' _ _ w h h' (dv m) (fun x hx => by rw [List.mem_singleton] at hx; subst hx; decide) (by rw [← h.len]; omega) (by omega)
  rw [val_digs V_two, val_cons, val_nil, Nat.mul_zero, Nat.add_zero] at e
  exact e
theorem rsub_d (A A' : Option Addr) (n c n' c' m' : Nat) (l : List Nat) (w : World) (h : SI w .u32 A n c l) (hl : Lt V l) (h' : SI w .u32 A' n' c' (digs V m')) (hn : n ≤ 4398046511104) (hle : m' ≤ val V l) :
    Calls Tryz.prog 51 #[.slice A n c, .slice A' n' c'] w (Rf.GivesF w .u32 (digs V (val V l - m'))) := by
  have e := Rf.sub_fresh A A' n c n' c' _ _ w h h' hl (dv m') hn (by rw [val_digs V_two]; exact hle)
  rw [val_digs V_two] at e
  exact e
theorem rmake_m (ng : Bool) (A : Option Addr) (n c m M : Nat) (w : World) (h : SI w .u32 A n c (digs V m)) (hM : M ≤ 4398046511104) (hn : (digs V m).length ≤ M) : Calls Tryz.prog 46 #[.bool ng, .slice A n c] w (GivesR w (sg ng m)) :=
  rmake_d ng A n c m w h (by rw [← h.len]; omega)
set_option maxHeartbeats 4000000 in
set_option maxRecDepth 100000 in
theorem rdivmod_plain (ng ng' : Bool) (A A' : Option Addr) (n c n' c' : Nat) (l l' : List Nat) (w : World) (h : SI w .u32 A n c l) (h' : SI w .u32 A' n' c' l') (hl : Lt V l) (hl' : Lt V l') (hn : n ≤ 1099511627776) (hn' : n' ≤ 1099511627776) (h0 : val V l' ≠ 0)
    (hp : ng = false ∨ val V l % val V l' = 0) :
    Calls Tryz.prog 27 #[.agg #[.bool ng, .slice A n c], .agg #[.bool ng', .slice A' n' c']] w (GivesDR w (sg ng (val V l) / sg ng' (val V l')) (sg ng (val V l) % sg ng' (val V l'))) := by
  have hB := Box3R.start w (.bool ng) (.slice A n c) (.bool ng') (.slice A' n' c')
  obtain ⟨W, hW⟩ : ∃ W, W = WR4 w (.bool ng) (.slice A n c) (.bool ng') (.slice A' n' c') := ⟨_, rfl⟩
  rw [← hW] at hB
  have hS := Rf.divmod_calls A A' n c n' c' l l' W (h.below hB.bl) (h'.below hB.bl) hl hl' hn (Nat.pos_of_ne_zero h0)
  obtain ⟨t1, t2⟩ := dm_plain ng ng' (val V l) (val V l') h0 hp
  rw [← t1, ← t2]
  have hL1 := digs_boundR (Nat.div_le_self (val V l) (val V l')) (digs_len_leR hl h.len hn)
  have hL2 := digs_boundR (Nat.le_of_lt (Nat.mod_lt (val V l) (Nat.pos_of_ne_zero h0))) (digs_len_leR hl' h'.len hn')
  clear t1 t2 h0
  generalize val V l / val V l' = m at *
  generalize val V l % val V l' = k at *
  unfold WR4 WR3 at hW
  rw [hW] at hS
  have HS := Lib.hid hS
  have HB := Lib.hid hB
  have HL1 := Lib.hid hL1
  have HL2 := Lib.hid hL2
  rw [hW] at HB
  clear hS hL1 hL2 hW h h' hB hl hl' hn hn'
  cases ng
  · clear hp
    rw [show (false != ng') = ng' by cases ng' <;> rfl]
    go_enter Tryz.func27, Tryz.ntmps27
    go_wp2_with (first
      | (go_at_call 56; (with_reducible refine HS.out.mono ?_); rintro e w1 ⟨A1, n1, c1, A2, n2, c2, rfl, r1, r2, _, _, b1⟩; have x1 := HB.out.below b1; have y0 := x1.a.c0; have y1 := x1.b.c0; have y2 := x1.b.c1)
      | (go_at_call_of 46 (Value.slice A1 n1 c1); (with_reducible refine (rmake_m _ A1 n1 c1 m _ w1 r1 (by omega) HL1.out).mono ?_); rintro e w2 ⟨A3, n3, c3, rfl, r3, f3, b2⟩)
      | (go_at_call_of 46 (Value.slice A2 n2 c2); (with_reducible refine (rmake_m _ A2 n2 c2 k _ w2 (r2.below b2) (by omega) HL2.out).mono ?_); rintro e w3 ⟨A4, n4, c4, rfl, r4, f4, b3⟩; have x3 := (x1.below b2).below b3; have q0 := x3.r.c0; have q1 := x3.r.c1; have q2 := x3.s.c0; have q3 := x3.s.c1; have g0 := x3.r.f0; have g1 := x3.r.f1; have g2 := x3.s.f0; have g3 := x3.s.f1))
    have P := x3.put (.bool (decide (sg ng' m < 0))) (.slice A3 n3 c3) (.bool (decide (sg false k < 0))) (.slice A4 n4 c4)
    have h1 := x1.s.lt
    have h2 := b2.size
    have k3 : ∀ b o s, A3 = some ⟨b, o, s⟩ → w.heap.size + 1 + 1 + 2 ≤ b := fun b o s e => by have := f3 b o s e; omega
    have k4 : ∀ b o s, A4 = some ⟨b, o, s⟩ → w.heap.size + 1 + 1 + 2 ≤ b := fun b o s e => by have := f4 b o s e; omega
    refine bodyPost_ret (results_ccR rfl _ P.1 P.2.1 rfl rfl) rfl ⟨A3, n3, c3, A4, n4, c4, rfl, ?_, ?_, P.2.2⟩
    · rw [sg_abs]; rw [sg_abs] at r3; exact si_put4 (r3.below b3) k3 _ _ _ _
    · rw [sg_abs]; rw [sg_abs] at r4; exact si_put4 r4 k4 _ _ _ _
  · have hk : k = 0 := hp.resolve_left (by decide)
    subst hk
    clear hp
    rw [show (true != ng') = !ng' by cases ng' <;> rfl]
    go_enter Tryz.func27, Tryz.ntmps27
    go_wp2_with (first
      | (go_at_call 56; (with_reducible refine HS.out.mono ?_); rintro e w1 ⟨A1, n1, c1, A2, n2, c2, rfl, r1, r2, _, _, b1⟩; have x1 := HB.out.below b1; have y0 := x1.a.c0; have y1 := x1.b.c0; have y2 := x1.b.c1; obtain rfl : n2 = 0 := (by rw [← r2.len, digs_zero]; rfl))
      | (go_at_call_of 46 (Value.slice A1 n1 c1); (with_reducible refine (rmake_m _ A1 n1 c1 m _ w1 r1 (by omega) HL1.out).mono ?_); rintro e w2 ⟨A3, n3, c3, rfl, r3, f3, b2⟩)
      | (go_at_call_of 46 (Value.slice A2 0 c2); (with_reducible refine (rmake_m _ A2 0 c2 0 _ w2 (r2.below b2) (by omega) HL2.out).mono ?_); rintro e w3 ⟨A4, n4, c4, rfl, r4, f4, b3⟩; have x3 := (x1.below b2).below b3; have q0 := x3.r.c0; have q1 := x3.r.c1; have q2 := x3.s.c0; have q3 := x3.s.c1; have g0 := x3.r.f0; have g1 := x3.r.f1; have g2 := x3.s.f0; have g3 := x3.s.f1))
    have P := x3.put (.bool (decide (sg (!ng') m < 0))) (.slice A3 n3 c3) (.bool (decide (sg false 0 < 0))) (.slice A4 n4 c4)
    have h1 := x1.s.lt
    have h2 := b2.size
    have k3 : ∀ b o s, A3 = some ⟨b, o, s⟩ → w.heap.size + 1 + 1 + 2 ≤ b := fun b o s e => by have := f3 b o s e; omega
    have k4 : ∀ b o s, A4 = some ⟨b, o, s⟩ → w.heap.size + 1 + 1 + 2 ≤ b := fun b o s e => by have := f4 b o s e; omega
    refine bodyPost_ret (results_ccR rfl _ P.1 P.2.1 rfl rfl) rfl ⟨A3, n3, c3, A4, n4, c4, rfl, ?_, ?_, P.2.2⟩
    · rw [sg_abs]; rw [sg_abs] at r3; exact si_put4 (r3.below b3) k3 _ _ _ _
    · rw [sg_abs]; rw [sg_abs] at r4; exact si_put4 r4 k4 _ _ _ _
set_option maxHeartbeats 4000000 in
set_option maxRecDepth 100000 in
theorem rdivmod_more (ng' : Bool) (A A' : Option Addr) (n c n' c' : Nat) (l l' : List Nat) (w : World) (h : SI w .u32 A n c l) (h' : SI w .u32 A' n' c' l') (hl : Lt V l) (hl' : Lt V l') (hn : n ≤ 1099511627776) (hn' : n' ≤ 1099511627776) (h0 : val V l' ≠ 0)
    (hp : val V l % val V l' ≠ 0) :
    Calls Tryz.prog 27 #[.agg #[.bool true, .slice A n c], .agg #[.bool ng', .slice A' n' c']] w (GivesDR w (sg true (val V l) / sg ng' (val V l')) (sg true (val V l) % sg ng' (val V l'))) := by
  have hB := Box3R.start w (.bool true) (.slice A n c) (.bool ng') (.slice A' n' c')
  obtain ⟨W, hW⟩ : ∃ W, W = WR4 w (.bool true) (.slice A n c) (.bool ng') (.slice A' n' c') := ⟨_, rfl⟩
  rw [← hW] at hB
  have hS := Rf.divmod_calls A A' n c n' c' l l' W (h.below hB.bl) (h'.below hB.bl) hl hl' hn (Nat.pos_of_ne_zero h0)
  obtain ⟨t1, t2⟩ := dm_more ng' (val V l) (val V l') h0 hp
  rw [← t1, ← t2, show (true != ng') = !ng' by cases ng' <;> rfl]
  have hL1 := digs_boundR (Nat.div_le_self (val V l) (val V l')) (digs_len_leR hl h.len hn)
  have hlt := Nat.mod_lt (val V l) (Nat.pos_of_ne_zero h0)
  have hL3 := digs_boundR (Nat.sub_le (val V l') (val V l % val V l')) (digs_len_leR hl' h'.len hn')
  have hL4 := len_succR hL1
  have hS2 := fun (A2 : Option Addr) (n2 c2 : Nat) (w4 : World) (hb4 : Below W.heap.size W w4) (r2 : SI w4 .u32 A2 n2 c2 (digs V (val V l % val V l'))) =>
    rsub_d A' A2 n' c' n2 c2 (val V l % val V l') l' w4 ((h'.below hB.bl).below hb4) hl' r2 (by omega) (Nat.le_of_lt hlt)
  have hpos : 0 < (digs V (val V l % val V l')).length := digs_length_pos V_two hp
  clear t1 t2 h0
  generalize val V l' - val V l % val V l' = j at *
  generalize val V l / val V l' = m at *
  generalize val V l % val V l' = k at *
  unfold WR4 WR3 at hW
  rw [hW] at hS hS2
  have HS := Lib.hid hS
  have HS2 := Lib.hid hS2
  have HB := Lib.hid hB
  have HL1 := Lib.hid hL1
  have HL3 := Lib.hid hL3
  have HL4 := Lib.hid hL4
  have HP := Lib.hid hpos
  rw [hW] at HB
  clear hS hS2 hL1 hL3 hL4 hpos hlt hW h h' hB hl hl' hn hn' hp
  · skip
    go_enter Tryz.func27, Tryz.ntmps27
    go_wp2_with (first
      | (go_at_call 56; (with_reducible refine HS.out.mono ?_); rintro e w1 ⟨A1, n1, c1, A2, n2, c2, rfl, r1, r2, _, _, b1⟩; have x1 := HB.out.below b1; have y0 := x1.a.c0; have y1 := x1.b.c0; have y2 := x1.b.c1; have hn2 : 0 < n2 := (by rw [← r2.len]; exact HP.out))
      | (go_at_call 49; (with_reducible refine (radd_1 A1 _ n1 c1 _ _ m _ _ (r1.alloc _) (lit1R _ _ rfl) (by omega) HL1.out).mono ?_); rintro e w8 ⟨A8, n8, c8, rfl, r8, _, b8'⟩; have b8 := (alloc_below w1 (.cells #[.int .u32 1] 79)).trans (b8'.mono (alloc_below w1 _).size); have z8 := x1.below b8; have y3 := z8.b.c1)
      | (go_at_call 51; (with_reducible refine (HS2.out A2 n2 c2 w8 (b1.trans (b8.mono b1.size)) (r2.below b8)).mono ?_); rintro e w9 ⟨A9, n9, c9, rfl, r9, _, b9⟩; have z9 := z8.below b9; have y4 := z9.a.c0; have y5 := z9.b.c0)
      | (go_at_call_of 46 (Value.slice A8 n8 c8); (with_reducible refine (rmake_m _ A8 n8 c8 (m + 1) _ w9 (r8.below b9) (by omega) HL4.out).mono ?_); rintro e w2 ⟨A3, n3, c3, rfl, r3, f3, b2⟩)
      | (go_at_call_of 46 (Value.slice A9 n9 c9); (with_reducible refine (rmake_m _ A9 n9 c9 j _ w2 (r9.below b2) (by omega) HL3.out).mono ?_); rintro e w3 ⟨A4, n4, c4, rfl, r4, f4, b3⟩; have x3 := (z9.below b2).below b3; have q0 := x3.r.c0; have q1 := x3.r.c1; have q2 := x3.s.c0; have q3 := x3.s.c1; have g0 := x3.r.f0; have g1 := x3.r.f1; have g2 := x3.s.f0; have g3 := x3.s.f1))
    have P := x3.put (.bool (decide (sg (!ng') (m + 1) < 0))) (.slice A3 n3 c3) (.bool (decide (sg false j < 0))) (.slice A4 n4 c4)
    have h1 := z9.s.lt
    have h2 := b2.size
    have k3 : ∀ b o s, A3 = some ⟨b, o, s⟩ → w.heap.size + 1 + 1 + 2 ≤ b := fun b o s e => by have := f3 b o s e; omega
    have k4 : ∀ b o s, A4 = some ⟨b, o, s⟩ → w.heap.size + 1 + 1 + 2 ≤ b := fun b o s e => by have := f4 b o s e; omega
    refine bodyPost_ret (results_ccR rfl _ P.1 P.2.1 rfl rfl) rfl ⟨A3, n3, c3, A4, n4, c4, rfl, ?_, ?_, P.2.2⟩
    · rw [sg_abs]; rw [sg_abs] at r3; exact si_put4 (r3.below b3) k3 _ _ _ _
    · rw [sg_abs]; rw [sg_abs] at r4; exact si_put4 r4 k4 _ _ _ _
theorem rdivmod_calls (ng ng' : Bool) (A A' : Option Addr) (n c n' c' : Nat) (l l' : List Nat) (w : World) (h : SI w .u32 A n c l) (h' : SI w .u32 A' n' c' l') (hl : Lt V l) (hl' : Lt V l') (hn : n ≤ 1099511627776) (hn' : n' ≤ 1099511627776) (h0 : val V l' ≠ 0) :
    Calls Tryz.prog 27 #[.agg #[.bool ng, .slice A n c], .agg #[.bool ng', .slice A' n' c']] w (GivesDR w (sg ng (val V l) / sg ng' (val V l')) (sg ng (val V l) % sg ng' (val V l'))) := by
  by_cases hp : ng = false ∨ val V l % val V l' = 0
  · exact rdivmod_plain ng ng' A A' n c n' c' l l' w h h' hl hl' hn hn' h0 hp
  · cases ng
    · exact absurd (.inl rfl) hp
    · exact rdivmod_more ng' A A' n c n' c' l l' w h h' hl hl' hn hn' h0 (fun e => hp (.inr e))
end Go.Proofs.YtkaajgcjdgjcbaaGreatDoor.Rw

/- An order's law, on: two or three numbers may come up. -/
namespace Go.Un
variable {P : Program} {ops : Array Oper} {Q : Exit → Act → World → Prop} {md : Region.Mode} {S : World → Prop} {R : List Nat}

theorem two {i j : Nat} {oi oj : Oper} {fuel : Nat} {listed : Array Bool} {a : Act} {w : World} (hi : ops[i]? = some oi) (hj : ops[j]? = some oj) (hr : Region.ready md ops listed = [i, j])
    (h1 : ∀ K' : Act → World → Prop, Shut (∀ a w, (came R (listed.setIfInBounds i true) = false → S w) → wpAnyU P md ops Q S R fuel (listed.setIfInBounds i true) a w → K' a w) → if Region.wanted oi (yielded ops a.tmps) = true then Oper.wp P oi a w K' Q else K' (a.put oi.dst undef) w)
    (h2 : ∀ K' : Act → World → Prop, Shut (∀ a w, (came R (listed.setIfInBounds j true) = false → S w) → wpAnyU P md ops Q S R fuel (listed.setIfInBounds j true) a w → K' a w) → if Region.wanted oj (yielded ops a.tmps) = true then Oper.wp P oj a w K' Q else K' (a.put oj.dst undef) w) :
    wpAnyU P md ops Q S R (fuel + 1) listed a w :=
  all hr (by simp) (fun k hk => by
    rw [List.mem_cons, List.mem_singleton] at hk
    rcases hk with rfl | rfl
    · exact wpOp_step hi (fun K' hK => h1 K' (fun a w hS hW => hK a w ⟨hS, hW⟩))
    · exact wpOp_step hj (fun K' hK => h2 K' (fun a w hS hW => hK a w ⟨hS, hW⟩)))
theorem three {i j k : Nat} {oi oj ok : Oper} {fuel : Nat} {listed : Array Bool} {a : Act} {w : World} (hi : ops[i]? = some oi) (hj : ops[j]? = some oj) (hk : ops[k]? = some ok) (hr : Region.ready md ops listed = [i, j, k])
    (h1 : ∀ K' : Act → World → Prop, Shut (∀ a w, (came R (listed.setIfInBounds i true) = false → S w) → wpAnyU P md ops Q S R fuel (listed.setIfInBounds i true) a w → K' a w) → if Region.wanted oi (yielded ops a.tmps) = true then Oper.wp P oi a w K' Q else K' (a.put oi.dst undef) w)
    (h2 : ∀ K' : Act → World → Prop, Shut (∀ a w, (came R (listed.setIfInBounds j true) = false → S w) → wpAnyU P md ops Q S R fuel (listed.setIfInBounds j true) a w → K' a w) → if Region.wanted oj (yielded ops a.tmps) = true then Oper.wp P oj a w K' Q else K' (a.put oj.dst undef) w)
    (h3 : ∀ K' : Act → World → Prop, Shut (∀ a w, (came R (listed.setIfInBounds k true) = false → S w) → wpAnyU P md ops Q S R fuel (listed.setIfInBounds k true) a w → K' a w) → if Region.wanted ok (yielded ops a.tmps) = true then Oper.wp P ok a w K' Q else K' (a.put ok.dst undef) w) :
    wpAnyU P md ops Q S R (fuel + 1) listed a w :=
  all hr (by simp) (fun m hm => by
    rw [List.mem_cons, List.mem_cons, List.mem_singleton] at hm
    rcases hm with rfl | rfl | rfl
    · exact wpOp_step hi (fun K' hK => h1 K' (fun a w hS hW => hK a w ⟨hS, hW⟩))
    · exact wpOp_step hj (fun K' hK => h2 K' (fun a w hS hW => hK a w ⟨hS, hW⟩))
    · exact wpOp_step hk (fun K' hK => h3 K' (fun a w hS hW => hK a w ⟨hS, hW⟩)))
/-- all orders end in one kind of state, from which the walk goes on once -/
theorem start_key {id : Nat} {a : Act} {w : World} (Good : Act → World → Prop) (S : World → Prop) (R : List Nat) (hm : P.follows .mixedOrders = true)
    (hgood : ∀ a' w', Good a' w' → Q .normal a' w')
    (h : (∀ a' w', Good a' w' → Q .normal a' w') → wpAnyU P .any ops Q S R ops.size (Array.replicate ops.size false) a { w with drawn := w.drawn + 1 }) : (Code.region id ops true).wp P Q a w :=
  start S R hm (h hgood)
end Go.Un
namespace Go.Proofs.YtkaajgcjdgjcbaaGreatDoor.Wh
open Go.RowKit Go.Proofs.YtkaajgcjdgjcbaaGreatDoor.Dig Go.Proofs.YtkaajgcjdgjcbaaGreatDoor.W Go.Proofs.YtkaajgcjdgjcbaaGreatDoor.Nat
/-- two pairs of cells that are read -/
def C4 (w : World) (g g' : Nat) (u v u' v' : Value) : Prop := w.cell? ⟨g, 0, none⟩ = some u ∧ w.cell? ⟨g, 1, none⟩ = some v ∧ w.cell? ⟨g', 0, none⟩ = some u' ∧ w.cell? ⟨g', 1, none⟩ = some v'
theorem C4.keep {w w' : World} {g g' : Nat} {u v u' v' : Value} (h : C4 w g g' u v u' v') (hb : Below w.heap.size w w') : C4 w' g g' u v u' v' :=
  ⟨cell_keep hb h.1, cell_keep hb h.2.1, cell_keep hb h.2.2.1, cell_keep hb h.2.2.2⟩
/-- a row of numbers stands beside a struct's cells -/
theorem si_two {w : World} {k : IntKind} {A : Option Addr} {n c g : Nat} {l : List Nat} {t : TypeId} {b : Bool} {X : Option Addr} {y z : Nat} (h : SI w k A n c l) (hT : Two w g t (.bool b) (.slice X y z)) (u v : Value) :
    SI ((w.setCell ⟨g, 0, none⟩ u).setCell ⟨g, 1, none⟩ v) k A n c l :=
  ⟨h.1, h.2, h.3, fun hn => by
    obtain ⟨b', o, e, hc⟩ := h.4 hn
    refine ⟨b', o, e, fun i x hx => ?_⟩
    have h0 := hc i x hx
    have hi : ∃ q : Nat, x = .int k (q : Nat) := by
      unfold nums at hx
      rw [List.getElem?_map] at hx
      cases hl : l[i]? with
      | none => rw [hl] at hx; cases hx
      | some q => rw [hl] at hx; exact ⟨q, by simpa using hx.symm⟩
    obtain ⟨q, rfl⟩ := hi
    have n0 : (⟨b', o + i, none⟩ : Addr) ≠ ⟨g, 0, none⟩ := fun he => by
      rw [he, hT.c0] at h0
      cases h0
    have n1 : (⟨b', o + i, none⟩ : Addr) ≠ ⟨g, 1, none⟩ := fun he => by
      rw [he, hT.c1] at h0
      cases h0
    rw [World.cell?_setCell_other _ _ _ _ (fun he => n1 he.symm), World.cell?_setCell_other _ _ _ _ (fun he => n0 he.symm)]
    exact h0⟩
end Go.Proofs.YtkaajgcjdgjcbaaGreatDoor.Wh

/- The document's answer of layer 2, on: Cmp. -/
namespace Go.Proofs.YtkaajgcjdgjcbaaGreatDoor.Rw
open Go.RowKit Go.Proofs.YtkaajgcjdgjcbaaGreatDoor.Dig Go.Proofs.YtkaajgcjdgjcbaaGreatDoor.W Go.Proofs.YtkaajgcjdgjcbaaGreatDoor.Nat Go.Proofs.YtkaajgcjdgjcbaaGreatDoor.Wh
open Go.Proofs.YtkaajgcjdgjcbaaGreatDoor.Rf (V V_two V_pos)

theorem on' {w W W' : World} (h : Below w.heap.size w W) (b : Below W.heap.size W W') : Below w.heap.size w W' := h.trans (b.mono h.size)
/-- what Cmp holds on to -/
structure CV (w X : World) (u v u' v' : Value) : Prop where
  a : Two X w.heap.size 28 u v
  b : Two X (w.heap.size + 1) 28 u' v'
  bl : Below w.heap.size w X
theorem CV.below {w X X' : World} {u v u' v' : Value} (h : CV w X u v u' v') (hb : Below X.heap.size X X') : CV w X' u v u' v' := ⟨h.a.below hb, h.b.below hb, on' h.bl hb⟩
theorem CV.s4 {w X : World} {u v u' v' : Value} (h : CV w X u v u' v') : C4 X w.heap.size (w.heap.size + 1) u v u' v' := ⟨h.a.c0, h.a.c1, h.b.c0, h.b.c1⟩
theorem CV.start (w : World) (u v u' v' : Value) : CV w ((w.alloc (.cells #[u, v] 28)).alloc (.cells #[u', v'] 28)) u v u' v' :=
  ⟨(two12 w u v u' v' _ _).1, (two12 w u v u' v' _ _).2, below12' w _ _⟩
/-- a sum of known sign -/
def GS (w : World) (b : Bool) (ok : Nat → Prop) (e : Ending) (w' : World) : Prop := ∃ A n c, e = .returned (.agg #[.bool b, .slice A n c]) ∧ ok n ∧ Below w.heap.size w w'
set_option maxHeartbeats 16000000 in
set_option maxRecDepth 100000 in
theorem rcmp_lt (ng ng' : Bool) (A A' : Option Addr) (n c n' c' : Nat) (z : Int) (w : World)
    (hN : ∀ v : World, Below w.heap.size w v → Calls Tryz.prog 17 #[.agg #[.bool ng', .slice A' n' c']] v (GivesR v z))
    (hA : ∀ (A8 : Option Addr) (n8 c8 : Nat) (v : World), Below w.heap.size w v → SI v .u32 A8 n8 c8 (digs V z.natAbs) → Calls Tryz.prog 19 #[.agg #[.bool ng, .slice A n c], .agg #[.bool (decide (z < 0)), .slice A8 n8 c8]] v (GS v true (fun n => 0 < n))) :
    Calls Tryz.prog 24 #[.agg #[.bool ng, .slice A n c], .agg #[.bool ng', .slice A' n' c']] w fun e w' => e = .returned (.int .i64 (-1)) ∧ Below w.heap.size w w' := by
  have HN := Lib.hid hN
  have HA := Lib.hid hA
  have C0 := CV.start w (.bool ng) (.slice A n c) (.bool ng') (.slice A' n' c')
  obtain ⟨W, hW⟩ : ∃ W, W = (w.alloc (.cells #[.bool ng, .slice A n c] 28)).alloc (.cells #[.bool ng', .slice A' n' c'] 28) := ⟨_, rfl⟩
  rw [← hW] at C0
  have HW := Lib.hid hW
  clear hN hA hW
  go_enter Tryz.func24, Tryz.ntmps24
  go_wp2
  rw [← HW.out]
  clear HW
  have D0 := C0.below (Below.refl W.heap.size W).drew
  clear C0
  refine Go.Un.start (fun w' => C4 w' w.heap.size (w.heap.size + 1) (.bool ng) (.slice A n c) (.bool ng') (.slice A' n' c')) [5] (by rfl) ?_
  have hS := D0.s4
  obtain ⟨v0, hv0⟩ : ∃ v0, v0 = W.drew := ⟨_, rfl⟩
  rw [← hv0] at D0 hS
  change Go.Un.wpAnyU _ _ _ _ _ _ _ _ _ W.drew
  rw [← hv0]
  clear hv0
  refine Go.Un.take [5] (i := 0) (v := ?_) rfl (by kernel_rfl) (by kernel_rfl) (by kernel_rfl) (by kernel_rfl) (by kernel_rfl) (fun _ _ _ h => h) (Or.inl ⟨by rfl, ?_⟩) hS ?_
  rotate_left
  · intro w hSw
    obtain ⟨s1, s2, s3, s4⟩ := hSw
    go_simp
    try with_reducible rfl
  try simp only [Act.put, List.setIfInBounds_toArray, List.set_cons_zero, List.set_cons_succ]
  refine Go.Un.take [5] (i := 1) (v := ?_) rfl (by kernel_rfl) (by kernel_rfl) (by kernel_rfl) (by kernel_rfl) (by kernel_rfl) (fun _ _ _ h => h) (Or.inl ⟨by rfl, ?_⟩) hS ?_
  rotate_left
  · intro w hSw
    obtain ⟨s1, s2, s3, s4⟩ := hSw
    go_simp
    try with_reducible rfl
  try simp only [Act.put, List.setIfInBounds_toArray, List.set_cons_zero, List.set_cons_succ]
  refine Go.Un.two (i := 2) (j := 4) rfl rfl (by kernel_rfl) (fun K hK => ?_) (fun K hK => ?_)
  · go_simp
    go_at_call 17; (with_reducible refine (HN.out v0 D0.bl).mono ?_); rintro e v1 ⟨A8, n8, c8, rfl, r8, _, bb⟩
    have D1 := D0.below bb
    refine hK.out _ _ (fun _ => D1.s4) ?_
    clear hK
    clear K
    clear bb
    try simp only [Act.put, List.setIfInBounds_toArray, List.set_cons_zero, List.set_cons_succ]
    refine Go.Un.two (i := 3) (j := 4) rfl rfl (by kernel_rfl) (fun K hK => ?_) (fun K hK => ?_)
    · go_simp
      go_at_call 19; (with_reducible refine (HA.out A8 n8 c8 v1 D1.bl r8).mono ?_); rintro e v2 ⟨A9, n9, c9, rfl, hn9, bb⟩; have hn9p : 0 < n9 := hn9
      have D2 := D1.below bb
      have r8_2 := r8.below bb
      refine hK.out _ _ (fun _ => D2.s4) ?_
      clear hK
      clear K
      clear bb
      try simp only [Act.put, List.setIfInBounds_toArray, List.set_cons_zero, List.set_cons_succ]
      refine Go.Un.one (i := 4) rfl (by kernel_rfl) (fun K hK => ?_)
      go_simp
      refine hK.out _ _ (fun _ => (D2.below (alloc_below _ _)).s4) ?_
      clear hK
      clear K
      try simp only [Act.put, List.setIfInBounds_toArray, List.set_cons_zero, List.set_cons_succ]
      have ab := alloc_below v2 (.cells #[.bool false, .slice none 0 0] 28)
      have T := Two.start v2 (.bool false) (.slice none 0 0) 28
      have hg := D2.bl.size
      have D3 := D2.below ab
      have r8_3 := r8_2.below ab
      clear ab
      generalize v2.heap.size = g5 at *
      generalize v2.alloc (.cells #[.bool false, .slice none 0 0] 28) = v3 at *
      have q0 := T.c0
      have q1 := T.c1
      have f0 := T.f0
      have f1 := T.f1
      have X5 := T.store (.bool true) (.slice A9 n9 c9)
      have B5 := (D3.bl.setCell (p := ⟨g5, 0, none⟩) hg (.bool true)).setCell (p := ⟨g5, 1, none⟩) hg (.slice A9 n9 c9)
      refine Go.Un.one (i := 5) rfl (by kernel_rfl) (fun K hK => ?_)
      go_simp
      refine hK.out _ _ (fun h => by exact absurd h (by decide)) ?_
      clear hK
      clear K
      try simp only [Act.put, List.setIfInBounds_toArray, List.set_cons_zero, List.set_cons_succ]
      refine Go.Un.done (by kernel_rfl) ?_ _
      clear q0 q1 f0 f1
      generalize ((v3.setCell _ _).setCell _ _) = u1 at *
      have z0 := X5.c0
      have z1 := X5.c1
      go_wp2
      go_ret
      exact ⟨rfl, B5⟩
    · go_simp
      refine hK.out _ _ (fun _ => (D1.below (alloc_below _ _)).s4) ?_
      clear hK
      clear K
      try simp only [Act.put, List.setIfInBounds_toArray, List.set_cons_zero, List.set_cons_succ]
      have ab := alloc_below v1 (.cells #[.bool false, .slice none 0 0] 28)
      have T := Two.start v1 (.bool false) (.slice none 0 0) 28
      have hg := D1.bl.size
      have D2 := D1.below ab
      have r8_2 := r8.below ab
      clear ab
      generalize v1.heap.size = g5 at *
      generalize v1.alloc (.cells #[.bool false, .slice none 0 0] 28) = v2 at *
      refine Go.Un.one (i := 3) rfl (by kernel_rfl) (fun K hK => ?_)
      go_simp
      go_at_call 19; (with_reducible refine (HA.out A8 n8 c8 v2 D2.bl r8_2).mono ?_); rintro e v3 ⟨A9, n9, c9, rfl, hn9, bb⟩; have hn9p : 0 < n9 := hn9
      have D3 := D2.below bb
      have T_3 := T.below bb
      have r8_3 := r8_2.below bb
      refine hK.out _ _ (fun _ => D3.s4) ?_
      clear hK
      clear K
      clear bb
      try simp only [Act.put, List.setIfInBounds_toArray, List.set_cons_zero, List.set_cons_succ]
      have q0 := T_3.c0
      have q1 := T_3.c1
      have f0 := T_3.f0
      have f1 := T_3.f1
      have X5 := T_3.store (.bool true) (.slice A9 n9 c9)
      have B5 := (D3.bl.setCell (p := ⟨g5, 0, none⟩) hg (.bool true)).setCell (p := ⟨g5, 1, none⟩) hg (.slice A9 n9 c9)
      refine Go.Un.one (i := 5) rfl (by kernel_rfl) (fun K hK => ?_)
      go_simp
      refine hK.out _ _ (fun h => by exact absurd h (by decide)) ?_
      clear hK
      clear K
      try simp only [Act.put, List.setIfInBounds_toArray, List.set_cons_zero, List.set_cons_succ]
      refine Go.Un.done (by kernel_rfl) ?_ _
      clear q0 q1 f0 f1
      generalize ((v3.setCell _ _).setCell _ _) = u1 at *
      have z0 := X5.c0
      have z1 := X5.c1
      go_wp2
      go_ret
      exact ⟨rfl, B5⟩
  · go_simp
    refine hK.out _ _ (fun _ => (D0.below (alloc_below _ _)).s4) ?_
    clear hK
    clear K
    try simp only [Act.put, List.setIfInBounds_toArray, List.set_cons_zero, List.set_cons_succ]
    have ab := alloc_below v0 (.cells #[.bool false, .slice none 0 0] 28)
    have T := Two.start v0 (.bool false) (.slice none 0 0) 28
    have hg := D0.bl.size
    have D1 := D0.below ab
    clear ab
    generalize v0.heap.size = g5 at *
    generalize v0.alloc (.cells #[.bool false, .slice none 0 0] 28) = v1 at *
    refine Go.Un.one (i := 2) rfl (by kernel_rfl) (fun K hK => ?_)
    go_simp
    go_at_call 17; (with_reducible refine (HN.out v1 D1.bl).mono ?_); rintro e v2 ⟨A8, n8, c8, rfl, r8, _, bb⟩
    have D2 := D1.below bb
    have T_2 := T.below bb
    refine hK.out _ _ (fun _ => D2.s4) ?_
    clear hK
    clear K
    clear bb
    try simp only [Act.put, List.setIfInBounds_toArray, List.set_cons_zero, List.set_cons_succ]
    refine Go.Un.one (i := 3) rfl (by kernel_rfl) (fun K hK => ?_)
    go_simp
    go_at_call 19; (with_reducible refine (HA.out A8 n8 c8 v2 D2.bl r8).mono ?_); rintro e v3 ⟨A9, n9, c9, rfl, hn9, bb⟩; have hn9p : 0 < n9 := hn9
    have D3 := D2.below bb
    have T_3 := T_2.below bb
    have r8_3 := r8.below bb
    refine hK.out _ _ (fun _ => D3.s4) ?_
    clear hK
    clear K
    clear bb
    try simp only [Act.put, List.setIfInBounds_toArray, List.set_cons_zero, List.set_cons_succ]
    have q0 := T_3.c0
    have q1 := T_3.c1
    have f0 := T_3.f0
    have f1 := T_3.f1
    have X5 := T_3.store (.bool true) (.slice A9 n9 c9)
    have B5 := (D3.bl.setCell (p := ⟨g5, 0, none⟩) hg (.bool true)).setCell (p := ⟨g5, 1, none⟩) hg (.slice A9 n9 c9)
    refine Go.Un.one (i := 5) rfl (by kernel_rfl) (fun K hK => ?_)
    go_simp
    refine hK.out _ _ (fun h => by exact absurd h (by decide)) ?_
    clear hK
    clear K
    try simp only [Act.put, List.setIfInBounds_toArray, List.set_cons_zero, List.set_cons_succ]
    refine Go.Un.done (by kernel_rfl) ?_ _
    clear q0 q1 f0 f1
    generalize ((v3.setCell _ _).setCell _ _) = u1 at *
    have z0 := X5.c0
    have z1 := X5.c1
    go_wp2
    go_ret
    exact ⟨rfl, B5⟩
set_option maxHeartbeats 16000000 in
set_option maxRecDepth 100000 in
theorem rcmp_eq (ng ng' : Bool) (A A' : Option Addr) (n c n' c' : Nat) (z : Int) (w : World)
    (hN : ∀ v : World, Below w.heap.size w v → Calls Tryz.prog 17 #[.agg #[.bool ng', .slice A' n' c']] v (GivesR v z))
    (hA : ∀ (A8 : Option Addr) (n8 c8 : Nat) (v : World), Below w.heap.size w v → SI v .u32 A8 n8 c8 (digs V z.natAbs) → Calls Tryz.prog 19 #[.agg #[.bool ng, .slice A n c], .agg #[.bool (decide (z < 0)), .slice A8 n8 c8]] v (GS v false (fun n => n = 0))) :
    Calls Tryz.prog 24 #[.agg #[.bool ng, .slice A n c], .agg #[.bool ng', .slice A' n' c']] w fun e w' => e = .returned (.int .i64 (0)) ∧ Below w.heap.size w w' := by
  have HN := Lib.hid hN
  have HA := Lib.hid hA
  have C0 := CV.start w (.bool ng) (.slice A n c) (.bool ng') (.slice A' n' c')
  obtain ⟨W, hW⟩ : ∃ W, W = (w.alloc (.cells #[.bool ng, .slice A n c] 28)).alloc (.cells #[.bool ng', .slice A' n' c'] 28) := ⟨_, rfl⟩
  rw [← hW] at C0
  have HW := Lib.hid hW
  clear hN hA hW
  go_enter Tryz.func24, Tryz.ntmps24
  go_wp2
  rw [← HW.out]
  clear HW
  have D0 := C0.below (Below.refl W.heap.size W).drew
  clear C0
  refine Go.Un.start (fun w' => C4 w' w.heap.size (w.heap.size + 1) (.bool ng) (.slice A n c) (.bool ng') (.slice A' n' c')) [5] (by rfl) ?_
  have hS := D0.s4
  obtain ⟨v0, hv0⟩ : ∃ v0, v0 = W.drew := ⟨_, rfl⟩
  rw [← hv0] at D0 hS
  change Go.Un.wpAnyU _ _ _ _ _ _ _ _ _ W.drew
  rw [← hv0]
  clear hv0
  refine Go.Un.take [5] (i := 0) (v := ?_) rfl (by kernel_rfl) (by kernel_rfl) (by kernel_rfl) (by kernel_rfl) (by kernel_rfl) (fun _ _ _ h => h) (Or.inl ⟨by rfl, ?_⟩) hS ?_
  rotate_left
  · intro w hSw
    obtain ⟨s1, s2, s3, s4⟩ := hSw
    go_simp
    try with_reducible rfl
  try simp only [Act.put, List.setIfInBounds_toArray, List.set_cons_zero, List.set_cons_succ]
  refine Go.Un.take [5] (i := 1) (v := ?_) rfl (by kernel_rfl) (by kernel_rfl) (by kernel_rfl) (by kernel_rfl) (by kernel_rfl) (fun _ _ _ h => h) (Or.inl ⟨by rfl, ?_⟩) hS ?_
  rotate_left
  · intro w hSw
    obtain ⟨s1, s2, s3, s4⟩ := hSw
    go_simp
    try with_reducible rfl
  try simp only [Act.put, List.setIfInBounds_toArray, List.set_cons_zero, List.set_cons_succ]
  refine Go.Un.two (i := 2) (j := 4) rfl rfl (by kernel_rfl) (fun K hK => ?_) (fun K hK => ?_)
  · go_simp
    go_at_call 17; (with_reducible refine (HN.out v0 D0.bl).mono ?_); rintro e v1 ⟨A8, n8, c8, rfl, r8, _, bb⟩
    have D1 := D0.below bb
    refine hK.out _ _ (fun _ => D1.s4) ?_
    clear hK
    clear K
    clear bb
    try simp only [Act.put, List.setIfInBounds_toArray, List.set_cons_zero, List.set_cons_succ]
    refine Go.Un.two (i := 3) (j := 4) rfl rfl (by kernel_rfl) (fun K hK => ?_) (fun K hK => ?_)
    · go_simp
      go_at_call 19; (with_reducible refine (HA.out A8 n8 c8 v1 D1.bl r8).mono ?_); rintro e v2 ⟨A9, n9, c9, rfl, hn9, bb⟩; obtain rfl : n9 = 0 := hn9
      have D2 := D1.below bb
      have r8_2 := r8.below bb
      refine hK.out _ _ (fun _ => D2.s4) ?_
      clear hK
      clear K
      clear bb
      try simp only [Act.put, List.setIfInBounds_toArray, List.set_cons_zero, List.set_cons_succ]
      refine Go.Un.one (i := 4) rfl (by kernel_rfl) (fun K hK => ?_)
      go_simp
      refine hK.out _ _ (fun _ => (D2.below (alloc_below _ _)).s4) ?_
      clear hK
      clear K
      try simp only [Act.put, List.setIfInBounds_toArray, List.set_cons_zero, List.set_cons_succ]
      have ab := alloc_below v2 (.cells #[.bool false, .slice none 0 0] 28)
      have T := Two.start v2 (.bool false) (.slice none 0 0) 28
      have hg := D2.bl.size
      have D3 := D2.below ab
      have r8_3 := r8_2.below ab
      clear ab
      generalize v2.heap.size = g5 at *
      generalize v2.alloc (.cells #[.bool false, .slice none 0 0] 28) = v3 at *
      have q0 := T.c0
      have q1 := T.c1
      have f0 := T.f0
      have f1 := T.f1
      have X5 := T.store (.bool false) (.slice A9 0 c9)
      have B5 := (D3.bl.setCell (p := ⟨g5, 0, none⟩) hg (.bool false)).setCell (p := ⟨g5, 1, none⟩) hg (.slice A9 0 c9)
      refine Go.Un.one (i := 5) rfl (by kernel_rfl) (fun K hK => ?_)
      go_simp
      refine hK.out _ _ (fun h => by exact absurd h (by decide)) ?_
      clear hK
      clear K
      try simp only [Act.put, List.setIfInBounds_toArray, List.set_cons_zero, List.set_cons_succ]
      refine Go.Un.done (by kernel_rfl) ?_ _
      clear q0 q1 f0 f1
      generalize ((v3.setCell _ _).setCell _ _) = u1 at *
      have z0 := X5.c0
      have z1 := X5.c1
      go_wp2
      go_ret
      exact ⟨rfl, B5⟩
    · go_simp
      refine hK.out _ _ (fun _ => (D1.below (alloc_below _ _)).s4) ?_
      clear hK
      clear K
      try simp only [Act.put, List.setIfInBounds_toArray, List.set_cons_zero, List.set_cons_succ]
      have ab := alloc_below v1 (.cells #[.bool false, .slice none 0 0] 28)
      have T := Two.start v1 (.bool false) (.slice none 0 0) 28
      have hg := D1.bl.size
      have D2 := D1.below ab
      have r8_2 := r8.below ab
      clear ab
      generalize v1.heap.size = g5 at *
      generalize v1.alloc (.cells #[.bool false, .slice none 0 0] 28) = v2 at *
      refine Go.Un.one (i := 3) rfl (by kernel_rfl) (fun K hK => ?_)
      go_simp
      go_at_call 19; (with_reducible refine (HA.out A8 n8 c8 v2 D2.bl r8_2).mono ?_); rintro e v3 ⟨A9, n9, c9, rfl, hn9, bb⟩; obtain rfl : n9 = 0 := hn9
      have D3 := D2.below bb
      have T_3 := T.below bb
      have r8_3 := r8_2.below bb
      refine hK.out _ _ (fun _ => D3.s4) ?_
      clear hK
      clear K
      clear bb
      try simp only [Act.put, List.setIfInBounds_toArray, List.set_cons_zero, List.set_cons_succ]
      have q0 := T_3.c0
      have q1 := T_3.c1
      have f0 := T_3.f0
      have f1 := T_3.f1
      have X5 := T_3.store (.bool false) (.slice A9 0 c9)
      have B5 := (D3.bl.setCell (p := ⟨g5, 0, none⟩) hg (.bool false)).setCell (p := ⟨g5, 1, none⟩) hg (.slice A9 0 c9)
      refine Go.Un.one (i := 5) rfl (by kernel_rfl) (fun K hK => ?_)
      go_simp
      refine hK.out _ _ (fun h => by exact absurd h (by decide)) ?_
      clear hK
      clear K
      try simp only [Act.put, List.setIfInBounds_toArray, List.set_cons_zero, List.set_cons_succ]
      refine Go.Un.done (by kernel_rfl) ?_ _
      clear q0 q1 f0 f1
      generalize ((v3.setCell _ _).setCell _ _) = u1 at *
      have z0 := X5.c0
      have z1 := X5.c1
      go_wp2
      go_ret
      exact ⟨rfl, B5⟩
  · go_simp
    refine hK.out _ _ (fun _ => (D0.below (alloc_below _ _)).s4) ?_
    clear hK
    clear K
    try simp only [Act.put, List.setIfInBounds_toArray, List.set_cons_zero, List.set_cons_succ]
    have ab := alloc_below v0 (.cells #[.bool false, .slice none 0 0] 28)
    have T := Two.start v0 (.bool false) (.slice none 0 0) 28
    have hg := D0.bl.size
    have D1 := D0.below ab
    clear ab
    generalize v0.heap.size = g5 at *
    generalize v0.alloc (.cells #[.bool false, .slice none 0 0] 28) = v1 at *
    refine Go.Un.one (i := 2) rfl (by kernel_rfl) (fun K hK => ?_)
    go_simp
    go_at_call 17; (with_reducible refine (HN.out v1 D1.bl).mono ?_); rintro e v2 ⟨A8, n8, c8, rfl, r8, _, bb⟩
    have D2 := D1.below bb
    have T_2 := T.below bb
    refine hK.out _ _ (fun _ => D2.s4) ?_
    clear hK
    clear K
    clear bb
    try simp only [Act.put, List.setIfInBounds_toArray, List.set_cons_zero, List.set_cons_succ]
    refine Go.Un.one (i := 3) rfl (by kernel_rfl) (fun K hK => ?_)
    go_simp
    go_at_call 19; (with_reducible refine (HA.out A8 n8 c8 v2 D2.bl r8).mono ?_); rintro e v3 ⟨A9, n9, c9, rfl, hn9, bb⟩; obtain rfl : n9 = 0 := hn9
    have D3 := D2.below bb
    have T_3 := T_2.below bb
    have r8_3 := r8.below bb
    refine hK.out _ _ (fun _ => D3.s4) ?_
    clear hK
    clear K
    clear bb
    try simp only [Act.put, List.setIfInBounds_toArray, List.set_cons_zero, List.set_cons_succ]
    have q0 := T_3.c0
    have q1 := T_3.c1
    have f0 := T_3.f0
    have f1 := T_3.f1
    have X5 := T_3.store (.bool false) (.slice A9 0 c9)
    have B5 := (D3.bl.setCell (p := ⟨g5, 0, none⟩) hg (.bool false)).setCell (p := ⟨g5, 1, none⟩) hg (.slice A9 0 c9)
    refine Go.Un.one (i := 5) rfl (by kernel_rfl) (fun K hK => ?_)
    go_simp
    refine hK.out _ _ (fun h => by exact absurd h (by decide)) ?_
    clear hK
    clear K
    try simp only [Act.put, List.setIfInBounds_toArray, List.set_cons_zero, List.set_cons_succ]
    refine Go.Un.done (by kernel_rfl) ?_ _
    clear q0 q1 f0 f1
    generalize ((v3.setCell _ _).setCell _ _) = u1 at *
    have z0 := X5.c0
    have z1 := X5.c1
    go_wp2
    go_ret
    exact ⟨rfl, B5⟩
set_option maxHeartbeats 16000000 in
set_option maxRecDepth 100000 in
theorem rcmp_gt (ng ng' : Bool) (A A' : Option Addr) (n c n' c' : Nat) (z : Int) (w : World)
    (hN : ∀ v : World, Below w.heap.size w v → Calls Tryz.prog 17 #[.agg #[.bool ng', .slice A' n' c']] v (GivesR v z))
    (hA : ∀ (A8 : Option Addr) (n8 c8 : Nat) (v : World), Below w.heap.size w v → SI v .u32 A8 n8 c8 (digs V z.natAbs) → Calls Tryz.prog 19 #[.agg #[.bool ng, .slice A n c], .agg #[.bool (decide (z < 0)), .slice A8 n8 c8]] v (GS v false (fun n => 0 < n))) :
    Calls Tryz.prog 24 #[.agg #[.bool ng, .slice A n c], .agg #[.bool ng', .slice A' n' c']] w fun e w' => e = .returned (.int .i64 (1)) ∧ Below w.heap.size w w' := by
  have HN := Lib.hid hN
  have HA := Lib.hid hA
  have C0 := CV.start w (.bool ng) (.slice A n c) (.bool ng') (.slice A' n' c')
  obtain ⟨W, hW⟩ : ∃ W, W = (w.alloc (.cells #[.bool ng, .slice A n c] 28)).alloc (.cells #[.bool ng', .slice A' n' c'] 28) := ⟨_, rfl⟩
  rw [← hW] at C0
  have HW := Lib.hid hW
  clear hN hA hW
  go_enter Tryz.func24, Tryz.ntmps24
  go_wp2
  rw [← HW.out]
  clear HW
  have D0 := C0.below (Below.refl W.heap.size W).drew
  clear C0
  refine Go.Un.start (fun w' => C4 w' w.heap.size (w.heap.size + 1) (.bool ng) (.slice A n c) (.bool ng') (.slice A' n' c')) [5] (by rfl) ?_
  have hS := D0.s4
  obtain ⟨v0, hv0⟩ : ∃ v0, v0 = W.drew := ⟨_, rfl⟩
  rw [← hv0] at D0 hS
  change Go.Un.wpAnyU _ _ _ _ _ _ _ _ _ W.drew
  rw [← hv0]
  clear hv0
  refine Go.Un.take [5] (i := 0) (v := ?_) rfl (by kernel_rfl) (by kernel_rfl) (by kernel_rfl) (by kernel_rfl) (by kernel_rfl) (fun _ _ _ h => h) (Or.inl ⟨by rfl, ?_⟩) hS ?_
  rotate_left
  · intro w hSw
    obtain ⟨s1, s2, s3, s4⟩ := hSw
    go_simp
    try with_reducible rfl
  try simp only [Act.put, List.setIfInBounds_toArray, List.set_cons_zero, List.set_cons_succ]
  refine Go.Un.take [5] (i := 1) (v := ?_) rfl (by kernel_rfl) (by kernel_rfl) (by kernel_rfl) (by kernel_rfl) (by kernel_rfl) (fun _ _ _ h => h) (Or.inl ⟨by rfl, ?_⟩) hS ?_
  rotate_left
  · intro w hSw
    obtain ⟨s1, s2, s3, s4⟩ := hSw
    go_simp
    try with_reducible rfl
  try simp only [Act.put, List.setIfInBounds_toArray, List.set_cons_zero, List.set_cons_succ]
  refine Go.Un.two (i := 2) (j := 4) rfl rfl (by kernel_rfl) (fun K hK => ?_) (fun K hK => ?_)
  · go_simp
    go_at_call 17; (with_reducible refine (HN.out v0 D0.bl).mono ?_); rintro e v1 ⟨A8, n8, c8, rfl, r8, _, bb⟩
    have D1 := D0.below bb
    refine hK.out _ _ (fun _ => D1.s4) ?_
    clear hK
    clear K
    clear bb
    try simp only [Act.put, List.setIfInBounds_toArray, List.set_cons_zero, List.set_cons_succ]
    refine Go.Un.two (i := 3) (j := 4) rfl rfl (by kernel_rfl) (fun K hK => ?_) (fun K hK => ?_)
    · go_simp
      go_at_call 19; (with_reducible refine (HA.out A8 n8 c8 v1 D1.bl r8).mono ?_); rintro e v2 ⟨A9, n9, c9, rfl, hn9, bb⟩; have hn9p : 0 < n9 := hn9
      have D2 := D1.below bb
      have r8_2 := r8.below bb
      refine hK.out _ _ (fun _ => D2.s4) ?_
      clear hK
      clear K
      clear bb
      try simp only [Act.put, List.setIfInBounds_toArray, List.set_cons_zero, List.set_cons_succ]
      refine Go.Un.one (i := 4) rfl (by kernel_rfl) (fun K hK => ?_)
      go_simp
      refine hK.out _ _ (fun _ => (D2.below (alloc_below _ _)).s4) ?_
      clear hK
      clear K
      try simp only [Act.put, List.setIfInBounds_toArray, List.set_cons_zero, List.set_cons_succ]
      have ab := alloc_below v2 (.cells #[.bool false, .slice none 0 0] 28)
      have T := Two.start v2 (.bool false) (.slice none 0 0) 28
      have hg := D2.bl.size
      have D3 := D2.below ab
      have r8_3 := r8_2.below ab
      clear ab
      generalize v2.heap.size = g5 at *
      generalize v2.alloc (.cells #[.bool false, .slice none 0 0] 28) = v3 at *
      have q0 := T.c0
      have q1 := T.c1
      have f0 := T.f0
      have f1 := T.f1
      have X5 := T.store (.bool false) (.slice A9 n9 c9)
      have B5 := (D3.bl.setCell (p := ⟨g5, 0, none⟩) hg (.bool false)).setCell (p := ⟨g5, 1, none⟩) hg (.slice A9 n9 c9)
      refine Go.Un.one (i := 5) rfl (by kernel_rfl) (fun K hK => ?_)
      go_simp
      refine hK.out _ _ (fun h => by exact absurd h (by decide)) ?_
      clear hK
      clear K
      try simp only [Act.put, List.setIfInBounds_toArray, List.set_cons_zero, List.set_cons_succ]
      refine Go.Un.done (by kernel_rfl) ?_ _
      clear q0 q1 f0 f1
      generalize ((v3.setCell _ _).setCell _ _) = u1 at *
      have z0 := X5.c0
      have z1 := X5.c1
      go_wp2
      go_ret
      exact ⟨rfl, B5⟩
    · go_simp
      refine hK.out _ _ (fun _ => (D1.below (alloc_below _ _)).s4) ?_
      clear hK
      clear K
      try simp only [Act.put, List.setIfInBounds_toArray, List.set_cons_zero, List.set_cons_succ]
      have ab := alloc_below v1 (.cells #[.bool false, .slice none 0 0] 28)
      have T := Two.start v1 (.bool false) (.slice none 0 0) 28
      have hg := D1.bl.size
      have D2 := D1.below ab
      have r8_2 := r8.below ab
      clear ab
      generalize v1.heap.size = g5 at *
      generalize v1.alloc (.cells #[.bool false, .slice none 0 0] 28) = v2 at *
      refine Go.Un.one (i := 3) rfl (by kernel_rfl) (fun K hK => ?_)
      go_simp
      go_at_call 19; (with_reducible refine (HA.out A8 n8 c8 v2 D2.bl r8_2).mono ?_); rintro e v3 ⟨A9, n9, c9, rfl, hn9, bb⟩; have hn9p : 0 < n9 := hn9
      have D3 := D2.below bb
      have T_3 := T.below bb
      have r8_3 := r8_2.below bb
      refine hK.out _ _ (fun _ => D3.s4) ?_
      clear hK
      clear K
      clear bb
      try simp only [Act.put, List.setIfInBounds_toArray, List.set_cons_zero, List.set_cons_succ]
      have q0 := T_3.c0
      have q1 := T_3.c1
      have f0 := T_3.f0
      have f1 := T_3.f1
      have X5 := T_3.store (.bool false) (.slice A9 n9 c9)
      have B5 := (D3.bl.setCell (p := ⟨g5, 0, none⟩) hg (.bool false)).setCell (p := ⟨g5, 1, none⟩) hg (.slice A9 n9 c9)
      refine Go.Un.one (i := 5) rfl (by kernel_rfl) (fun K hK => ?_)
      go_simp
      refine hK.out _ _ (fun h => by exact absurd h (by decide)) ?_
      clear hK
      clear K
      try simp only [Act.put, List.setIfInBounds_toArray, List.set_cons_zero, List.set_cons_succ]
      refine Go.Un.done (by kernel_rfl) ?_ _
      clear q0 q1 f0 f1
      generalize ((v3.setCell _ _).setCell _ _) = u1 at *
      have z0 := X5.c0
      have z1 := X5.c1
      go_wp2
      go_ret
      exact ⟨rfl, B5⟩
  · go_simp
    refine hK.out _ _ (fun _ => (D0.below (alloc_below _ _)).s4) ?_
    clear hK
    clear K
    try simp only [Act.put, List.setIfInBounds_toArray, List.set_cons_zero, List.set_cons_succ]
    have ab := alloc_below v0 (.cells #[.bool false, .slice none 0 0] 28)
    have T := Two.start v0 (.bool false) (.slice none 0 0) 28
    have hg := D0.bl.size
    have D1 := D0.below ab
    clear ab
    generalize v0.heap.size = g5 at *
    generalize v0.alloc (.cells #[.bool false, .slice none 0 0] 28) = v1 at *
    refine Go.Un.one (i := 2) rfl (by kernel_rfl) (fun K hK => ?_)
    go_simp
    go_at_call 17; (with_reducible refine (HN.out v1 D1.bl).mono ?_); rintro e v2 ⟨A8, n8, c8, rfl, r8, _, bb⟩
    have D2 := D1.below bb
    have T_2 := T.below bb
    refine hK.out _ _ (fun _ => D2.s4) ?_
    clear hK
    clear K
    clear bb
    try simp only [Act.put, List.setIfInBounds_toArray, List.set_cons_zero, List.set_cons_succ]
    refine Go.Un.one (i := 3) rfl (by kernel_rfl) (fun K hK => ?_)
    go_simp
    go_at_call 19; (with_reducible refine (HA.out A8 n8 c8 v2 D2.bl r8).mono ?_); rintro e v3 ⟨A9, n9, c9, rfl, hn9, bb⟩; have hn9p : 0 < n9 := hn9
    have D3 := D2.below bb
    have T_3 := T_2.below bb
    have r8_3 := r8.below bb
    refine hK.out _ _ (fun _ => D3.s4) ?_
    clear hK
    clear K
    clear bb
    try simp only [Act.put, List.setIfInBounds_toArray, List.set_cons_zero, List.set_cons_succ]
    have q0 := T_3.c0
    have q1 := T_3.c1
    have f0 := T_3.f0
    have f1 := T_3.f1
    have X5 := T_3.store (.bool false) (.slice A9 n9 c9)
    have B5 := (D3.bl.setCell (p := ⟨g5, 0, none⟩) hg (.bool false)).setCell (p := ⟨g5, 1, none⟩) hg (.slice A9 n9 c9)
    refine Go.Un.one (i := 5) rfl (by kernel_rfl) (fun K hK => ?_)
    go_simp
    refine hK.out _ _ (fun h => by exact absurd h (by decide)) ?_
    clear hK
    clear K
    try simp only [Act.put, List.setIfInBounds_toArray, List.set_cons_zero, List.set_cons_succ]
    refine Go.Un.done (by kernel_rfl) ?_ _
    clear q0 q1 f0 f1
    generalize ((v3.setCell _ _).setCell _ _) = u1 at *
    have z0 := X5.c0
    have z1 := X5.c1
    go_wp2
    go_ret
    exact ⟨rfl, B5⟩
theorem rcmp_calls (ng ng' : Bool) (A A' : Option Addr) (n c n' c' : Nat) (l l' : List Nat) (w : World) (h : SI w .u32 A n c l) (h' : SI w .u32 A' n' c' l') (hl : Lt V l) (hl' : Lt V l') (hn : n ≤ 1099511627776) (hn' : n' ≤ 1099511627776) :
    Calls Tryz.prog 24 #[.agg #[.bool ng, .slice A n c], .agg #[.bool ng', .slice A' n' c']] w fun e w' => e = .returned (.int .i64 (cmpz (sg ng (val V l)) (sg ng' (val V l')))) ∧ Below w.heap.size w w' := by
  have hN := fun (v : World) (b : Below w.heap.size w v) => rneg_calls ng' A' n' c' l' v (h'.below b) hl' (by omega)
  have hlen : (digs V (-(sg ng' (val V l'))).natAbs).length ≤ 1099511627776 := by rw [Int.natAbs_neg, sg_abs]; exact digs_len_leR hl' h'.len hn'
  have hA : ∀ (A8 : Option Addr) (n8 c8 : Nat) (v : World), Below w.heap.size w v → SI v .u32 A8 n8 c8 (digs V (-(sg ng' (val V l'))).natAbs) →
      Calls Tryz.prog 19 #[.agg #[.bool ng, .slice A n c], .agg #[.bool (decide (-(sg ng' (val V l')) < 0)), .slice A8 n8 c8]] v (GivesR v (sg ng (val V l) - sg ng' (val V l'))) := fun A8 n8 c8 v b r8 => by
    have e := radd_calls ng (decide (-(sg ng' (val V l')) < 0)) A A8 n c n8 c8 l _ v (h.below b) r8 hl (dv _) hn (by rw [← r8.len]; exact hlen)
    rw [val_digs V_two, sg_self, ← Int.sub_eq_add_neg] at e
    exact e
  generalize sg ng (val V l) = x at *
  generalize sg ng' (val V l') = y at *
  rcases Int.lt_trichotomy (x - y) 0 with hv | hv | hv
  · rw [show cmpz x y = -1 by unfold cmpz; rw [if_pos (by omega)]]
    refine rcmp_lt ng ng' A A' n c n' c' (-y) w hN (fun A8 n8 c8 v b r8 => (hA A8 n8 c8 v b r8).mono ?_)
    rintro e w' ⟨A9, n9, c9, rfl, r9, _, b9⟩
    exact ⟨A9, n9, c9, by rw [decide_eq_true hv], by show 0 < n9; rw [← r9.len]; exact digs_length_pos V_two (by omega), b9⟩
  · rw [show cmpz x y = 0 by unfold cmpz; rw [if_neg (by omega), if_neg (by omega)]]
    refine rcmp_eq ng ng' A A' n c n' c' (-y) w hN (fun A8 n8 c8 v b r8 => (hA A8 n8 c8 v b r8).mono ?_)
    rintro e w' ⟨A9, n9, c9, rfl, r9, _, b9⟩
    exact ⟨A9, n9, c9, by rw [decide_eq_false (by omega)], by show n9 = 0; rw [← r9.len, hv]; exact (digs_length_eq_zero V_two).2 rfl, b9⟩
  · rw [show cmpz x y = 1 by unfold cmpz; rw [if_neg (by omega), if_pos (by omega)]]
    refine rcmp_gt ng ng' A A' n c n' c' (-y) w hN (fun A8 n8 c8 v b r8 => (hA A8 n8 c8 v b r8).mono ?_)
    rintro e w' ⟨A9, n9, c9, rfl, r9, _, b9⟩
    exact ⟨A9, n9, c9, by rw [decide_eq_false (by omega)], by show 0 < n9; rw [← r9.len]; exact digs_length_pos V_two (by omega), b9⟩
end Go.Proofs.YtkaajgcjdgjcbaaGreatDoor.Rw

/- Layer 2's laws: WholeReckons. -/
namespace Go.Proofs.YtkaajgcjdgjcbaaGreatDoor.Aw
open Go.RowKit Go.Proofs.YtkaajgcjdgjcbaaGreatDoor.Dig Go.Proofs.YtkaajgcjdgjcbaaGreatDoor.W Go.Proofs.YtkaajgcjdgjcbaaGreatDoor.Nat Go.Proofs.YtkaajgcjdgjcbaaGreatDoor.Wh Go.Proofs.YtkaajgcjdgjcbaaGreatDoor.Td Go.Proofs.YtkaajgcjdgjcbaaGreatDoor.Bu Go.Proofs.YtkaajgcjdgjcbaaGreatDoor.Tx
open Go.Proofs.YtkaajgcjdgjcbaaGreatDoor.Rf (V V_two V_pos)

/-- what the law holds on to -/
structure RV (w X : World) (b5 b6 : Nat) (ng : Bool) (A : Option Addr) (n c : Nat) (ng' : Bool) (A' : Option Addr) (n' c' : Nat) (x y : Int) (A4 : Option Addr) (n4 c4 : Nat) (A5 : Option Addr) (n5 c5 : Nat) : Prop where
  a : Two X w.heap.size 24 (.bool ng) (.slice A n c)
  b : Two X (w.heap.size + 1) 24 (.bool ng') (.slice A' n' c')
  j5 : Two X b5 28 (.bool (decide (x < 0))) (.slice A4 n4 c4)
  j6 : Two X b6 28 (.bool (decide (y < 0))) (.slice A5 n5 c5)
  r4 : SI X .u32 A4 n4 c4 (digs V x.natAbs)
  r5 : SI X .u32 A5 n5 c5 (digs V y.natAbs)
  bl : Below w.heap.size w X
section
variable {w X X' : World} {b5 b6 : Nat} {ng : Bool} {A : Option Addr} {n c : Nat} {ng' : Bool} {A' : Option Addr} {n' c' : Nat} {x y : Int} {A4 : Option Addr} {n4 c4 : Nat} {A5 : Option Addr} {n5 c5 : Nat}
theorem RV.below (h : RV w X b5 b6 ng A n c ng' A' n' c' x y A4 n4 c4 A5 n5 c5) (hb : Below X.heap.size X X') : RV w X' b5 b6 ng A n c ng' A' n' c' x y A4 n4 c4 A5 n5 c5 :=
  ⟨h.a.below hb, h.b.below hb, h.j5.below hb, h.j6.below hb, h.r4.below hb, h.r5.below hb, on h.bl hb⟩
/-- the cells that are read -/
def C8 (w : World) (g b5 b6 : Nat) (u v u' v' s t s' t' : Value) : Prop := w.cell? ⟨g, 0, none⟩ = some u ∧ w.cell? ⟨g, 1, none⟩ = some v ∧ w.cell? ⟨g + 1, 0, none⟩ = some u' ∧ w.cell? ⟨g + 1, 1, none⟩ = some v' ∧
  w.cell? ⟨b5, 0, none⟩ = some s ∧ w.cell? ⟨b5, 1, none⟩ = some t ∧ w.cell? ⟨b6, 0, none⟩ = some s' ∧ w.cell? ⟨b6, 1, none⟩ = some t'
theorem RV.s8 (h : RV w X b5 b6 ng A n c ng' A' n' c' x y A4 n4 c4 A5 n5 c5) : C8 X w.heap.size b5 b6 (.bool ng) (.slice A n c) (.bool ng') (.slice A' n' c') (.bool (decide (x < 0))) (.slice A4 n4 c4) (.bool (decide (y < 0))) (.slice A5 n5 c5) :=
  ⟨h.a.c0, h.a.c1, h.b.c0, h.b.c1, h.j5.c0, h.j5.c1, h.j6.c0, h.j6.c1⟩
end
structure PV (w X : World) (ng : Bool) (A : Option Addr) (n c : Nat) (ng' : Bool) (A' : Option Addr) (n' c' : Nat) : Prop where
  a : Two X w.heap.size 24 (.bool ng) (.slice A n c)
  b : Two X (w.heap.size + 1) 24 (.bool ng') (.slice A' n' c')
  bl : Below w.heap.size w X
section
variable {w X X' : World} {ng : Bool} {A : Option Addr} {n c : Nat} {ng' : Bool} {A' : Option Addr} {n' c' : Nat}
theorem PV.below (h : PV w X ng A n c ng' A' n' c') (hb : Below X.heap.size X X') : PV w X' ng A n c ng' A' n' c' := ⟨h.a.below hb, h.b.below hb, on h.bl hb⟩
theorem PV.s4 (h : PV w X ng A n c ng' A' n' c') : C4 X w.heap.size (w.heap.size + 1) (.bool ng) (.slice A n c) (.bool ng') (.slice A' n' c') := ⟨h.a.c0, h.a.c1, h.b.c0, h.b.c1⟩
theorem PV.lts (h : PV w X ng A n c ng' A' n' c') : w.heap.size < X.heap.size ∧ w.heap.size + 1 < X.heap.size := ⟨h.a.lt, h.b.lt⟩
theorem PV.store (h : PV w X ng A n c ng' A' n' c') {g : Nat} (hg : w.heap.size < g ∧ w.heap.size + 1 < g) (u v : Value) : PV w ((X.setCell ⟨g, 0, none⟩ u).setCell ⟨g, 1, none⟩ v) ng A n c ng' A' n' c' :=
  ⟨Two.far h.a (by omega) _ _, Two.far h.b (by omega) _ _, (h.bl.setCell (p := ⟨g, 0, none⟩) (Nat.le_of_lt hg.1) _).setCell (p := ⟨g, 1, none⟩) (Nat.le_of_lt hg.1) _⟩
end
theorem rneg_z (x : Int) (A : Option Addr) (n c : Nat) (w : World) (h : SI w .u32 A n c (digs V x.natAbs)) (hn : (digs V x.natAbs).length ≤ 4194304) :
    Calls Tryz.prog 17 #[.agg #[.bool (decide (x < 0)), .slice A n c]] w (Rw.GivesR w (-x)) := by
  have e := Rw.rneg_calls (decide (x < 0)) A n c _ w h (Rw.dv _) (by rw [← h.len]; omega)
  rw [val_digs V_two, sg_self] at e
  exact e
theorem radd_z (x y : Int) (A A' : Option Addr) (n c n' c' : Nat) (w : World) (h : SI w .u32 A n c (digs V x.natAbs)) (h' : SI w .u32 A' n' c' (digs V y.natAbs)) (hn : (digs V x.natAbs).length ≤ 4194304) (hn' : (digs V y.natAbs).length ≤ 4194304) :
    Calls Tryz.prog 19 #[.agg #[.bool (decide (x < 0)), .slice A n c], .agg #[.bool (decide (y < 0)), .slice A' n' c']] w (Rw.GivesR w (x + y)) := by
  have e := Rw.radd_calls (decide (x < 0)) (decide (y < 0)) A A' n c n' c' _ _ w h h' (Rw.dv _) (Rw.dv _) (by rw [← h.len]; omega) (by rw [← h'.len]; omega)
  rw [val_digs V_two, val_digs V_two, sg_self, sg_self] at e
  exact e
theorem rmul_z (x y : Int) (A A' : Option Addr) (n c n' c' : Nat) (w : World) (h : SI w .u32 A n c (digs V x.natAbs)) (h' : SI w .u32 A' n' c' (digs V y.natAbs)) (hn : (digs V x.natAbs).length ≤ 4194304) (hn' : (digs V y.natAbs).length ≤ 4194304) :
    Calls Tryz.prog 22 #[.agg #[.bool (decide (x < 0)), .slice A n c], .agg #[.bool (decide (y < 0)), .slice A' n' c']] w (Rw.GivesR w (x * y)) := by
  have e := Rw.rmul_calls (decide (x < 0)) (decide (y < 0)) A A' n c n' c' _ _ w h h' (Rw.dv _) (Rw.dv _) (by rw [← h.len]; omega) (by rw [← h'.len]; omega)
  rw [val_digs V_two, val_digs V_two, sg_self, sg_self] at e
  exact e
theorem rcmp_z (x y : Int) (A A' : Option Addr) (n c n' c' : Nat) (w : World) (h : SI w .u32 A n c (digs V x.natAbs)) (h' : SI w .u32 A' n' c' (digs V y.natAbs)) (hn : (digs V x.natAbs).length ≤ 4194304) (hn' : (digs V y.natAbs).length ≤ 4194304) :
    Calls Tryz.prog 24 #[.agg #[.bool (decide (x < 0)), .slice A n c], .agg #[.bool (decide (y < 0)), .slice A' n' c']] w fun e w' => e = .returned (.int .i64 (icmp x y)) ∧ Below w.heap.size w w' := by
  have e := Rw.rcmp_calls (decide (x < 0)) (decide (y < 0)) A A' n c n' c' _ _ w h h' (Rw.dv _) (Rw.dv _) (by rw [← h.len]; omega) (by rw [← h'.len]; omega)
  rw [val_digs V_two, val_digs V_two, sg_self, sg_self] at e
  exact e
theorem is_z (z : Int) (A A' : Option Addr) (n c n' c' : Nat) (w : World) (h : SI w .u64 A n c (digs U z.natAbs)) (h' : SI w .u32 A' n' c' (digs V z.natAbs)) (hn : (digs V z.natAbs).length ≤ 4398046511104) :
    Calls Tryz.prog 14 #[.agg #[.bool (decide (z < 0)), .slice A n c], .agg #[.bool (decide (z < 0)), .slice A' n' c']] w fun e w' => e = .returned (.bool true) ∧ Below w.heap.size w w' :=
  Rw.is_calls (decide (z < 0)) A A' n c n' c' z.natAbs w h h' (by rw [← h'.len]; exact hn)
theorem neg_len {x : Int} {M : Nat} (h : (digs V x.natAbs).length ≤ M) : (digs V (-x).natAbs).length ≤ M := by rw [Int.natAbs_neg]; exact h
theorem add_len {x y : Int} {M : Nat} (h : (digs V x.natAbs).length ≤ M) (h' : (digs V y.natAbs).length ≤ M) : (digs V (x + y).natAbs).length ≤ M + 1 := by
  have h1 := (digs_length_le V_two _ _).1 h
  have h2 := (digs_length_le V_two _ _).1 h'
  refine (digs_length_le V_two _ _).2 ?_
  have p3 : V ^ M * 2 ≤ V ^ (M + 1) := by rw [Nat.pow_succ]; exact Nat.mul_le_mul_left _ V_two
  have h3 : (x + y).natAbs ≤ x.natAbs + y.natAbs := Int.natAbs_add_le x y
  generalize V ^ M = P at *
  omega
theorem mul_len {x y : Int} {M : Nat} (h : (digs V x.natAbs).length ≤ M) (h' : (digs V y.natAbs).length ≤ M) : (digs V (x * y).natAbs).length ≤ M + M := by
  have h1 := (digs_length_le V_two _ _).1 h
  have h2 := (digs_length_le V_two _ _).1 h'
  refine (digs_length_le V_two _ _).2 ?_
  rw [Int.natAbs_mul, Nat.pow_add]
  exact Nat.mul_lt_mul'' h1 h2
set_option maxHeartbeats 32000000 in
set_option maxRecDepth 100000 in
theorem wholeReckons_calls (ng ng' : Bool) (A A' : Option Addr) (n c n' c' : Nat) (l l' : List Nat) (w : World) (h : SI w .u64 A n c l) (h' : SI w .u64 A' n' c' l') (hl : Lt U l) (hl' : Lt U l') (hn : n ≤ 1048576) (hn' : n' ≤ 1048576) (hp : Pow w) :
    Calls Tryz.prog 3 #[.agg #[.bool ng, .slice A n c], .agg #[.bool ng', .slice A' n' c']] w fun e w' => e = .returned (.bool true) ∧ Below w.heap.size w w' := by
  have HP := Lib.hid hp
  have hb0 := box_two w (.bool ng) (.slice A n c) (.bool ng') (.slice A' n' c')
  obtain ⟨W, hW⟩ : ∃ W, W = ((w.alloc (.cells #[.bool ng, .slice A n c] 24)).alloc (.cells #[.bool ng', .slice A' n' c'] 24)) := ⟨_, rfl⟩
  obtain ⟨t1, t2⟩ := Rw.two12 w (.bool ng) (.slice A n c) (.bool ng') (.slice A' n' c') 24 24
  rw [← hW] at hb0 t1 t2
  have HW := Lib.hid hW
  have HB0 := Lib.hid hb0
  have HT1 := Lib.hid t1
  have HT2 := Lib.hid t2
  have hx2 : (digs V (sg ng (val U l)).natAbs).length ≤ 4194304 := by rw [sg_abs]; exact Nat.le_trans (Rw.len_in hl h.len) (by omega)
  have hy2 : (digs V (sg ng' (val U l')).natAbs).length ≤ 4194304 := by rw [sg_abs]; exact Nat.le_trans (Rw.len_in hl' h'.len) (by omega)
  have hIX := fun (v : World) (b : Below w.heap.size w v) => Rw.lin_calls ng A n c l v (h.below b) hl (by omega)
  have hIY := fun (v : World) (b : Below w.heap.size w v) => Rw.lin_calls ng' A' n' c' l' v (h'.below b) hl' (by omega)
  have hMK := fun (v : World) (b : Below w.heap.size w v) => make_calls ng A n c l v (h.below b) hl (by omega)
  have hNG := fun (v : World) (b : Below w.heap.size w v) => neg_calls ng A n c l v (h.below b) hl (by omega)
  have hAD := fun (v : World) (b : Below w.heap.size w v) => wadd_calls ng ng' A A' n c n' c' l l' v (h.below b) (h'.below b) hl hl' (by omega) (by omega)
  have hSU0 := fun (v : World) (b : Below w.heap.size w v) => wsub_calls ng ng' A A' n c n' c' l l' v (h.below b) (h'.below b) hl hl' (by omega) (by omega)
  have hSU : ∀ v : World, Below w.heap.size w v → Calls Tryz.prog 20 #[.agg #[.bool ng, .slice A n c], .agg #[.bool ng', .slice A' n' c']] v (GivesW v (sg ng (val U l) + -(sg ng' (val U l')))) := fun v b => by rw [← Int.sub_eq_add_neg]; exact hSU0 v b
  clear hSU0
  have hMU := fun (v : World) (b : Below w.heap.size w v) => Wh.mul_calls ng ng' A A' n c n' c' l l' v (h.below b) (h'.below b) hl hl' (by omega) (by omega)
  have hCM := fun (v : World) (b : Below w.heap.size w v) => wcmp_calls ng ng' A A' n c n' c' l l' v (h.below b) (h'.below b) hl hl' (by omega) (by omega)
  clear hW hb0 h h' hl hl' hp t1 t2
  generalize sg ng (val U l) = x at *
  generalize sg ng' (val U l') = y at *
  have hRX := fun (A : Option Addr) (n c : Nat) (v : World) (h : SI v .u32 A n c (digs V x.natAbs)) => rneg_z x A n c v h hx2
  have hRY := fun (A : Option Addr) (n c : Nat) (v : World) (h : SI v .u32 A n c (digs V y.natAbs)) => rneg_z y A n c v h hy2
  have hRA := fun (A A' : Option Addr) (n c n' c' : Nat) (v : World) (h : SI v .u32 A n c (digs V x.natAbs)) (h' : SI v .u32 A' n' c' (digs V y.natAbs)) => radd_z x y A A' n c n' c' v h h' hx2 hy2
  have hRB := fun (A A' : Option Addr) (n c n' c' : Nat) (v : World) (h : SI v .u32 A n c (digs V x.natAbs)) (h' : SI v .u32 A' n' c' (digs V (-y).natAbs)) => radd_z x (-y) A A' n c n' c' v h h' hx2 (neg_len hy2)
  have hRM := fun (A A' : Option Addr) (n c n' c' : Nat) (v : World) (h : SI v .u32 A n c (digs V x.natAbs)) (h' : SI v .u32 A' n' c' (digs V y.natAbs)) => rmul_z x y A A' n c n' c' v h h' hx2 hy2
  have hRC := fun (A A' : Option Addr) (n c n' c' : Nat) (v : World) (h : SI v .u32 A n c (digs V x.natAbs)) (h' : SI v .u32 A' n' c' (digs V y.natAbs)) => rcmp_z x y A A' n c n' c' v h h' hx2 hy2
  have hI0 := fun (A A' : Option Addr) (n c n' c' : Nat) (v : World) (h : SI v .u64 A n c (digs U x.natAbs)) (h' : SI v .u32 A' n' c' (digs V x.natAbs)) => is_z x A A' n c n' c' v h h' (by omega)
  have hI1 := fun (A A' : Option Addr) (n c n' c' : Nat) (v : World) (h : SI v .u64 A n c (digs U (-x).natAbs)) (h' : SI v .u32 A' n' c' (digs V (-x).natAbs)) => is_z (-x) A A' n c n' c' v h h' (Nat.le_trans (neg_len hx2) (by omega))
  have hI2 := fun (A A' : Option Addr) (n c n' c' : Nat) (v : World) (h : SI v .u64 A n c (digs U (x + y).natAbs)) (h' : SI v .u32 A' n' c' (digs V (x + y).natAbs)) => is_z (x + y) A A' n c n' c' v h h' (Nat.le_trans (add_len hx2 hy2) (by omega))
  have hI3 := fun (A A' : Option Addr) (n c n' c' : Nat) (v : World) (h : SI v .u64 A n c (digs U (x + -y).natAbs)) (h' : SI v .u32 A' n' c' (digs V (x + -y).natAbs)) => is_z (x + -y) A A' n c n' c' v h h' (Nat.le_trans (add_len hx2 (neg_len hy2)) (by omega))
  have hI4 := fun (A A' : Option Addr) (n c n' c' : Nat) (v : World) (h : SI v .u64 A n c (digs U (x * y).natAbs)) (h' : SI v .u32 A' n' c' (digs V (x * y).natAbs)) => is_z (x * y) A A' n c n' c' v h h' (Nat.le_trans (mul_len hx2 hy2) (by omega))
  generalize x + -y = z3 at *
  generalize x + y = z2 at *
  generalize x * y = z5 at *
  generalize -x = z1 at *
  generalize -y = z4 at *
  generalize icmp x y = z6 at *
  have HRX := Lib.hid hRX
  have HRY := Lib.hid hRY
  have HRA := Lib.hid hRA
  have HRB := Lib.hid hRB
  have HRM := Lib.hid hRM
  have HRC := Lib.hid hRC
  have HI0 := Lib.hid hI0
  have HI1 := Lib.hid hI1
  have HI2 := Lib.hid hI2
  have HI3 := Lib.hid hI3
  have HI4 := Lib.hid hI4
  clear hRX hRY hRA hRB hRM hRC hI0 hI1 hI2 hI3 hI4
  have HIX := Lib.hid hIX
  have HIY := Lib.hid hIY
  have HMK := Lib.hid hMK
  have HNG := Lib.hid hNG
  have HAD := Lib.hid hAD
  have HSU := Lib.hid hSU
  have HMU := Lib.hid hMU
  have HCM := Lib.hid hCM
  have HX2 := Lib.hid hx2
  have HY2 := Lib.hid hy2
  clear hIX hIY hMK hNG hAD hSU hMU hCM hx2 hy2
  go_enter Tryz.func3, Tryz.ntmps3
  go_wp2
  rw [← HW.out]
  refine Go.Un.start_key (fun a' w' => ∃ (b5 b6 : Nat) (A4 : Option Addr) (n4 c4 : Nat) (A5 : Option Addr) (n5 c5 : Nat),
      a' = { tmps := #[.agg #[.bool ng, .slice A n c], .agg #[.bool ng', .slice A' n' c'], .pointer (some ⟨w.heap.size, 0, none⟩), .pointer (some ⟨w.heap.size + 1, 0, none⟩), .bool false, .pointer (some ⟨b5, 0, none⟩), .pointer (some ⟨b6, 0, none⟩),
        .agg #[.bool ng, .slice A n c], .agg #[.bool (decide (x < 0)), .slice A4 n4 c4], .agg #[.bool ng', .slice A' n' c'], .agg #[.bool (decide (y < 0)), .slice A5 n5 c5],
        undef, undef, undef, undef, undef, undef, undef, undef, undef, undef, undef, undef, undef, undef, undef, undef, undef, undef, undef, undef, undef, undef, undef, undef, undef, undef, undef, undef, undef, undef, undef, undef, undef, undef, undef, undef, undef, undef, undef, undef, undef, undef, undef, undef, undef, undef, undef, undef, undef, undef, undef, undef, undef, undef], defers := [] } ∧
      RV w w' b5 b6 ng A n c ng' A' n' c' x y A4 n4 c4 A5 n5 c5)
    (fun w' => C4 w' w.heap.size (w.heap.size + 1) (.bool ng) (.slice A n c) (.bool ng') (.slice A' n' c')) [7] (by rfl) ?_ ?_
  · rintro a' w' ⟨b5, b6, A4, n4, c4, A5, n5, c5, rfl, Ez⟩
    have E0 := Ez.below (Below.refl w'.heap.size w').drew
    have kp := E0.s8
    unfold C8 at kp
    clear Ez
    go_wp2
    go_region_held3 (fun w' => w'.cell? ⟨w.heap.size, 0, none⟩ = some (.bool ng) ∧ w'.cell? ⟨w.heap.size, 1, none⟩ = some (.slice A n c) ∧ w'.cell? ⟨w.heap.size + 1, 0, none⟩ = some (.bool ng') ∧ w'.cell? ⟨w.heap.size + 1, 1, none⟩ = some (.slice A' n' c') ∧ w'.cell? ⟨b5, 0, none⟩ = some (.bool (decide (x < 0))) ∧ w'.cell? ⟨b5, 1, none⟩ = some (.slice A4 n4 c4) ∧ w'.cell? ⟨b6, 0, none⟩ = some (.bool (decide (y < 0))) ∧ w'.cell? ⟨b6, 1, none⟩ = some (.slice A5 n5 c5))
    (first
      | exact kp
      | exact k1
      | exact k2
      | exact k3
      | exact k4
      | exact k5
      | exact k6
      | exact k7
      | exact k8
      | exact k9
      | exact k10
      | exact k11
      | exact k12
      | exact k13
      | exact k14
      | exact k15
      | exact k16
      | exact k17
      | exact k18)
    (first
      | (go_at_call 13; first
        | ((with_reducible refine (awake_calls _ (HP.out.below E0.bl)).mono ?_); rintro e v1 ⟨rfl, m1⟩; have E1 := E0.below m1; have k1 := E1.s8))
      | (go_at_call 15; first
        | ((with_reducible refine (HMK.out _ E1.bl).mono ?_); rintro e v2 ⟨P2, p2, q2, rfl, y2, _, m2⟩; have E2 := E1.below m2; have k2 := E2.s8))
      | (go_at_call 14; first
        | ((with_reducible refine (HI0.out P2 A4 p2 q2 n4 c4 _ y2 E2.r4).mono ?_); rintro e v3 ⟨rfl, m3⟩; have E3 := E2.below m3; have k3 := E3.s8)
        | ((with_reducible refine (HI1.out P4 P5 p4 q4 p5 q5 _ (y4.below m5) y5).mono ?_); rintro e v6 ⟨rfl, m6⟩; have E6 := E5.below m6; have k6 := E6.s8)
        | ((with_reducible refine (HI2.out P7 P8 p7 q7 p8 q8 _ (y7.below m8) y8).mono ?_); rintro e v9 ⟨rfl, m9⟩; have E9 := E8.below m9; have k9 := E9.s8)
        | ((with_reducible refine (HI3.out P10 P12 p10 q10 p12 q12 _ ((y10.below m11).below m12) y12).mono ?_); rintro e v13 ⟨rfl, m13⟩; have E13 := E12.below m13; have k13 := E13.s8)
        | ((with_reducible refine (HI4.out P14 P15 p14 q14 p15 q15 _ (y14.below m15) y15).mono ?_); rintro e v16 ⟨rfl, m16⟩; have E16 := E15.below m16; have k16 := E16.s8))
      | (go_at_call 16; first
        | ((with_reducible refine (HNG.out _ E3.bl).mono ?_); rintro e v4 ⟨P4, p4, q4, rfl, y4, _, m4⟩; have E4 := E3.below m4; have k4 := E4.s8))
      | (go_at_call 17; first
        | ((with_reducible refine (HRX.out A4 n4 c4 _ E4.r4).mono ?_); rintro e v5 ⟨P5, p5, q5, rfl, y5, _, m5⟩; have E5 := E4.below m5; have k5 := E5.s8)
        | ((with_reducible refine (HRY.out A5 n5 c5 _ E10.r5).mono ?_); rintro e v11 ⟨P11, p11, q11, rfl, y11, _, m11⟩; have E11 := E10.below m11; have k11 := E11.s8))
      | (go_at_call 18; first
        | ((with_reducible refine (HAD.out _ E6.bl).mono ?_); rintro e v7 ⟨P7, p7, q7, rfl, y7, _, m7⟩; have E7 := E6.below m7; have k7 := E7.s8))
      | (go_at_call 19; first
        | ((with_reducible refine (HRA.out A4 A5 n4 c4 n5 c5 _ E7.r4 E7.r5).mono ?_); rintro e v8 ⟨P8, p8, q8, rfl, y8, _, m8⟩; have E8 := E7.below m8; have k8 := E8.s8)
        | ((with_reducible refine (HRB.out A4 P11 n4 c4 p11 q11 _ E11.r4 y11).mono ?_); rintro e v12 ⟨P12, p12, q12, rfl, y12, _, m12⟩; have E12 := E11.below m12; have k12 := E12.s8))
      | (go_at_call 20; first
        | ((with_reducible refine (HSU.out _ E9.bl).mono ?_); rintro e v10 ⟨P10, p10, q10, rfl, y10, _, m10⟩; have E10 := E9.below m10; have k10 := E10.s8))
      | (go_at_call 21; first
        | ((with_reducible refine (HMU.out _ E13.bl).mono ?_); rintro e v14 ⟨P14, p14, q14, rfl, y14, _, m14⟩; have E14 := E13.below m14; have k14 := E14.s8))
      | (go_at_call 22; first
        | ((with_reducible refine (HRM.out A4 A5 n4 c4 n5 c5 _ E14.r4 E14.r5).mono ?_); rintro e v15 ⟨P15, p15, q15, rfl, y15, _, m15⟩; have E15 := E14.below m15; have k15 := E15.s8))
      | (go_at_call 23; first
        | ((with_reducible refine (HCM.out _ E16.bl).mono ?_); rintro e v17 ⟨rfl, m17⟩; have E17 := E16.below m17; have k17 := E17.s8))
      | (go_at_call 24; first
        | ((with_reducible refine (HRC.out A4 A5 n4 c4 n5 c5 _ E17.r4 E17.r5).mono ?_); rintro e v18 ⟨rfl, m18⟩; have E18 := E17.below m18; have k18 := E18.s8)))
    go_wp2
    go_ret
    exact ⟨rfl, E18.bl⟩
  · intro hk
    have D0 : PV w W.drew ng A n c ng' A' n' c' := ⟨HT1.out.below (Below.refl W.heap.size W).drew, HT2.out.below (Below.refl W.heap.size W).drew, on HB0.out (Below.refl W.heap.size W).drew⟩
    have hS := D0.s4
    clear HMK HNG HAD HSU HMU HCM HRX HRY HRA HRB HRM HRC HI0 HI1 HI2 HI3 HI4 HX2 HY2 HT1 HT2 HB0 HP HW
    obtain ⟨v0, hv0⟩ : ∃ v0, v0 = W.drew := ⟨_, rfl⟩
    rw [← hv0] at D0 hS
    change Go.Un.wpAnyU _ _ _ _ _ _ _ _ _ W.drew
    rw [← hv0]
    clear hv0
    refine Go.Un.take [7] (i := 0) (v := ?_) rfl (by kernel_rfl) (by kernel_rfl) (by kernel_rfl) (by kernel_rfl) (by kernel_rfl) (fun _ _ _ h => h) (Or.inl ⟨by rfl, ?_⟩) hS ?_
    rotate_left
    · intro w hSw
      obtain ⟨s1, s2, s3, s4⟩ := hSw
      go_simp
      try with_reducible rfl
    try simp only [Act.put, List.setIfInBounds_toArray, List.set_cons_zero, List.set_cons_succ]
    refine Go.Un.take [7] (i := 2) (v := ?_) rfl (by kernel_rfl) (by kernel_rfl) (by kernel_rfl) (by kernel_rfl) (by kernel_rfl) (fun _ _ _ h => h) (Or.inl ⟨by rfl, ?_⟩) hS ?_
    rotate_left
    · intro w hSw
      obtain ⟨s1, s2, s3, s4⟩ := hSw
      go_simp
      try with_reducible rfl
    try simp only [Act.put, List.setIfInBounds_toArray, List.set_cons_zero, List.set_cons_succ]
    refine Go.Un.three (i := 1) (j := 4) (k := 5) rfl rfl rfl (by kernel_rfl) (fun K hK => ?_) (fun K hK => ?_) (fun K hK => ?_)
    · go_simp
      go_at_call 12; (with_reducible refine (HIX.out v0 D0.bl).mono ?_); rintro e v1 ⟨A4, n4, c4, rfl, rx, _, bb⟩
      have D1 := D0.below bb
      refine hK.out _ _ (fun _ => D1.s4) ?_
      clear hK
      clear K
      clear bb
      try simp only [Act.put, List.setIfInBounds_toArray, List.set_cons_zero, List.set_cons_succ]
      refine Go.Un.three (i := 3) (j := 4) (k := 5) rfl rfl rfl (by kernel_rfl) (fun K hK => ?_) (fun K hK => ?_) (fun K hK => ?_)
      · go_simp
        go_at_call 12; (with_reducible refine (HIY.out v1 D1.bl).mono ?_); rintro e v2 ⟨A5, n5, c5, rfl, ry, _, bb⟩
        have D2 := D1.below bb
        have rx_2 := rx.below bb
        refine hK.out _ _ (fun _ => D2.s4) ?_
        clear hK
        clear K
        clear bb
        try simp only [Act.put, List.setIfInBounds_toArray, List.set_cons_zero, List.set_cons_succ]
        refine Go.Un.two (i := 4) (j := 5) rfl rfl (by kernel_rfl) (fun K hK => ?_) (fun K hK => ?_)
        · go_simp
          refine hK.out _ _ (fun _ => (D2.below (alloc_below _ _)).s4) ?_
          clear hK
          clear K
          try simp only [Act.put, List.setIfInBounds_toArray, List.set_cons_zero, List.set_cons_succ]
          have ab := alloc_below v2 (.cells #[.bool false, .slice none 0 0] 28)
          have T4 := Two.start v2 (.bool false) (.slice none 0 0) 28
          have hg4 := D2.lts
          have D3 := D2.below ab
          have rx_3 := rx_2.below ab
          have ry_3 := ry.below ab
          clear ab
          generalize v2.heap.size = g4 at *
          generalize v2.alloc (.cells #[.bool false, .slice none 0 0] 28) = v3 at *
          refine Go.Un.one (i := 5) rfl (by kernel_rfl) (fun K hK => ?_)
          go_simp
          refine hK.out _ _ (fun _ => (D3.below (alloc_below _ _)).s4) ?_
          clear hK
          clear K
          try simp only [Act.put, List.setIfInBounds_toArray, List.set_cons_zero, List.set_cons_succ]
          have ab := alloc_below v3 (.cells #[.bool false, .slice none 0 0] 28)
          have T5 := Two.start v3 (.bool false) (.slice none 0 0) 28
          have hg5 := D3.lts
          have hne := T4.lt
          have D4 := D3.below ab
          have T4_4 := T4.below ab
          have rx_4 := rx_3.below ab
          have ry_4 := ry_3.below ab
          clear ab
          generalize v3.heap.size = g5 at *
          generalize v3.alloc (.cells #[.bool false, .slice none 0 0] 28) = v4 at *
          have q0 := T4_4.c0
          have q1 := T4_4.c1
          have f0 := T4_4.f0
          have f1 := T4_4.f1
          have E1 := D4.store hg4 (.bool (decide (x < 0))) (.slice A4 n4 c4)
          have Y5 := Two.far T5 (show g5 ≠ g4 by omega) (.bool (decide (x < 0))) (.slice A4 n4 c4)
          have Y4 := T4_4.store (.bool (decide (x < 0))) (.slice A4 n4 c4)
          have yx := si_two rx_4 T4_4 (.bool (decide (x < 0))) (.slice A4 n4 c4)
          have yy := si_two ry_4 T4_4 (.bool (decide (x < 0))) (.slice A4 n4 c4)
          refine Go.Un.one (i := 6) rfl (by kernel_rfl) (fun K hK => ?_)
          go_simp
          refine hK.out _ _ (fun _ => E1.s4) ?_
          clear hK
          clear K
          try simp only [Act.put, List.setIfInBounds_toArray, List.set_cons_zero, List.set_cons_succ]
          clear q0 q1 f0 f1
          generalize ((v4.setCell _ _).setCell _ _) = u1 at *
          have q0 := Y5.c0
          have q1 := Y5.c1
          have f0 := Y5.f0
          have f1 := Y5.f1
          have E2 := E1.store hg5 (.bool (decide (y < 0))) (.slice A5 n5 c5)
          have X4 := Two.far Y4 (show g4 ≠ g5 by omega) (.bool (decide (y < 0))) (.slice A5 n5 c5)
          have X5 := Y5.store (.bool (decide (y < 0))) (.slice A5 n5 c5)
          have xx := si_two yx Y5 (.bool (decide (y < 0))) (.slice A5 n5 c5)
          have xy := si_two yy Y5 (.bool (decide (y < 0))) (.slice A5 n5 c5)
          refine Go.Un.one (i := 7) rfl (by kernel_rfl) (fun K hK => ?_)
          go_simp
          refine hK.out _ _ (fun h => by exact absurd h (by decide)) ?_
          clear hK
          clear K
          try simp only [Act.put, List.setIfInBounds_toArray, List.set_cons_zero, List.set_cons_succ]
          refine Go.Un.done (by kernel_rfl) ?_ _
          exact hk _ _ ⟨g4, g5, A4, n4, c4, A5, n5, c5, rfl, E2.a, E2.b, X4, X5, xx, xy, E2.bl⟩
        · go_simp
          refine hK.out _ _ (fun _ => (D2.below (alloc_below _ _)).s4) ?_
          clear hK
          clear K
          try simp only [Act.put, List.setIfInBounds_toArray, List.set_cons_zero, List.set_cons_succ]
          have ab := alloc_below v2 (.cells #[.bool false, .slice none 0 0] 28)
          have T5 := Two.start v2 (.bool false) (.slice none 0 0) 28
          have hg5 := D2.lts
          have D3 := D2.below ab
          have rx_3 := rx_2.below ab
          have ry_3 := ry.below ab
          clear ab
          generalize v2.heap.size = g5 at *
          generalize v2.alloc (.cells #[.bool false, .slice none 0 0] 28) = v3 at *
          refine Go.Un.one (i := 4) rfl (by kernel_rfl) (fun K hK => ?_)
          go_simp
          refine hK.out _ _ (fun _ => (D3.below (alloc_below _ _)).s4) ?_
          clear hK
          clear K
          try simp only [Act.put, List.setIfInBounds_toArray, List.set_cons_zero, List.set_cons_succ]
          have ab := alloc_below v3 (.cells #[.bool false, .slice none 0 0] 28)
          have T4 := Two.start v3 (.bool false) (.slice none 0 0) 28
          have hg4 := D3.lts
          have hne := T5.lt
          have D4 := D3.below ab
          have T5_4 := T5.below ab
          have rx_4 := rx_3.below ab
          have ry_4 := ry_3.below ab
          clear ab
          generalize v3.heap.size = g4 at *
          generalize v3.alloc (.cells #[.bool false, .slice none 0 0] 28) = v4 at *
          have q0 := T4.c0
          have q1 := T4.c1
          have f0 := T4.f0
          have f1 := T4.f1
          have E1 := D4.store hg4 (.bool (decide (x < 0))) (.slice A4 n4 c4)
          have Y5 := Two.far T5_4 (show g5 ≠ g4 by omega) (.bool (decide (x < 0))) (.slice A4 n4 c4)
          have Y4 := T4.store (.bool (decide (x < 0))) (.slice A4 n4 c4)
          have yx := si_two rx_4 T4 (.bool (decide (x < 0))) (.slice A4 n4 c4)
          have yy := si_two ry_4 T4 (.bool (decide (x < 0))) (.slice A4 n4 c4)
          refine Go.Un.one (i := 6) rfl (by kernel_rfl) (fun K hK => ?_)
          go_simp
          refine hK.out _ _ (fun _ => E1.s4) ?_
          clear hK
          clear K
          try simp only [Act.put, List.setIfInBounds_toArray, List.set_cons_zero, List.set_cons_succ]
          clear q0 q1 f0 f1
          generalize ((v4.setCell _ _).setCell _ _) = u1 at *
          have q0 := Y5.c0
          have q1 := Y5.c1
          have f0 := Y5.f0
          have f1 := Y5.f1
          have E2 := E1.store hg5 (.bool (decide (y < 0))) (.slice A5 n5 c5)
          have X4 := Two.far Y4 (show g4 ≠ g5 by omega) (.bool (decide (y < 0))) (.slice A5 n5 c5)
          have X5 := Y5.store (.bool (decide (y < 0))) (.slice A5 n5 c5)
          have xx := si_two yx Y5 (.bool (decide (y < 0))) (.slice A5 n5 c5)
          have xy := si_two yy Y5 (.bool (decide (y < 0))) (.slice A5 n5 c5)
          refine Go.Un.one (i := 7) rfl (by kernel_rfl) (fun K hK => ?_)
          go_simp
          refine hK.out _ _ (fun h => by exact absurd h (by decide)) ?_
          clear hK
          clear K
          try simp only [Act.put, List.setIfInBounds_toArray, List.set_cons_zero, List.set_cons_succ]
          refine Go.Un.done (by kernel_rfl) ?_ _
          exact hk _ _ ⟨g4, g5, A4, n4, c4, A5, n5, c5, rfl, E2.a, E2.b, X4, X5, xx, xy, E2.bl⟩
      · go_simp
        refine hK.out _ _ (fun _ => (D1.below (alloc_below _ _)).s4) ?_
        clear hK
        clear K
        try simp only [Act.put, List.setIfInBounds_toArray, List.set_cons_zero, List.set_cons_succ]
        have ab := alloc_below v1 (.cells #[.bool false, .slice none 0 0] 28)
        have T4 := Two.start v1 (.bool false) (.slice none 0 0) 28
        have hg4 := D1.lts
        have D2 := D1.below ab
        have rx_2 := rx.below ab
        clear ab
        generalize v1.heap.size = g4 at *
        generalize v1.alloc (.cells #[.bool false, .slice none 0 0] 28) = v2 at *
        refine Go.Un.two (i := 3) (j := 5) rfl rfl (by kernel_rfl) (fun K hK => ?_) (fun K hK => ?_)
        · go_simp
          go_at_call 12; (with_reducible refine (HIY.out v2 D2.bl).mono ?_); rintro e v3 ⟨A5, n5, c5, rfl, ry, _, bb⟩
          have D3 := D2.below bb
          have T4_3 := T4.below bb
          have rx_3 := rx_2.below bb
          refine hK.out _ _ (fun _ => D3.s4) ?_
          clear hK
          clear K
          clear bb
          try simp only [Act.put, List.setIfInBounds_toArray, List.set_cons_zero, List.set_cons_succ]
          refine Go.Un.one (i := 5) rfl (by kernel_rfl) (fun K hK => ?_)
          go_simp
          refine hK.out _ _ (fun _ => (D3.below (alloc_below _ _)).s4) ?_
          clear hK
          clear K
          try simp only [Act.put, List.setIfInBounds_toArray, List.set_cons_zero, List.set_cons_succ]
          have ab := alloc_below v3 (.cells #[.bool false, .slice none 0 0] 28)
          have T5 := Two.start v3 (.bool false) (.slice none 0 0) 28
          have hg5 := D3.lts
          have hne := T4_3.lt
          have D4 := D3.below ab
          have T4_4 := T4_3.below ab
          have rx_4 := rx_3.below ab
          have ry_4 := ry.below ab
          clear ab
          generalize v3.heap.size = g5 at *
          generalize v3.alloc (.cells #[.bool false, .slice none 0 0] 28) = v4 at *
          have q0 := T4_4.c0
          have q1 := T4_4.c1
          have f0 := T4_4.f0
          have f1 := T4_4.f1
          have E1 := D4.store hg4 (.bool (decide (x < 0))) (.slice A4 n4 c4)
          have Y5 := Two.far T5 (show g5 ≠ g4 by omega) (.bool (decide (x < 0))) (.slice A4 n4 c4)
          have Y4 := T4_4.store (.bool (decide (x < 0))) (.slice A4 n4 c4)
          have yx := si_two rx_4 T4_4 (.bool (decide (x < 0))) (.slice A4 n4 c4)
          have yy := si_two ry_4 T4_4 (.bool (decide (x < 0))) (.slice A4 n4 c4)
          refine Go.Un.one (i := 6) rfl (by kernel_rfl) (fun K hK => ?_)
          go_simp
          refine hK.out _ _ (fun _ => E1.s4) ?_
          clear hK
          clear K
          try simp only [Act.put, List.setIfInBounds_toArray, List.set_cons_zero, List.set_cons_succ]
          clear q0 q1 f0 f1
          generalize ((v4.setCell _ _).setCell _ _) = u1 at *
          have q0 := Y5.c0
          have q1 := Y5.c1
          have f0 := Y5.f0
          have f1 := Y5.f1
          have E2 := E1.store hg5 (.bool (decide (y < 0))) (.slice A5 n5 c5)
          have X4 := Two.far Y4 (show g4 ≠ g5 by omega) (.bool (decide (y < 0))) (.slice A5 n5 c5)
          have X5 := Y5.store (.bool (decide (y < 0))) (.slice A5 n5 c5)
          have xx := si_two yx Y5 (.bool (decide (y < 0))) (.slice A5 n5 c5)
          have xy := si_two yy Y5 (.bool (decide (y < 0))) (.slice A5 n5 c5)
          refine Go.Un.one (i := 7) rfl (by kernel_rfl) (fun K hK => ?_)
          go_simp
          refine hK.out _ _ (fun h => by exact absurd h (by decide)) ?_
          clear hK
          clear K
          try simp only [Act.put, List.setIfInBounds_toArray, List.set_cons_zero, List.set_cons_succ]
          refine Go.Un.done (by kernel_rfl) ?_ _
          exact hk _ _ ⟨g4, g5, A4, n4, c4, A5, n5, c5, rfl, E2.a, E2.b, X4, X5, xx, xy, E2.bl⟩
        · go_simp
          refine hK.out _ _ (fun _ => (D2.below (alloc_below _ _)).s4) ?_
          clear hK
          clear K
          try simp only [Act.put, List.setIfInBounds_toArray, List.set_cons_zero, List.set_cons_succ]
          have ab := alloc_below v2 (.cells #[.bool false, .slice none 0 0] 28)
          have T5 := Two.start v2 (.bool false) (.slice none 0 0) 28
          have hg5 := D2.lts
          have hne := T4.lt
          have D3 := D2.below ab
          have T4_3 := T4.below ab
          have rx_3 := rx_2.below ab
          clear ab
          generalize v2.heap.size = g5 at *
          generalize v2.alloc (.cells #[.bool false, .slice none 0 0] 28) = v3 at *
          refine Go.Un.one (i := 3) rfl (by kernel_rfl) (fun K hK => ?_)
          go_simp
          go_at_call 12; (with_reducible refine (HIY.out v3 D3.bl).mono ?_); rintro e v4 ⟨A5, n5, c5, rfl, ry, _, bb⟩
          have D4 := D3.below bb
          have T4_4 := T4_3.below bb
          have T5_4 := T5.below bb
          have rx_4 := rx_3.below bb
          refine hK.out _ _ (fun _ => D4.s4) ?_
          clear hK
          clear K
          clear bb
          try simp only [Act.put, List.setIfInBounds_toArray, List.set_cons_zero, List.set_cons_succ]
          have q0 := T4_4.c0
          have q1 := T4_4.c1
          have f0 := T4_4.f0
          have f1 := T4_4.f1
          have E1 := D4.store hg4 (.bool (decide (x < 0))) (.slice A4 n4 c4)
          have Y5 := Two.far T5_4 (show g5 ≠ g4 by omega) (.bool (decide (x < 0))) (.slice A4 n4 c4)
          have Y4 := T4_4.store (.bool (decide (x < 0))) (.slice A4 n4 c4)
          have yx := si_two rx_4 T4_4 (.bool (decide (x < 0))) (.slice A4 n4 c4)
          have yy := si_two ry T4_4 (.bool (decide (x < 0))) (.slice A4 n4 c4)
          refine Go.Un.one (i := 6) rfl (by kernel_rfl) (fun K hK => ?_)
          go_simp
          refine hK.out _ _ (fun _ => E1.s4) ?_
          clear hK
          clear K
          try simp only [Act.put, List.setIfInBounds_toArray, List.set_cons_zero, List.set_cons_succ]
          clear q0 q1 f0 f1
          generalize ((v4.setCell _ _).setCell _ _) = u1 at *
          have q0 := Y5.c0
          have q1 := Y5.c1
          have f0 := Y5.f0
          have f1 := Y5.f1
          have E2 := E1.store hg5 (.bool (decide (y < 0))) (.slice A5 n5 c5)
          have X4 := Two.far Y4 (show g4 ≠ g5 by omega) (.bool (decide (y < 0))) (.slice A5 n5 c5)
          have X5 := Y5.store (.bool (decide (y < 0))) (.slice A5 n5 c5)
          have xx := si_two yx Y5 (.bool (decide (y < 0))) (.slice A5 n5 c5)
          have xy := si_two yy Y5 (.bool (decide (y < 0))) (.slice A5 n5 c5)
          refine Go.Un.one (i := 7) rfl (by kernel_rfl) (fun K hK => ?_)
          go_simp
          refine hK.out _ _ (fun h => by exact absurd h (by decide)) ?_
          clear hK
          clear K
          try simp only [Act.put, List.setIfInBounds_toArray, List.set_cons_zero, List.set_cons_succ]
          refine Go.Un.done (by kernel_rfl) ?_ _
          exact hk _ _ ⟨g4, g5, A4, n4, c4, A5, n5, c5, rfl, E2.a, E2.b, X4, X5, xx, xy, E2.bl⟩
      · go_simp
        refine hK.out _ _ (fun _ => (D1.below (alloc_below _ _)).s4) ?_
        clear hK
        clear K
        try simp only [Act.put, List.setIfInBounds_toArray, List.set_cons_zero, List.set_cons_succ]
        have ab := alloc_below v1 (.cells #[.bool false, .slice none 0 0] 28)
        have T5 := Two.start v1 (.bool false) (.slice none 0 0) 28
        have hg5 := D1.lts
        have D2 := D1.below ab
        have rx_2 := rx.below ab
        clear ab
        generalize v1.heap.size = g5 at *
        generalize v1.alloc (.cells #[.bool false, .slice none 0 0] 28) = v2 at *
        refine Go.Un.two (i := 3) (j := 4) rfl rfl (by kernel_rfl) (fun K hK => ?_) (fun K hK => ?_)
        · go_simp
          go_at_call 12; (with_reducible refine (HIY.out v2 D2.bl).mono ?_); rintro e v3 ⟨A5, n5, c5, rfl, ry, _, bb⟩
          have D3 := D2.below bb
          have T5_3 := T5.below bb
          have rx_3 := rx_2.below bb
          refine hK.out _ _ (fun _ => D3.s4) ?_
          clear hK
          clear K
          clear bb
          try simp only [Act.put, List.setIfInBounds_toArray, List.set_cons_zero, List.set_cons_succ]
          refine Go.Un.one (i := 4) rfl (by kernel_rfl) (fun K hK => ?_)
          go_simp
          refine hK.out _ _ (fun _ => (D3.below (alloc_below _ _)).s4) ?_
          clear hK
          clear K
          try simp only [Act.put, List.setIfInBounds_toArray, List.set_cons_zero, List.set_cons_succ]
          have ab := alloc_below v3 (.cells #[.bool false, .slice none 0 0] 28)
          have T4 := Two.start v3 (.bool false) (.slice none 0 0) 28
          have hg4 := D3.lts
          have hne := T5_3.lt
          have D4 := D3.below ab
          have T5_4 := T5_3.below ab
          have rx_4 := rx_3.below ab
          have ry_4 := ry.below ab
          clear ab
          generalize v3.heap.size = g4 at *
          generalize v3.alloc (.cells #[.bool false, .slice none 0 0] 28) = v4 at *
          have q0 := T4.c0
          have q1 := T4.c1
          have f0 := T4.f0
          have f1 := T4.f1
          have E1 := D4.store hg4 (.bool (decide (x < 0))) (.slice A4 n4 c4)
          have Y5 := Two.far T5_4 (show g5 ≠ g4 by omega) (.bool (decide (x < 0))) (.slice A4 n4 c4)
          have Y4 := T4.store (.bool (decide (x < 0))) (.slice A4 n4 c4)
          have yx := si_two rx_4 T4 (.bool (decide (x < 0))) (.slice A4 n4 c4)
          have yy := si_two ry_4 T4 (.bool (decide (x < 0))) (.slice A4 n4 c4)
          refine Go.Un.one (i := 6) rfl (by kernel_rfl) (fun K hK => ?_)
          go_simp
          refine hK.out _ _ (fun _ => E1.s4) ?_
          clear hK
          clear K
          try simp only [Act.put, List.setIfInBounds_toArray, List.set_cons_zero, List.set_cons_succ]
          clear q0 q1 f0 f1
          generalize ((v4.setCell _ _).setCell _ _) = u1 at *
          have q0 := Y5.c0
          have q1 := Y5.c1
          have f0 := Y5.f0
          have f1 := Y5.f1
          have E2 := E1.store hg5 (.bool (decide (y < 0))) (.slice A5 n5 c5)
          have X4 := Two.far Y4 (show g4 ≠ g5 by omega) (.bool (decide (y < 0))) (.slice A5 n5 c5)
          have X5 := Y5.store (.bool (decide (y < 0))) (.slice A5 n5 c5)
          have xx := si_two yx Y5 (.bool (decide (y < 0))) (.slice A5 n5 c5)
          have xy := si_two yy Y5 (.bool (decide (y < 0))) (.slice A5 n5 c5)
          refine Go.Un.one (i := 7) rfl (by kernel_rfl) (fun K hK => ?_)
          go_simp
          refine hK.out _ _ (fun h => by exact absurd h (by decide)) ?_
          clear hK
          clear K
          try simp only [Act.put, List.setIfInBounds_toArray, List.set_cons_zero, List.set_cons_succ]
          refine Go.Un.done (by kernel_rfl) ?_ _
          exact hk _ _ ⟨g4, g5, A4, n4, c4, A5, n5, c5, rfl, E2.a, E2.b, X4, X5, xx, xy, E2.bl⟩
        · go_simp
          refine hK.out _ _ (fun _ => (D2.below (alloc_below _ _)).s4) ?_
          clear hK
          clear K
          try simp only [Act.put, List.setIfInBounds_toArray, List.set_cons_zero, List.set_cons_succ]
          have ab := alloc_below v2 (.cells #[.bool false, .slice none 0 0] 28)
          have T4 := Two.start v2 (.bool false) (.slice none 0 0) 28
          have hg4 := D2.lts
          have hne := T5.lt
          have D3 := D2.below ab
          have T5_3 := T5.below ab
          have rx_3 := rx_2.below ab
          clear ab
          generalize v2.heap.size = g4 at *
          generalize v2.alloc (.cells #[.bool false, .slice none 0 0] 28) = v3 at *
          refine Go.Un.one (i := 3) rfl (by kernel_rfl) (fun K hK => ?_)
          go_simp
          go_at_call 12; (with_reducible refine (HIY.out v3 D3.bl).mono ?_); rintro e v4 ⟨A5, n5, c5, rfl, ry, _, bb⟩
          have D4 := D3.below bb
          have T4_4 := T4.below bb
          have T5_4 := T5_3.below bb
          have rx_4 := rx_3.below bb
          refine hK.out _ _ (fun _ => D4.s4) ?_
          clear hK
          clear K
          clear bb
          try simp only [Act.put, List.setIfInBounds_toArray, List.set_cons_zero, List.set_cons_succ]
          have q0 := T4_4.c0
          have q1 := T4_4.c1
          have f0 := T4_4.f0
          have f1 := T4_4.f1
          have E1 := D4.store hg4 (.bool (decide (x < 0))) (.slice A4 n4 c4)
          have Y5 := Two.far T5_4 (show g5 ≠ g4 by omega) (.bool (decide (x < 0))) (.slice A4 n4 c4)
          have Y4 := T4_4.store (.bool (decide (x < 0))) (.slice A4 n4 c4)
          have yx := si_two rx_4 T4_4 (.bool (decide (x < 0))) (.slice A4 n4 c4)
          have yy := si_two ry T4_4 (.bool (decide (x < 0))) (.slice A4 n4 c4)
          refine Go.Un.one (i := 6) rfl (by kernel_rfl) (fun K hK => ?_)
          go_simp
          refine hK.out _ _ (fun _ => E1.s4) ?_
          clear hK
          clear K
          try simp only [Act.put, List.setIfInBounds_toArray, List.set_cons_zero, List.set_cons_succ]
          clear q0 q1 f0 f1
          generalize ((v4.setCell _ _).setCell _ _) = u1 at *
          have q0 := Y5.c0
          have q1 := Y5.c1
          have f0 := Y5.f0
          have f1 := Y5.f1
          have E2 := E1.store hg5 (.bool (decide (y < 0))) (.slice A5 n5 c5)
          have X4 := Two.far Y4 (show g4 ≠ g5 by omega) (.bool (decide (y < 0))) (.slice A5 n5 c5)
          have X5 := Y5.store (.bool (decide (y < 0))) (.slice A5 n5 c5)
          have xx := si_two yx Y5 (.bool (decide (y < 0))) (.slice A5 n5 c5)
          have xy := si_two yy Y5 (.bool (decide (y < 0))) (.slice A5 n5 c5)
          refine Go.Un.one (i := 7) rfl (by kernel_rfl) (fun K hK => ?_)
          go_simp
          refine hK.out _ _ (fun h => by exact absurd h (by decide)) ?_
          clear hK
          clear K
          try simp only [Act.put, List.setIfInBounds_toArray, List.set_cons_zero, List.set_cons_succ]
          refine Go.Un.done (by kernel_rfl) ?_ _
          exact hk _ _ ⟨g4, g5, A4, n4, c4, A5, n5, c5, rfl, E2.a, E2.b, X4, X5, xx, xy, E2.bl⟩
    · go_simp
      refine hK.out _ _ (fun _ => (D0.below (alloc_below _ _)).s4) ?_
      clear hK
      clear K
      try simp only [Act.put, List.setIfInBounds_toArray, List.set_cons_zero, List.set_cons_succ]
      have ab := alloc_below v0 (.cells #[.bool false, .slice none 0 0] 28)
      have T4 := Two.start v0 (.bool false) (.slice none 0 0) 28
      have hg4 := D0.lts
      have D1 := D0.below ab
      clear ab
      generalize v0.heap.size = g4 at *
      generalize v0.alloc (.cells #[.bool false, .slice none 0 0] 28) = v1 at *
      refine Go.Un.two (i := 1) (j := 5) rfl rfl (by kernel_rfl) (fun K hK => ?_) (fun K hK => ?_)
      · go_simp
        go_at_call 12; (with_reducible refine (HIX.out v1 D1.bl).mono ?_); rintro e v2 ⟨A4, n4, c4, rfl, rx, _, bb⟩
        have D2 := D1.below bb
        have T4_2 := T4.below bb
        refine hK.out _ _ (fun _ => D2.s4) ?_
        clear hK
        clear K
        clear bb
        try simp only [Act.put, List.setIfInBounds_toArray, List.set_cons_zero, List.set_cons_succ]
        refine Go.Un.two (i := 3) (j := 5) rfl rfl (by kernel_rfl) (fun K hK => ?_) (fun K hK => ?_)
        · go_simp
          go_at_call 12; (with_reducible refine (HIY.out v2 D2.bl).mono ?_); rintro e v3 ⟨A5, n5, c5, rfl, ry, _, bb⟩
          have D3 := D2.below bb
          have T4_3 := T4_2.below bb
          have rx_3 := rx.below bb
          refine hK.out _ _ (fun _ => D3.s4) ?_
          clear hK
          clear K
          clear bb
          try simp only [Act.put, List.setIfInBounds_toArray, List.set_cons_zero, List.set_cons_succ]
          refine Go.Un.one (i := 5) rfl (by kernel_rfl) (fun K hK => ?_)
          go_simp
          refine hK.out _ _ (fun _ => (D3.below (alloc_below _ _)).s4) ?_
          clear hK
          clear K
          try simp only [Act.put, List.setIfInBounds_toArray, List.set_cons_zero, List.set_cons_succ]
          have ab := alloc_below v3 (.cells #[.bool false, .slice none 0 0] 28)
          have T5 := Two.start v3 (.bool false) (.slice none 0 0) 28
          have hg5 := D3.lts
          have hne := T4_3.lt
          have D4 := D3.below ab
          have T4_4 := T4_3.below ab
          have rx_4 := rx_3.below ab
          have ry_4 := ry.below ab
          clear ab
          generalize v3.heap.size = g5 at *
          generalize v3.alloc (.cells #[.bool false, .slice none 0 0] 28) = v4 at *
          have q0 := T4_4.c0
          have q1 := T4_4.c1
          have f0 := T4_4.f0
          have f1 := T4_4.f1
          have E1 := D4.store hg4 (.bool (decide (x < 0))) (.slice A4 n4 c4)
          have Y5 := Two.far T5 (show g5 ≠ g4 by omega) (.bool (decide (x < 0))) (.slice A4 n4 c4)
          have Y4 := T4_4.store (.bool (decide (x < 0))) (.slice A4 n4 c4)
          have yx := si_two rx_4 T4_4 (.bool (decide (x < 0))) (.slice A4 n4 c4)
          have yy := si_two ry_4 T4_4 (.bool (decide (x < 0))) (.slice A4 n4 c4)
          refine Go.Un.one (i := 6) rfl (by kernel_rfl) (fun K hK => ?_)
          go_simp
          refine hK.out _ _ (fun _ => E1.s4) ?_
          clear hK
          clear K
          try simp only [Act.put, List.setIfInBounds_toArray, List.set_cons_zero, List.set_cons_succ]
          clear q0 q1 f0 f1
          generalize ((v4.setCell _ _).setCell _ _) = u1 at *
          have q0 := Y5.c0
          have q1 := Y5.c1
          have f0 := Y5.f0
          have f1 := Y5.f1
          have E2 := E1.store hg5 (.bool (decide (y < 0))) (.slice A5 n5 c5)
          have X4 := Two.far Y4 (show g4 ≠ g5 by omega) (.bool (decide (y < 0))) (.slice A5 n5 c5)
          have X5 := Y5.store (.bool (decide (y < 0))) (.slice A5 n5 c5)
          have xx := si_two yx Y5 (.bool (decide (y < 0))) (.slice A5 n5 c5)
          have xy := si_two yy Y5 (.bool (decide (y < 0))) (.slice A5 n5 c5)
          refine Go.Un.one (i := 7) rfl (by kernel_rfl) (fun K hK => ?_)
          go_simp
          refine hK.out _ _ (fun h => by exact absurd h (by decide)) ?_
          clear hK
          clear K
          try simp only [Act.put, List.setIfInBounds_toArray, List.set_cons_zero, List.set_cons_succ]
          refine Go.Un.done (by kernel_rfl) ?_ _
          exact hk _ _ ⟨g4, g5, A4, n4, c4, A5, n5, c5, rfl, E2.a, E2.b, X4, X5, xx, xy, E2.bl⟩
        · go_simp
          refine hK.out _ _ (fun _ => (D2.below (alloc_below _ _)).s4) ?_
          clear hK
          clear K
          try simp only [Act.put, List.setIfInBounds_toArray, List.set_cons_zero, List.set_cons_succ]
          have ab := alloc_below v2 (.cells #[.bool false, .slice none 0 0] 28)
          have T5 := Two.start v2 (.bool false) (.slice none 0 0) 28
          have hg5 := D2.lts
          have hne := T4_2.lt
          have D3 := D2.below ab
          have T4_3 := T4_2.below ab
          have rx_3 := rx.below ab
          clear ab
          generalize v2.heap.size = g5 at *
          generalize v2.alloc (.cells #[.bool false, .slice none 0 0] 28) = v3 at *
          refine Go.Un.one (i := 3) rfl (by kernel_rfl) (fun K hK => ?_)
          go_simp
          go_at_call 12; (with_reducible refine (HIY.out v3 D3.bl).mono ?_); rintro e v4 ⟨A5, n5, c5, rfl, ry, _, bb⟩
          have D4 := D3.below bb
          have T4_4 := T4_3.below bb
          have T5_4 := T5.below bb
          have rx_4 := rx_3.below bb
          refine hK.out _ _ (fun _ => D4.s4) ?_
          clear hK
          clear K
          clear bb
          try simp only [Act.put, List.setIfInBounds_toArray, List.set_cons_zero, List.set_cons_succ]
          have q0 := T4_4.c0
          have q1 := T4_4.c1
          have f0 := T4_4.f0
          have f1 := T4_4.f1
          have E1 := D4.store hg4 (.bool (decide (x < 0))) (.slice A4 n4 c4)
          have Y5 := Two.far T5_4 (show g5 ≠ g4 by omega) (.bool (decide (x < 0))) (.slice A4 n4 c4)
          have Y4 := T4_4.store (.bool (decide (x < 0))) (.slice A4 n4 c4)
          have yx := si_two rx_4 T4_4 (.bool (decide (x < 0))) (.slice A4 n4 c4)
          have yy := si_two ry T4_4 (.bool (decide (x < 0))) (.slice A4 n4 c4)
          refine Go.Un.one (i := 6) rfl (by kernel_rfl) (fun K hK => ?_)
          go_simp
          refine hK.out _ _ (fun _ => E1.s4) ?_
          clear hK
          clear K
          try simp only [Act.put, List.setIfInBounds_toArray, List.set_cons_zero, List.set_cons_succ]
          clear q0 q1 f0 f1
          generalize ((v4.setCell _ _).setCell _ _) = u1 at *
          have q0 := Y5.c0
          have q1 := Y5.c1
          have f0 := Y5.f0
          have f1 := Y5.f1
          have E2 := E1.store hg5 (.bool (decide (y < 0))) (.slice A5 n5 c5)
          have X4 := Two.far Y4 (show g4 ≠ g5 by omega) (.bool (decide (y < 0))) (.slice A5 n5 c5)
          have X5 := Y5.store (.bool (decide (y < 0))) (.slice A5 n5 c5)
          have xx := si_two yx Y5 (.bool (decide (y < 0))) (.slice A5 n5 c5)
          have xy := si_two yy Y5 (.bool (decide (y < 0))) (.slice A5 n5 c5)
          refine Go.Un.one (i := 7) rfl (by kernel_rfl) (fun K hK => ?_)
          go_simp
          refine hK.out _ _ (fun h => by exact absurd h (by decide)) ?_
          clear hK
          clear K
          try simp only [Act.put, List.setIfInBounds_toArray, List.set_cons_zero, List.set_cons_succ]
          refine Go.Un.done (by kernel_rfl) ?_ _
          exact hk _ _ ⟨g4, g5, A4, n4, c4, A5, n5, c5, rfl, E2.a, E2.b, X4, X5, xx, xy, E2.bl⟩
      · go_simp
        refine hK.out _ _ (fun _ => (D1.below (alloc_below _ _)).s4) ?_
        clear hK
        clear K
        try simp only [Act.put, List.setIfInBounds_toArray, List.set_cons_zero, List.set_cons_succ]
        have ab := alloc_below v1 (.cells #[.bool false, .slice none 0 0] 28)
        have T5 := Two.start v1 (.bool false) (.slice none 0 0) 28
        have hg5 := D1.lts
        have hne := T4.lt
        have D2 := D1.below ab
        have T4_2 := T4.below ab
        clear ab
        generalize v1.heap.size = g5 at *
        generalize v1.alloc (.cells #[.bool false, .slice none 0 0] 28) = v2 at *
        refine Go.Un.one (i := 1) rfl (by kernel_rfl) (fun K hK => ?_)
        go_simp
        go_at_call 12; (with_reducible refine (HIX.out v2 D2.bl).mono ?_); rintro e v3 ⟨A4, n4, c4, rfl, rx, _, bb⟩
        have D3 := D2.below bb
        have T4_3 := T4_2.below bb
        have T5_3 := T5.below bb
        refine hK.out _ _ (fun _ => D3.s4) ?_
        clear hK
        clear K
        clear bb
        try simp only [Act.put, List.setIfInBounds_toArray, List.set_cons_zero, List.set_cons_succ]
        refine Go.Un.one (i := 3) rfl (by kernel_rfl) (fun K hK => ?_)
        go_simp
        go_at_call 12; (with_reducible refine (HIY.out v3 D3.bl).mono ?_); rintro e v4 ⟨A5, n5, c5, rfl, ry, _, bb⟩
        have D4 := D3.below bb
        have T4_4 := T4_3.below bb
        have T5_4 := T5_3.below bb
        have rx_4 := rx.below bb
        refine hK.out _ _ (fun _ => D4.s4) ?_
        clear hK
        clear K
        clear bb
        try simp only [Act.put, List.setIfInBounds_toArray, List.set_cons_zero, List.set_cons_succ]
        have q0 := T4_4.c0
        have q1 := T4_4.c1
        have f0 := T4_4.f0
        have f1 := T4_4.f1
        have E1 := D4.store hg4 (.bool (decide (x < 0))) (.slice A4 n4 c4)
        have Y5 := Two.far T5_4 (show g5 ≠ g4 by omega) (.bool (decide (x < 0))) (.slice A4 n4 c4)
        have Y4 := T4_4.store (.bool (decide (x < 0))) (.slice A4 n4 c4)
        have yx := si_two rx_4 T4_4 (.bool (decide (x < 0))) (.slice A4 n4 c4)
        have yy := si_two ry T4_4 (.bool (decide (x < 0))) (.slice A4 n4 c4)
        refine Go.Un.one (i := 6) rfl (by kernel_rfl) (fun K hK => ?_)
        go_simp
        refine hK.out _ _ (fun _ => E1.s4) ?_
        clear hK
        clear K
        try simp only [Act.put, List.setIfInBounds_toArray, List.set_cons_zero, List.set_cons_succ]
        clear q0 q1 f0 f1
        generalize ((v4.setCell _ _).setCell _ _) = u1 at *
        have q0 := Y5.c0
        have q1 := Y5.c1
        have f0 := Y5.f0
        have f1 := Y5.f1
        have E2 := E1.store hg5 (.bool (decide (y < 0))) (.slice A5 n5 c5)
        have X4 := Two.far Y4 (show g4 ≠ g5 by omega) (.bool (decide (y < 0))) (.slice A5 n5 c5)
        have X5 := Y5.store (.bool (decide (y < 0))) (.slice A5 n5 c5)
        have xx := si_two yx Y5 (.bool (decide (y < 0))) (.slice A5 n5 c5)
        have xy := si_two yy Y5 (.bool (decide (y < 0))) (.slice A5 n5 c5)
        refine Go.Un.one (i := 7) rfl (by kernel_rfl) (fun K hK => ?_)
        go_simp
        refine hK.out _ _ (fun h => by exact absurd h (by decide)) ?_
        clear hK
        clear K
        try simp only [Act.put, List.setIfInBounds_toArray, List.set_cons_zero, List.set_cons_succ]
        refine Go.Un.done (by kernel_rfl) ?_ _
        exact hk _ _ ⟨g4, g5, A4, n4, c4, A5, n5, c5, rfl, E2.a, E2.b, X4, X5, xx, xy, E2.bl⟩
    · go_simp
      refine hK.out _ _ (fun _ => (D0.below (alloc_below _ _)).s4) ?_
      clear hK
      clear K
      try simp only [Act.put, List.setIfInBounds_toArray, List.set_cons_zero, List.set_cons_succ]
      have ab := alloc_below v0 (.cells #[.bool false, .slice none 0 0] 28)
      have T5 := Two.start v0 (.bool false) (.slice none 0 0) 28
      have hg5 := D0.lts
      have D1 := D0.below ab
      clear ab
      generalize v0.heap.size = g5 at *
      generalize v0.alloc (.cells #[.bool false, .slice none 0 0] 28) = v1 at *
      refine Go.Un.two (i := 1) (j := 4) rfl rfl (by kernel_rfl) (fun K hK => ?_) (fun K hK => ?_)
      · go_simp
        go_at_call 12; (with_reducible refine (HIX.out v1 D1.bl).mono ?_); rintro e v2 ⟨A4, n4, c4, rfl, rx, _, bb⟩
        have D2 := D1.below bb
        have T5_2 := T5.below bb
        refine hK.out _ _ (fun _ => D2.s4) ?_
        clear hK
        clear K
        clear bb
        try simp only [Act.put, List.setIfInBounds_toArray, List.set_cons_zero, List.set_cons_succ]
        refine Go.Un.two (i := 3) (j := 4) rfl rfl (by kernel_rfl) (fun K hK => ?_) (fun K hK => ?_)
        · go_simp
          go_at_call 12; (with_reducible refine (HIY.out v2 D2.bl).mono ?_); rintro e v3 ⟨A5, n5, c5, rfl, ry, _, bb⟩
          have D3 := D2.below bb
          have T5_3 := T5_2.below bb
          have rx_3 := rx.below bb
          refine hK.out _ _ (fun _ => D3.s4) ?_
          clear hK
          clear K
          clear bb
          try simp only [Act.put, List.setIfInBounds_toArray, List.set_cons_zero, List.set_cons_succ]
          refine Go.Un.one (i := 4) rfl (by kernel_rfl) (fun K hK => ?_)
          go_simp
          refine hK.out _ _ (fun _ => (D3.below (alloc_below _ _)).s4) ?_
          clear hK
          clear K
          try simp only [Act.put, List.setIfInBounds_toArray, List.set_cons_zero, List.set_cons_succ]
          have ab := alloc_below v3 (.cells #[.bool false, .slice none 0 0] 28)
          have T4 := Two.start v3 (.bool false) (.slice none 0 0) 28
          have hg4 := D3.lts
          have hne := T5_3.lt
          have D4 := D3.below ab
          have T5_4 := T5_3.below ab
          have rx_4 := rx_3.below ab
          have ry_4 := ry.below ab
          clear ab
          generalize v3.heap.size = g4 at *
          generalize v3.alloc (.cells #[.bool false, .slice none 0 0] 28) = v4 at *
          have q0 := T4.c0
          have q1 := T4.c1
          have f0 := T4.f0
          have f1 := T4.f1
          have E1 := D4.store hg4 (.bool (decide (x < 0))) (.slice A4 n4 c4)
          have Y5 := Two.far T5_4 (show g5 ≠ g4 by omega) (.bool (decide (x < 0))) (.slice A4 n4 c4)
          have Y4 := T4.store (.bool (decide (x < 0))) (.slice A4 n4 c4)
          have yx := si_two rx_4 T4 (.bool (decide (x < 0))) (.slice A4 n4 c4)
          have yy := si_two ry_4 T4 (.bool (decide (x < 0))) (.slice A4 n4 c4)
          refine Go.Un.one (i := 6) rfl (by kernel_rfl) (fun K hK => ?_)
          go_simp
          refine hK.out _ _ (fun _ => E1.s4) ?_
          clear hK
          clear K
          try simp only [Act.put, List.setIfInBounds_toArray, List.set_cons_zero, List.set_cons_succ]
          clear q0 q1 f0 f1
          generalize ((v4.setCell _ _).setCell _ _) = u1 at *
          have q0 := Y5.c0
          have q1 := Y5.c1
          have f0 := Y5.f0
          have f1 := Y5.f1
          have E2 := E1.store hg5 (.bool (decide (y < 0))) (.slice A5 n5 c5)
          have X4 := Two.far Y4 (show g4 ≠ g5 by omega) (.bool (decide (y < 0))) (.slice A5 n5 c5)
          have X5 := Y5.store (.bool (decide (y < 0))) (.slice A5 n5 c5)
          have xx := si_two yx Y5 (.bool (decide (y < 0))) (.slice A5 n5 c5)
          have xy := si_two yy Y5 (.bool (decide (y < 0))) (.slice A5 n5 c5)
          refine Go.Un.one (i := 7) rfl (by kernel_rfl) (fun K hK => ?_)
          go_simp
          refine hK.out _ _ (fun h => by exact absurd h (by decide)) ?_
          clear hK
          clear K
          try simp only [Act.put, List.setIfInBounds_toArray, List.set_cons_zero, List.set_cons_succ]
          refine Go.Un.done (by kernel_rfl) ?_ _
          exact hk _ _ ⟨g4, g5, A4, n4, c4, A5, n5, c5, rfl, E2.a, E2.b, X4, X5, xx, xy, E2.bl⟩
        · go_simp
          refine hK.out _ _ (fun _ => (D2.below (alloc_below _ _)).s4) ?_
          clear hK
          clear K
          try simp only [Act.put, List.setIfInBounds_toArray, List.set_cons_zero, List.set_cons_succ]
          have ab := alloc_below v2 (.cells #[.bool false, .slice none 0 0] 28)
          have T4 := Two.start v2 (.bool false) (.slice none 0 0) 28
          have hg4 := D2.lts
          have hne := T5_2.lt
          have D3 := D2.below ab
          have T5_3 := T5_2.below ab
          have rx_3 := rx.below ab
          clear ab
          generalize v2.heap.size = g4 at *
          generalize v2.alloc (.cells #[.bool false, .slice none 0 0] 28) = v3 at *
          refine Go.Un.one (i := 3) rfl (by kernel_rfl) (fun K hK => ?_)
          go_simp
          go_at_call 12; (with_reducible refine (HIY.out v3 D3.bl).mono ?_); rintro e v4 ⟨A5, n5, c5, rfl, ry, _, bb⟩
          have D4 := D3.below bb
          have T4_4 := T4.below bb
          have T5_4 := T5_3.below bb
          have rx_4 := rx_3.below bb
          refine hK.out _ _ (fun _ => D4.s4) ?_
          clear hK
          clear K
          clear bb
          try simp only [Act.put, List.setIfInBounds_toArray, List.set_cons_zero, List.set_cons_succ]
          have q0 := T4_4.c0
          have q1 := T4_4.c1
          have f0 := T4_4.f0
          have f1 := T4_4.f1
          have E1 := D4.store hg4 (.bool (decide (x < 0))) (.slice A4 n4 c4)
          have Y5 := Two.far T5_4 (show g5 ≠ g4 by omega) (.bool (decide (x < 0))) (.slice A4 n4 c4)
          have Y4 := T4_4.store (.bool (decide (x < 0))) (.slice A4 n4 c4)
          have yx := si_two rx_4 T4_4 (.bool (decide (x < 0))) (.slice A4 n4 c4)
          have yy := si_two ry T4_4 (.bool (decide (x < 0))) (.slice A4 n4 c4)
          refine Go.Un.one (i := 6) rfl (by kernel_rfl) (fun K hK => ?_)
          go_simp
          refine hK.out _ _ (fun _ => E1.s4) ?_
          clear hK
          clear K
          try simp only [Act.put, List.setIfInBounds_toArray, List.set_cons_zero, List.set_cons_succ]
          clear q0 q1 f0 f1
          generalize ((v4.setCell _ _).setCell _ _) = u1 at *
          have q0 := Y5.c0
          have q1 := Y5.c1
          have f0 := Y5.f0
          have f1 := Y5.f1
          have E2 := E1.store hg5 (.bool (decide (y < 0))) (.slice A5 n5 c5)
          have X4 := Two.far Y4 (show g4 ≠ g5 by omega) (.bool (decide (y < 0))) (.slice A5 n5 c5)
          have X5 := Y5.store (.bool (decide (y < 0))) (.slice A5 n5 c5)
          have xx := si_two yx Y5 (.bool (decide (y < 0))) (.slice A5 n5 c5)
          have xy := si_two yy Y5 (.bool (decide (y < 0))) (.slice A5 n5 c5)
          refine Go.Un.one (i := 7) rfl (by kernel_rfl) (fun K hK => ?_)
          go_simp
          refine hK.out _ _ (fun h => by exact absurd h (by decide)) ?_
          clear hK
          clear K
          try simp only [Act.put, List.setIfInBounds_toArray, List.set_cons_zero, List.set_cons_succ]
          refine Go.Un.done (by kernel_rfl) ?_ _
          exact hk _ _ ⟨g4, g5, A4, n4, c4, A5, n5, c5, rfl, E2.a, E2.b, X4, X5, xx, xy, E2.bl⟩
      · go_simp
        refine hK.out _ _ (fun _ => (D1.below (alloc_below _ _)).s4) ?_
        clear hK
        clear K
        try simp only [Act.put, List.setIfInBounds_toArray, List.set_cons_zero, List.set_cons_succ]
        have ab := alloc_below v1 (.cells #[.bool false, .slice none 0 0] 28)
        have T4 := Two.start v1 (.bool false) (.slice none 0 0) 28
        have hg4 := D1.lts
        have hne := T5.lt
        have D2 := D1.below ab
        have T5_2 := T5.below ab
        clear ab
        generalize v1.heap.size = g4 at *
        generalize v1.alloc (.cells #[.bool false, .slice none 0 0] 28) = v2 at *
        refine Go.Un.one (i := 1) rfl (by kernel_rfl) (fun K hK => ?_)
        go_simp
        go_at_call 12; (with_reducible refine (HIX.out v2 D2.bl).mono ?_); rintro e v3 ⟨A4, n4, c4, rfl, rx, _, bb⟩
        have D3 := D2.below bb
        have T4_3 := T4.below bb
        have T5_3 := T5_2.below bb
        refine hK.out _ _ (fun _ => D3.s4) ?_
        clear hK
        clear K
        clear bb
        try simp only [Act.put, List.setIfInBounds_toArray, List.set_cons_zero, List.set_cons_succ]
        refine Go.Un.one (i := 3) rfl (by kernel_rfl) (fun K hK => ?_)
        go_simp
        go_at_call 12; (with_reducible refine (HIY.out v3 D3.bl).mono ?_); rintro e v4 ⟨A5, n5, c5, rfl, ry, _, bb⟩
        have D4 := D3.below bb
        have T4_4 := T4_3.below bb
        have T5_4 := T5_3.below bb
        have rx_4 := rx.below bb
        refine hK.out _ _ (fun _ => D4.s4) ?_
        clear hK
        clear K
        clear bb
        try simp only [Act.put, List.setIfInBounds_toArray, List.set_cons_zero, List.set_cons_succ]
        have q0 := T4_4.c0
        have q1 := T4_4.c1
        have f0 := T4_4.f0
        have f1 := T4_4.f1
        have E1 := D4.store hg4 (.bool (decide (x < 0))) (.slice A4 n4 c4)
        have Y5 := Two.far T5_4 (show g5 ≠ g4 by omega) (.bool (decide (x < 0))) (.slice A4 n4 c4)
        have Y4 := T4_4.store (.bool (decide (x < 0))) (.slice A4 n4 c4)
        have yx := si_two rx_4 T4_4 (.bool (decide (x < 0))) (.slice A4 n4 c4)
        have yy := si_two ry T4_4 (.bool (decide (x < 0))) (.slice A4 n4 c4)
        refine Go.Un.one (i := 6) rfl (by kernel_rfl) (fun K hK => ?_)
        go_simp
        refine hK.out _ _ (fun _ => E1.s4) ?_
        clear hK
        clear K
        try simp only [Act.put, List.setIfInBounds_toArray, List.set_cons_zero, List.set_cons_succ]
        clear q0 q1 f0 f1
        generalize ((v4.setCell _ _).setCell _ _) = u1 at *
        have q0 := Y5.c0
        have q1 := Y5.c1
        have f0 := Y5.f0
        have f1 := Y5.f1
        have E2 := E1.store hg5 (.bool (decide (y < 0))) (.slice A5 n5 c5)
        have X4 := Two.far Y4 (show g4 ≠ g5 by omega) (.bool (decide (y < 0))) (.slice A5 n5 c5)
        have X5 := Y5.store (.bool (decide (y < 0))) (.slice A5 n5 c5)
        have xx := si_two yx Y5 (.bool (decide (y < 0))) (.slice A5 n5 c5)
        have xy := si_two yy Y5 (.bool (decide (y < 0))) (.slice A5 n5 c5)
        refine Go.Un.one (i := 7) rfl (by kernel_rfl) (fun K hK => ?_)
        go_simp
        refine hK.out _ _ (fun h => by exact absurd h (by decide)) ?_
        clear hK
        clear K
        try simp only [Act.put, List.setIfInBounds_toArray, List.set_cons_zero, List.set_cons_succ]
        refine Go.Un.done (by kernel_rfl) ?_ _
        exact hk _ _ ⟨g4, g5, A4, n4, c4, A5, n5, c5, rfl, E2.a, E2.b, X4, X5, xx, xy, E2.bl⟩
end Go.Proofs.YtkaajgcjdgjcbaaGreatDoor.Aw
