/- Texts of one layer, joined: La. -/
import Derived.Test.YtkaajgcjdgjcbaaGreatDoorGF
set_option linter.unusedVariables false
set_option linter.unusedSimpArgs false
set_option linter.unusedSectionVars false
/- Layer 2's laws: WholePowers. -/
namespace Go.Proofs.YtkaajgcjdgjcbaaGreatDoor.Aw
open Go.RowKit Go.Proofs.YtkaajgcjdgjcbaaGreatDoor.Dig Go.Proofs.YtkaajgcjdgjcbaaGreatDoor.W Go.Proofs.YtkaajgcjdgjcbaaGreatDoor.Nat Go.Proofs.YtkaajgcjdgjcbaaGreatDoor.Wh Go.Proofs.YtkaajgcjdgjcbaaGreatDoor.Td Go.Proofs.YtkaajgcjdgjcbaaGreatDoor.Bu Go.Proofs.YtkaajgcjdgjcbaaGreatDoor.Tx
open Go.Proofs.YtkaajgcjdgjcbaaGreatDoor.Rf (V V_two V_pos)

theorem on {w W W' : World} (h : Below w.heap.size w W) (b : Below W.heap.size W W') : Below w.heap.size w W' := h.trans (b.mono h.size)
theorem rpow5 (n : Nat) (w : World) (hn : n ≤ 8192) : Calls Tryz.prog 30 #[.int .i64 5, .int .i64 (n : Nat)] w (Gives w .u32 (digs V (5 ^ n))) := rpow_calls 5 n w (by omega) (by omega) (by omega)
theorem rshl_d (A : Option Addr) (n c m k : Nat) (w : World) (h : SI w .u32 A n c (digs V m)) (hn : n ≤ 4398046511104) (hk : k ≤ 65536) :
    Calls Tryz.prog 33 #[.slice A n c, .int .i64 (k : Nat)] w (Rf.GivesF w .u32 (digs V (m * 2 ^ k))) := by
  have e := Rf.shl_calls A n c (digs V m) k w h (digs_lt V_two m) hn hk
  rw [val_digs V_two] at e
  exact e
theorem rpow_len' {a n x M : Nat} (ha : a ≤ 10) (hx : x ≤ a ^ n) (hn : n ≤ M) (hM : M ≠ 0) : (digs V x).length ≤ M := by
  refine (digs_length_le V_two _ _).2 (Nat.lt_of_le_of_lt hx ?_)
  have h1 : a ^ n ≤ 10 ^ n := Nat.pow_le_pow_left ha n
  have h2 : 10 ^ n ≤ 10 ^ M := Nat.pow_le_pow_right (by omega) hn
  have h3 : 10 ^ M < V ^ M := Nat.pow_lt_pow_left (by decide) hM
  exact Nat.lt_of_le_of_lt (Nat.le_trans h1 h2) h3
theorem rpow_len {a n x : Nat} (ha : a ≤ 10) (hx : x ≤ a ^ n) (hn : n ≤ 8192) : (digs V x).length ≤ 8192 := rpow_len' ha hx hn (by decide)
theorem five_ten (k : Nat) : 5 ^ k * 2 ^ k = 10 ^ k := by rw [← Nat.mul_pow]
set_option maxHeartbeats 4000000 in
set_option maxRecDepth 100000 in
theorem wholePowers_calls (z : Int) (w : World) (hp : Pow w) :
    Calls Tryz.prog 5 #[.int .i64 z] w fun e w' => e = .returned (.bool true) ∧ Below w.heap.size w w' := by
  have HP := Lib.hid hp
  clear hp
  by_cases hin : 0 ≤ z ∧ z ≤ 8192
  · obtain ⟨k, rfl⟩ : ∃ k : Nat, z = k := ⟨z.toNat, by omega⟩
    have hk : k ≤ 8192 := by omega
    clear hin
    have hL1 := rpow_len (a := 5) (by omega) (Nat.le_refl _) hk
    have hL2 := rpow_len (a := 10) (by omega) (Nat.le_refl _) hk
    have HL1 := Lib.hid hL1
    have HL2 := Lib.hid hL2
    have h5 := five_ten k
    have H5 := Lib.hid h5
    have HA := Lib.hid (fun w1 => pow5_calls k w1 hk)
    have HB := Lib.hid (fun w1 => Wh.pow10_calls k w1 hk)
    have HC := Lib.hid (fun w1 => rpow5 k w1 hk)
    have HD := Lib.hid (fun (A : Option Addr) (n c : Nat) (w1 : World) (h : SI w1 .u32 A n c (digs V (5 ^ k))) => rshl_d A n c (5 ^ k) k w1 h (by rw [← h.len]; omega) (by omega))
    rw [h5] at HD
    clear hL1 hL2 h5
    generalize 5 ^ k = p at *
    generalize 10 ^ k = t at *
    go_enter Tryz.func5, Tryz.ntmps5
    go_wp2_with (first
      | (go_at_call 28; (with_reducible refine (HA.out w).mono ?_); rintro e w1 ⟨A1, n1, c1, rfl, r1, b1⟩)
      | (go_at_call 29; (with_reducible refine (HB.out w1).mono ?_); rintro e w2 ⟨A2, n2, c2, rfl, r2, b2⟩)
      | (go_at_call 13; (with_reducible refine (awake_calls w2 ((HP.out.below b1).below b2)).mono ?_); rintro e w3 ⟨rfl, b3⟩)
      | (go_at_call 30; (with_reducible refine (HC.out w3).mono ?_); rintro e w4 ⟨A4, n4, c4, rfl, r4, b4⟩)
      | (go_at_call 32; first
        | ((with_reducible refine (Rw.out_d A4 n4 c4 p w4 r4 (by rw [← r4.len]; have := HL1.out; omega)).mono ?_); rintro e w5 ⟨v5, rfl, o5, b5⟩; obtain ⟨A5, n5, c5, rfl, r5⟩ := o5.reads_n)
        | ((with_reducible refine (Rw.out_d A7 n7 c7 t w7 r7 (by rw [← r7.len]; have := HL2.out; omega)).mono ?_); rintro e w8 ⟨v8, rfl, o8, b8⟩; obtain ⟨A8, n8, c8, rfl, r8⟩ := o8.reads_n))
      | (go_at_call 31; first
        | ((with_reducible refine (Rf.same_calls A1 A5 n1 c1 n5 c5 _ w5 ((((r1.below b2).below b3).below b4).below b5) r5).mono ?_); rintro e w6 ⟨rfl, d6⟩)
        | ((with_reducible refine (Rf.same_calls A2 A8 n2 c2 n8 c8 _ w8 ((((((r2.below b3).below b4).below b5).below d6.below).below b7).below b8) r8).mono ?_); rintro e w9 ⟨rfl, d9⟩))
      | (go_at_call 33; (with_reducible refine (HD.out A4 n4 c4 w6 ((r4.below b5).below d6.below)).mono ?_); rintro e w7 ⟨A7, n7, c7, rfl, r7, f7, b7⟩))
    go_ret
    exact ⟨rfl, on (on (on (on (on (on (on (on b1 b2) b3) b4) b5) d6.below) b7) b8) d9.below⟩
  · have hin' : z < 0 ∨ 8192 < z := by omega
    have HA := Lib.hid (fun w1 => pow5_err z w1 hin')
    have HB := Lib.hid (fun w1 => pow10_err z w1 hin')
    rcases Int.lt_or_le z 0 with h0 | h0
    · have hd1 : decide (z < 0) = true := decide_eq_true h0
      clear hin hin' h0
      go_enter Tryz.func5, Tryz.ntmps5
      go_wp2_with (first
        | (go_at_call 28; (with_reducible refine (HA.out w).mono ?_); rintro e w1 ⟨rfl, rfl⟩)
        | (go_at_call 29; (with_reducible refine (HB.out w).mono ?_); rintro e w2 ⟨rfl, rfl⟩)
        | (go_at_call 13; (with_reducible refine (awake_calls w HP.out).mono ?_); rintro e w3 ⟨rfl, b3⟩))
      go_ret
      exact ⟨rfl, b3⟩
    · have hd1 : decide (z < 0) = false := decide_eq_false (by omega)
      have hd2 : decide (8192 < z) = true := decide_eq_true (by omega)
      clear hin hin' h0
      go_enter Tryz.func5, Tryz.ntmps5
      go_wp2_with (first
        | (go_at_call 28; (with_reducible refine (HA.out w).mono ?_); rintro e w1 ⟨rfl, rfl⟩)
        | (go_at_call 29; (with_reducible refine (HB.out w).mono ?_); rintro e w2 ⟨rfl, rfl⟩)
        | (go_at_call 13; (with_reducible refine (awake_calls w HP.out).mono ?_); rintro e w3 ⟨rfl, b3⟩))
      go_ret
      exact ⟨rfl, b3⟩
end Go.Proofs.YtkaajgcjdgjcbaaGreatDoor.Aw
