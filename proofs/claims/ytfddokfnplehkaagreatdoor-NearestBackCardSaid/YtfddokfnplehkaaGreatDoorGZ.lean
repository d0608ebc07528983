/- Texts of one layer, joined: Fq. -/
import Derived.Test.YtfddokfnplehkaaGreatDoorFC
set_option linter.unusedVariables false
set_option linter.unusedSimpArgs false
set_option linter.unusedSectionVars false
/- Layer 4's laws: NearestBack. -/
set_option linter.unusedSimpArgs false
set_option linter.unusedVariables false
namespace Go.Proofs.YtfddokfnplehkaaGreatDoor.Nr
open Go.RowKit Go.Proofs.YtfddokfnplehkaaGreatDoor.Dig Go.Proofs.YtfddokfnplehkaaGreatDoor.W Go.Proofs.YtfddokfnplehkaaGreatDoor.Nat Go.Proofs.YtfddokfnplehkaaGreatDoor.Wh Go.Proofs.YtfddokfnplehkaaGreatDoor.Td Go.Proofs.YtfddokfnplehkaaGreatDoor.Bu Go.Proofs.YtfddokfnplehkaaGreatDoor.Tx Go.Proofs.YtfddokfnplehkaaGreatDoor.Sp
open Go.Proofs.YtfddokfnplehkaaGreatDoor.Rd (stand Formed fits mayB)
open Go.Proofs.YtfddokfnplehkaaGreatDoor.Dc (on dec str four)

theorem andNot64 (a : Nat) (ha : a < 18446744073709551616) : Go.bits .andNot .u64 (a : Int) 9223372036854775808 = ((a % 9223372036854775808 : Nat) : Int) := by
  have e2 : (BitVec.ofInt 64 (a : Int) &&& ~~~ BitVec.ofInt 64 9223372036854775808).toNat = a % 9223372036854775808 := by
    rw [BitVec.toNat_and, Sh.ofInt_u64 a ha, show (~~~ BitVec.ofInt 64 9223372036854775808).toNat = 2 ^ 63 - 1 by decide, Nat.and_two_pow_sub_one_eq_mod]
  show IntKind.u64.wrap ((BitVec.ofInt 64 (a : Int) &&& ~~~ BitVec.ofInt 64 9223372036854775808).toNat : Int) = _
  rw [e2, IntKind.wrap_u64]
  omega
theorem ofInt_u32 (a : Nat) (ha : a < 4294967296) : (BitVec.ofInt 32 (a : Int)).toNat = a := by
  rw [BitVec.ofInt_natCast, BitVec.toNat_ofNat]; exact Nat.mod_eq_of_lt (by omega)
theorem andNot32 (a : Nat) (ha : a < 4294967296) : Go.bits .andNot .u32 (a : Int) 2147483648 = ((a % 2147483648 : Nat) : Int) := by
  have e2 : (BitVec.ofInt 32 (a : Int) &&& ~~~ BitVec.ofInt 32 2147483648).toNat = a % 2147483648 := by
    rw [BitVec.toNat_and, ofInt_u32 a ha, show (~~~ BitVec.ofInt 32 2147483648).toNat = 2 ^ 31 - 1 by decide, Nat.and_two_pow_sub_one_eq_mod]
  show IntKind.u32.wrap ((BitVec.ofInt 32 (a : Int) &&& ~~~ BitVec.ofInt 32 2147483648).toNat : Int) = _
  rw [e2, IntKind.wrap_u32]
  omega
set_option maxHeartbeats 16000000 in
set_option maxRecDepth 100000 in
theorem nearestBack_calls {wide narrow : Nat} (hw : wide < 18446744073709551616) (hn : narrow < 4294967296) (w : World) (hp : Pow w) :
    Calls Tryz.prog 9 #[.int .u64 (wide : Nat), .int .u32 (narrow : Nat)] w fun e w' => e = .returned (.bool true) ∧ Below w.heap.size w w' := by
  have HA := Lib.hid (fun w1 (b : Below w.heap.size w w1) => awake_calls w1 (hp.below b))
  have H1 := fun w1 (b : Below w.heap.size w w1) => Sh.Of64_calls hw w1 (hp.below b)
  have H2 := fun w1 (b : Below w.heap.size w w1) => Sh.Exact64_calls hw w1 (hp.below b)
  have H3 := fun w1 (b : Below w.heap.size w w1) => Sh.Of32_calls hn w1 (hp.below b)
  have H4 := fun w1 (b : Below w.heap.size w w1) => Sh.Exact32_calls hn w1 (hp.below b)
  have K1 := fun w1 => To64_calls (oP_w wide) w1 (len_p (backO_w hw).1)
  have K2 := fun w1 => To64_calls (eP_w wide) w1 (len_p (backE_w hw).1)
  have K3 := fun w1 => To32_calls (oP_n narrow) w1 (len_p (backO_n hn).1)
  have K4 := fun w1 => To32_calls (eP_n narrow) w1 (len_p (backE_n hn).1)
  unfold pE at K1 K2 K3 K4
  simp only [(backO_w hw).1, (backO_w hw).2, if_true] at K1
  simp only [(backE_w hw).1, (backE_w hw).2, if_true] at K2
  simp only [(backO_n hn).1, (backO_n hn).2, if_true] at K3
  simp only [(backE_n hn).1, (backE_n hn).2, if_true] at K4
  simp only [oV_p_w] at H1
  simp only [eV_p_w] at H2
  simp only [oV_p_n] at H3
  simp only [eV_p_n] at H4
  obtain ⟨c1, g1, l1, x1, e1⟩ := pV_four (oP_w wide)
  obtain ⟨c2, g2, l2, x2, e2⟩ := pV_four (eP_w wide)
  obtain ⟨c3, g3, l3, x3, e3⟩ := pV_four (oP_n narrow)
  obtain ⟨c4, g4, l4, x4, e4⟩ := pV_four (eP_n narrow)
  simp only [e1] at H1 K1
  simp only [e2] at H2 K2
  simp only [e3] at H3 K3
  simp only [e4] at H4 K4
  have hlw : canon_w wide < 18446744073709551616 := by unfold canon_w; split <;> omega
  have hln : canon_n narrow < 4294967296 := by unfold canon_n; split <;> omega
  have HW := Lib.hid (show canon_w wide = if 9218868437227405312 < wide % 9223372036854775808 then 9221120237041090561 else wide from rfl)
  have HN := Lib.hid (show canon_n narrow = if 2139095040 < narrow % 2147483648 then 2143289345 else narrow from rfl)
  generalize canon_w wide = A at *
  generalize canon_n narrow = B at *
  clear e1 e2 e3 e4 hp
  replace H1 := Lib.hid H1
  replace H2 := Lib.hid H2
  replace H3 := Lib.hid H3
  replace H4 := Lib.hid H4
  replace K1 := Lib.hid K1
  replace K2 := Lib.hid K2
  replace K3 := Lib.hid K3
  replace K4 := Lib.hid K4
  have a1 := andNot64 wide hw
  have a2 := andNot32 narrow hn
  have hA : (decide ((9218868437227405312 : Int) < Go.bits .andNot .u64 (wide : Int) 9223372036854775808) = true ∧ A = 9221120237041090561) ∨ (decide ((9218868437227405312 : Int) < Go.bits .andNot .u64 (wide : Int) 9223372036854775808) = false ∧ A = wide) := by
    have e := HW.out
    rw [a1]
    by_cases h : 9218868437227405312 < wide % 9223372036854775808
    · rw [if_pos h] at e; exact .inl ⟨decide_eq_true (by omega), e⟩
    · rw [if_neg h] at e; exact .inr ⟨decide_eq_false (by omega), e⟩
  have hB : (decide ((2139095040 : Int) < Go.bits .andNot .u32 (narrow : Int) 2147483648) = true ∧ B = 2143289345) ∨ (decide ((2139095040 : Int) < Go.bits .andNot .u32 (narrow : Int) 2147483648) = false ∧ B = narrow) := by
    have e := HN.out
    rw [a2]
    by_cases h : 2139095040 < narrow % 2147483648
    · rw [if_pos h] at e; exact .inl ⟨decide_eq_true (by omega), e⟩
    · rw [if_neg h] at e; exact .inr ⟨decide_eq_false (by omega), e⟩
  clear HW HN a1 a2
  rcases hA with ⟨d1, rfl⟩ | ⟨d1, rfl⟩ <;> rcases hB with ⟨d2, rfl⟩ | ⟨d2, rfl⟩
  all_goals
    go_enter Tryz.func9, Tryz.ntmps9
    go_wp2_with (first
      | (go_at_call 32; (with_reducible refine (H1.out _ (Below.refl _ _)).mono ?_); rintro e w1 ⟨rfl, b1⟩)
      | (go_at_call 11; first
        | (have tag := z3; (with_reducible refine (K2.out _).mono ?_); rintro e w4 ⟨rfl, b4⟩; have z4 := on z3 b4)
        | ((with_reducible refine (K1.out _).mono ?_); rintro e w2 ⟨rfl, b2⟩; have z2 := on b1 b2))
      | (go_at_call 26; (with_reducible refine (H2.out _ z2).mono ?_); rintro e w3 ⟨rfl, b3⟩; have z3 := on z2 b3)
      | (go_at_call 34; (with_reducible refine (H3.out _ z4).mono ?_); rintro e w5 ⟨rfl, b5⟩; have z5 := on z4 b5)
      | (go_at_call 16; first
        | (have tag := z7; (with_reducible refine (K4.out _).mono ?_); rintro e w8 ⟨rfl, b8⟩; have z8 := on z7 b8)
        | ((with_reducible refine (K3.out _).mono ?_); rintro e w6 ⟨rfl, b6⟩; have z6 := on z5 b6))
      | (go_at_call 35; (with_reducible refine (H4.out _ z6).mono ?_); rintro e w7 ⟨rfl, b7⟩; have z7 := on z6 b7)
      | (go_at_call 12; (with_reducible refine (HA.out _ z8).mono ?_); rintro e w9 ⟨rfl, b9⟩; have z9 := on z8 b9))
    go_ret
    exact ⟨rfl, z9⟩
theorem nearestBack_row (z y : Int) (h0 : 0 ≤ z) (h1 : z < 18446744073709551616) (h2 : 0 ≤ y) (h3 : y < 4294967296) (w : World) (hp : Pow w) :
    Calls Tryz.prog 9 #[.int .u64 z, .int .u32 y] w fun e w' => e = .returned (.bool true) ∧ Below w.heap.size w w' := by
  obtain ⟨n, rfl⟩ : ∃ n : Nat, z = n := ⟨z.toNat, by omega⟩
  obtain ⟨m, rfl⟩ : ∃ m : Nat, y = m := ⟨y.toNat, by omega⟩
  exact nearestBack_calls (by omega) (by omega) w hp
end Go.Proofs.YtfddokfnplehkaaGreatDoor.Nr
