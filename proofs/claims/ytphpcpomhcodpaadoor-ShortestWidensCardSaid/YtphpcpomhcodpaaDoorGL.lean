/- Texts of one layer, joined: Jg. -/
import Derived.Test.YtphpcpomhcodpaaDoorGK
import Derived.Test.YtphpcpomhcodpaaDoorGH
import Derived.Deep.DeepCutAuto
set_option linter.unusedVariables false
set_option linter.unusedSimpArgs false
set_option linter.unusedSectionVars false
/- Layer 3's laws: ShortestWidens. -/
set_option linter.unusedSimpArgs false
set_option linter.unusedVariables false
namespace Go.Proofs.YtphpcpomhcodpaaDoor.Sh
open Go.RowKit Go.Proofs.YtphpcpomhcodpaaDoor.Dig Go.Proofs.YtphpcpomhcodpaaDoor.W Go.Proofs.YtphpcpomhcodpaaDoor.Nat Go.Proofs.YtphpcpomhcodpaaDoor.Wh Go.Proofs.YtphpcpomhcodpaaDoor.Td Go.Proofs.YtphpcpomhcodpaaDoor.Bu Go.Proofs.YtphpcpomhcodpaaDoor.Tx Go.Proofs.YtphpcpomhcodpaaDoor.Sp

attribute [local go_sem ↓] eq_dec
theorem ofInt_u32 (a : Nat) (ha : a < 4294967296) : (BitVec.ofInt 32 (a : Int)).toNat = a := by
  rw [BitVec.ofInt_natCast, BitVec.toNat_ofNat]; exact Nat.mod_eq_of_lt (by omega)
theorem and32 (a k : Nat) (ha : a < 4294967296) (hk : k ≤ 31) : Go.bits .and .u32 (a : Int) ((2 ^ k - 1 : Nat) : Int) = ((a % 2 ^ k : Nat) : Int) := by
  have hb : 2 ^ k ≤ 2 ^ 31 := Nat.pow_le_pow_right (by omega) hk
  have hx : a &&& (2 ^ k - 1) < 2 ^ 32 := Nat.and_lt_two_pow _ (by omega)
  show IntKind.u32.wrap ((BitVec.ofInt 32 (a : Int) &&& BitVec.ofInt 32 ((2 ^ k - 1 : Nat) : Int)).toNat : Int) = _
  rw [BitVec.toNat_and, ofInt_u32 a ha, ofInt_u32 _ (by omega), IntKind.wrap_u32, ← Nat.and_two_pow_sub_one_eq_mod]
  omega
theorem or_add (a b k : Nat) (ha : a < 2 ^ k) (hb : b * 2 ^ k < 18446744073709551616) (ha2 : a < 18446744073709551616) : Go.bits .or .u64 ((b * 2 ^ k : Nat) : Int) (a : Int) = ((b * 2 ^ k + a : Nat) : Int) := by
  rw [or_nat _ _ hb ha2]
  congr 1
  have h := Nat.two_pow_add_eq_or_of_lt ha b
  rw [Nat.mul_comm, h]
/-- what the two widths say of one float -/
theorem wide_plain {bits x m : Nat} {ng : Bool} (hb : bits < 4294967296) (h : bits % 2147483648 = x * 8388608 + m) (hm : m < 8388608) (hx : 0 < x) (hx2 : x < 255) (hn : bits / 2147483648 = if ng then 1 else 0) (W : Nat) (hW : W = (if ng then 1 else 0) * 9223372036854775808 + ((x + 896) * 4503599627370496 + m * 536870912)) :
    W < 18446744073709551616 ∧ eV_n bits = eV_w W ∧ ∃ (l : List UInt8) (x1 : Int) (l' : List UInt8) (x1' : Int), oV_n bits = #[.int .i64 0, .bool ng, .string ⟨l.toArray⟩, .int .i64 x1] ∧ oV_w W = #[.int .i64 0, .bool ng, .string ⟨l'.toArray⟩, .int .i64 x1'] ∧ l.length ≤ l'.length := by
  have e1 : W % 9223372036854775808 = (x + 896) * 4503599627370496 + m * 536870912 := by rw [hW]; cases ng <;> simp <;> omega
  have e2 : W / 9223372036854775808 = if ng then 1 else 0 := by rw [hW]; cases ng <;> simp <;> omega
  have hng : decide (bits / 2147483648 = 1) = ng := by rw [hn]; cases ng <;> rfl
  have hng2 : decide (W / 9223372036854775808 = 1) = ng := by rw [e2]; cases ng <;> rfl
  have f := wide_x (M := 23) (d := 29) (x := x) (x' := x + 896) (m := m) (E := 925) hx (by omega) (by simpa using hm) (by omega) 149
  have f2 := wide_f (M := 23) (d := 29) (x := x) (x' := x + 896) (m := m) (E := 925) hx (by omega) (by simpa using hm) (by omega) (by omega) (by omega) 151
  simp only [Nat.reducePow, Nat.reduceAdd] at f f2
  refine ⟨by rw [hW]; cases ng <;> simp <;> omega, ?_, ?_⟩
  · unfold eV_n eV_w
    rw [h, e1, hng, hng2, if_neg (by omega), if_neg (by omega)]
    simp only [Nat.reducePow]
    rw [f.1, f.2]
  · unfold oV_n oV_w
    rw [h, e1, hng, hng2, if_neg (by omega), if_neg (by omega), if_neg (by omega), if_neg (by omega)]
    exact ⟨_, _, _, _, rfl, rfl, f2⟩
theorem fld (a d : Int) (b : Bool) (c : ByteArray) : ∀ w, (Instr.field 24 (.agg #[.int .i64 a, .bool b, .string c, .int .i64 d]) 2).run Tryd.prog w = .ok (.string c) w := fun _ => by kernel_rfl
set_option maxHeartbeats 8000000 in
set_option maxRecDepth 100000 in
theorem shortestWidens_calls (z : Int) (h0 : 0 ≤ z) (h1 : z < 4294967296) (w : World) (hp : Pow w) :
    Calls Tryd.prog 4 #[.int .u32 z] w fun e w' => e = .returned (.bool true) ∧ Below w.heap.size w w' := by
  obtain ⟨bits, rfl⟩ : ∃ bits : Nat, z = bits := ⟨z.toNat, by omega⟩
  have hb : bits < 4294967296 := by omega
  have HA := Lib.hid (awake_calls w hp)
  obtain ⟨x, hx⟩ : ∃ x, x = bits / 8388608 % 256 := ⟨_, rfl⟩
  obtain ⟨m, hm⟩ : ∃ m, m = bits % 8388608 := ⟨_, rfl⟩
  have e1 : Go.bits .and .u32 ((bits : Int) / 8388608) 255 = (x : Int) := by
    have := and32 (bits / 8388608) 8 (by omega) (by omega)
    rw [hx]; exact this
  have e2 : Go.bits .and .u32 (bits : Int) 8388607 = (m : Int) := by
    have := and32 bits 23 (by omega) (by omega)
    rw [hm]; exact this
  have nogd := no_guard
  have hm1 : m < 8388608 := by omega
  have hx1 : x ≤ 255 := by omega
  by_cases hodd : x = 255 ∨ x = 0
  · rcases hodd with h | h
    · have x2 : ((x : Int) == 255) = true := by rw [h]; rfl
      have x3 : (x == 255) = true := by rw [h]; rfl
      clear h hx hm
      go_enter Tryd.func4, Tryd.ntmps4
      go_wp2_with (go_at_call 7; (with_reducible refine HA.out.mono ?_); rintro e w1 ⟨rfl, b1⟩)
      go_ret
      exact ⟨rfl, b1⟩
    · have x2 : ((x : Int) == 255) = false := by rw [h]; rfl
      have x3 : (x == 255) = false := by rw [h]; rfl
      have x4 : ((x : Int) == 0) = true := by rw [h]; rfl
      have x5 : (x == 0) = true := by rw [h]; rfl
      clear h hx hm
      go_enter Tryd.func4, Tryd.ntmps4
      go_wp2_with (go_at_call 7; (with_reducible refine HA.out.mono ?_); rintro e w1 ⟨rfl, b1⟩)
      go_ret
      exact ⟨rfl, b1⟩
  · have x2 : ((x : Int) == 255) = false := by rw [beq_eq_false_iff_ne]; omega
    have x4 : ((x : Int) == 0) = false := by rw [beq_eq_false_iff_ne]; omega
    have hx0 : 0 < x := by omega
    have hx9 : x < 255 := by omega
    have hr : bits % 2147483648 = x * 8388608 + m := by omega
    have hd : bits / 2147483648 = 0 ∨ bits / 2147483648 = 1 := by omega
    rcases hd with hd | hd
    · obtain ⟨W, hW⟩ : ∃ W, W = (if false then 1 else 0) * 9223372036854775808 + ((x + 896) * 4503599627370496 + m * 536870912) := ⟨_, rfl⟩
      obtain ⟨p1, p2, l, y1, l', y2, p3, p4, p5⟩ := wide_plain (ng := false) hb hr hm1 hx0 hx9 hd W hW
      have d1 : (bits : Int) / 2147483648 = 0 := by omega
      have hW0 : W = (x + 896) * 2 ^ 52 + m * 536870912 := by rw [hW]; simp
      have o1 : Go.bits .or .u64 0 (((x : Int) + 896) * 4503599627370496) = ((x : Int) + 896) * 4503599627370496 := by
        have e := or_nat 0 ((x + 896) * 4503599627370496) (by omega) (by omega)
        rw [Nat.zero_or] at e
        simpa using e
      have o2 : Go.bits .or .u64 (((x : Int) + 896) * 4503599627370496) ((m : Int) * 536870912) = (W : Int) := by
        have e := or_add (m * 536870912) (x + 896) 52 (by simp only [Nat.reducePow]; omega) (by simp only [Nat.reducePow]; omega) (by omega)
        rw [← hW0] at e
        simpa using e
      clear hW0
      obtain ⟨c, g, le, xe, he⟩ := eV_four_n bits
      have H1 := Lib.hid (fun W1 (bl : Below w.heap.size w W1) => he ▸ Exact32_calls hb W1 (hp.below bl))
      have H2 := Lib.hid (fun W1 (bl : Below w.heap.size w W1) => (p2 ▸ he) ▸ Exact64_calls p1 W1 (hp.below bl))
      have H3 := Lib.hid (fun W1 (bl : Below w.heap.size w W1) => p3 ▸ Of32_calls hb W1 (hp.below bl))
      have H4 := Lib.hid (fun W1 (bl : Below w.heap.size w W1) => p4 ▸ Of64_calls p1 W1 (hp.below bl))
      have fl1 := fld 0 y1 false ⟨l.toArray⟩
      have fl2 := fld 0 y2 false ⟨l'.toArray⟩
      clear he p1 p2 p3 p4 hx hm hr hd hp hW
      go_enter Tryd.func4, Tryd.ntmps4
      go_wp2_with (first
        | (go_at_call 7; (with_reducible refine HA.out.mono ?_); rintro e w1 ⟨rfl, b1⟩)
        | (go_at_call 9; (with_reducible refine (H1.out w1 b1).mono ?_); rintro e w2 ⟨rfl, b2⟩; have b2' := on b1 b2)
        | (go_at_call 6; (with_reducible refine (H2.out w2 b2').mono ?_); rintro e w3 ⟨rfl, b3⟩; have b3' := on b2' b3)
        | (go_at_call 10; (with_reducible refine (H3.out w3 b3').mono ?_); rintro e w4 ⟨rfl, b4⟩; have b4' := on b3' b4)
        | (go_at_call 5; (with_reducible refine (H4.out w4 b4').mono ?_); rintro e w5 ⟨rfl, b5⟩; have b5' := on b4' b5))
      go_ret
      exact ⟨by simp [p5], b5'⟩
    · obtain ⟨W, hW⟩ : ∃ W, W = (if true then 1 else 0) * 9223372036854775808 + ((x + 896) * 4503599627370496 + m * 536870912) := ⟨_, rfl⟩
      obtain ⟨p1, p2, l, y1, l', y2, p3, p4, p5⟩ := wide_plain (ng := true) hb hr hm1 hx0 hx9 hd W hW
      have d1 : (bits : Int) / 2147483648 = 1 := by omega
      have hW0 : W = (x + 2944) * 2 ^ 52 + m * 536870912 := by rw [hW]; simp only [Nat.reducePow, if_true]; omega
      obtain ⟨N, hN⟩ : ∃ N, N = (x + 2944) * 2 ^ 52 := ⟨_, rfl⟩
      have o1 : Go.bits .or .u64 9223372036854775808 (((x : Int) + 896) * 4503599627370496) = (N : Int) := by
        have e := or_add ((x + 896) * 4503599627370496) 1 63 (by simp only [Nat.reducePow]; omega) (by simp only [Nat.reducePow]; omega) (by omega)
        rw [show 1 * 2 ^ 63 + (x + 896) * 4503599627370496 = N by rw [hN]; simp only [Nat.reducePow]; omega] at e
        simpa using e
      have o2 : Go.bits .or .u64 (N : Int) ((m : Int) * 536870912) = (W : Int) := by
        have e := or_add (m * 536870912) (x + 2944) 52 (by simp only [Nat.reducePow]; omega) (by simp only [Nat.reducePow]; omega) (by omega)
        rw [← hW0, ← hN] at e
        simpa using e
      clear hN hW0
      obtain ⟨c, g, le, xe, he⟩ := eV_four_n bits
      have H1 := Lib.hid (fun W1 (bl : Below w.heap.size w W1) => he ▸ Exact32_calls hb W1 (hp.below bl))
      have H2 := Lib.hid (fun W1 (bl : Below w.heap.size w W1) => (p2 ▸ he) ▸ Exact64_calls p1 W1 (hp.below bl))
      have H3 := Lib.hid (fun W1 (bl : Below w.heap.size w W1) => p3 ▸ Of32_calls hb W1 (hp.below bl))
      have H4 := Lib.hid (fun W1 (bl : Below w.heap.size w W1) => p4 ▸ Of64_calls p1 W1 (hp.below bl))
      have fl1 := fld 0 y1 true ⟨l.toArray⟩
      have fl2 := fld 0 y2 true ⟨l'.toArray⟩
      clear he p1 p2 p3 p4 hx hm hr hd hp hW
      go_enter Tryd.func4, Tryd.ntmps4
      go_wp2_with (first
        | (go_at_call 7; (with_reducible refine HA.out.mono ?_); rintro e w1 ⟨rfl, b1⟩)
        | (go_at_call 9; (with_reducible refine (H1.out w1 b1).mono ?_); rintro e w2 ⟨rfl, b2⟩; have b2' := on b1 b2)
        | (go_at_call 6; (with_reducible refine (H2.out w2 b2').mono ?_); rintro e w3 ⟨rfl, b3⟩; have b3' := on b2' b3)
        | (go_at_call 10; (with_reducible refine (H3.out w3 b3').mono ?_); rintro e w4 ⟨rfl, b4⟩; have b4' := on b3' b4)
        | (go_at_call 5; (with_reducible refine (H4.out w4 b4').mono ?_); rintro e w5 ⟨rfl, b5⟩; have b5' := on b4' b5))
      go_ret
      exact ⟨by simp [p5], b5'⟩
end Go.Proofs.YtphpcpomhcodpaaDoor.Sh
