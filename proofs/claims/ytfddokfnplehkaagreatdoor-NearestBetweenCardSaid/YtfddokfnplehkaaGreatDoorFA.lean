/- Texts of one layer, joined: Fa, Fb, Fc, Fd, Fe, Ff, Fg. -/
import Derived.Test.YtfddokfnplehkaaGreatDoorGH
import Derived.Test.YtfddokfnplehkaaGreatDoorGJ
import Derived.Test.YtfddokfnplehkaaGreatDoorHA
set_option linter.unusedVariables false
set_option linter.unusedSimpArgs false
set_option linter.unusedSectionVars false
/- Layer 4's plain law: the nearest float of a quotient, ties to the even one. -/
set_option linter.unusedSimpArgs false
set_option linter.unusedVariables false
namespace Go.Proofs.YtfddokfnplehkaaGreatDoor.Sp
open Go.Proofs.YtfddokfnplehkaaGreatDoor.Dig Go.Proofs.YtfddokfnplehkaaGreatDoor.Td

/-- n by d, to a whole number, of two as near the even one -/
def rhe (n d : Nat) : Nat := if d < 2 * (n % d) ∨ (2 * (n % d) = d ∧ n / d % 2 = 1) then n / d + 1 else n / d
theorem rhe_mul (n d : Nat) {k : Nat} (hk : 0 < k) : rhe (n * k) (d * k) = rhe n d := by
  unfold rhe
  have h1 : n * k / (d * k) = n / d := Nat.mul_div_mul_right _ _ hk
  have h2 : n * k % (d * k) = n % d * k := Nat.mul_mod_mul_right ..
  have h3 : (d * k < 2 * (n % d * k)) = (d < 2 * (n % d)) := by
    rw [← Nat.mul_assoc]
    exact propext ⟨fun h => Nat.lt_of_mul_lt_mul_right h, fun h => Nat.mul_lt_mul_of_pos_right h hk⟩
  have h4 : (2 * (n % d * k) = d * k) = (2 * (n % d) = d) := by
    rw [← Nat.mul_assoc]
    exact propext ⟨fun h => Nat.eq_of_mul_eq_mul_right hk h, fun h => by rw [h]⟩
  simp only [h1, h2, h3, h4]
theorem rhe_bounds (n : Nat) {d : Nat} (hd : 0 < d) :
    (2 * n ≤ (2 * rhe n d + 1) * d ∧ (rhe n d % 2 = 1 → 2 * n < (2 * rhe n d + 1) * d)) ∧ (2 * rhe n d * d ≤ 2 * n + d ∧ (rhe n d % 2 = 1 → 2 * rhe n d * d < 2 * n + d)) := by
  have e1 := Nat.div_add_mod n d
  have e2 := Nat.mod_lt n hd
  unfold rhe
  generalize n / d = q at *
  generalize n % d = r at *
  have e3 : d * q = q * d := Nat.mul_comm ..
  have k1 : ∀ a : Nat, (2 * a + 1) * d = 2 * (a * d) + d := fun a => by rw [Nat.add_mul, Nat.mul_assoc, Nat.one_mul]
  have k2 : ∀ a : Nat, 2 * a * d = 2 * (a * d) := fun a => Nat.mul_assoc ..
  have k3 : (q + 1) * d = q * d + d := by rw [Nat.add_mul, Nat.one_mul]
  split
  · next h =>
    rw [k1, k2, k3]
    refine ⟨⟨by omega, fun _ => by omega⟩, ⟨by omega, fun h5 => by omega⟩⟩
  · next h =>
    rw [k1, k2]
    refine ⟨⟨by omega, fun h5 => by omega⟩, ⟨by omega, fun _ => by omega⟩⟩
theorem rhe_le {n d P : Nat} (hd : 0 < d) (h : P ≤ rhe n d) : 2 * P * d ≤ 2 * n + d := by
  have h1 := (rhe_bounds n hd).2.1
  have h2 : 2 * P * d ≤ 2 * rhe n d * d := Nat.mul_le_mul_right _ (Nat.mul_le_mul_left _ h)
  omega
theorem le_rhe {n d P : Nat} (hd : 0 < d) (h : P * d ≤ n) : P ≤ rhe n d := by
  have h1 : P ≤ n / d := (Nat.le_div_iff_mul_le hd).2 h
  unfold rhe
  split <;> omega
/-- n by d, in the least units, is nearest to the float b, ties to the even one -/
def Near (M n d b : Nat) : Prop := (4 * n ≤ hi M b * d ∧ (b % 2 = 1 → 4 * n < hi M b * d)) ∧ (0 < b → lo M b * d ≤ 4 * n ∧ (b % 2 = 1 → lo M b * d < 4 * n))
theorem sc_small {M b : Nat} (h : b < 2 ^ (M + 1)) : sc M b = b := by
  unfold sc am
  have hp := p2 M
  rw [Nat.pow_succ] at h
  have e1 := Nat.div_add_mod b (2 ^ M)
  have e2 := Nat.mod_lt b hp
  generalize 2 ^ M = P at *
  have h1 : b / P < 2 := (Nat.div_lt_iff_lt_mul hp).2 (by omega)
  generalize b / P = x at *
  generalize b % P = y at *
  rw [show x - 1 = 0 by omega, Nat.pow_zero, Nat.mul_one]
  split
  · next h0 => rw [h0, Nat.mul_zero] at e1; omega
  · next h0 =>
    rw [show x = 1 by omega, Nat.mul_one] at e1
    omega
theorem even_pow {M : Nat} (hM : 0 < M) (e : Nat) : e * 2 ^ M % 2 = 0 := by
  obtain ⟨k, rfl⟩ : ∃ k, M = k + 1 := ⟨M - 1, by omega⟩
  rw [Nat.pow_succ, ← Nat.mul_assoc]
  exact Nat.mul_mod_left ..
/-- THE NEAREST: the least exponent at which the rounded quotient has at most M + 1 bits -/
theorem near_of {M n d e : Nat} (hM : 0 < M) (hd : 0 < d) (hlt : rhe n (d * 2 ^ e) < 2 ^ (M + 1)) (h : e = 0 ∨ 2 ^ (M + 1) ≤ rhe n (d * 2 ^ (e - 1))) :
    Near M n d (e * 2 ^ M + rhe n (d * 2 ^ e)) := by
  have hp := p2 M
  obtain ⟨⟨u1, u2⟩, ⟨l1, l2⟩⟩ := rhe_bounds n (d := d * 2 ^ e) (Nat.mul_pos hd (p2 e))
  generalize hm : rhe n (d * 2 ^ e) = m at *
  have hpar : (e * 2 ^ M + m) % 2 = m % 2 := by rw [Nat.add_mod, even_pow hM, Nat.zero_add, Nat.mod_mod]
  rcases h with rfl | h
  · rw [Nat.zero_mul, Nat.zero_add] at hpar ⊢
    rw [Nat.pow_zero, Nat.mul_one] at *
    have e1 : hi M m = 2 * (2 * m + 1) := by
      unfold hi
      rw [sc_succ, sc_small hlt]
      have : m / 2 ^ M < 2 := (Nat.div_lt_iff_lt_mul hp).2 (by rw [Nat.pow_succ] at hlt; omega)
      rw [show m / 2 ^ M - 1 = 0 by omega, Nat.pow_zero]
      omega
    have e2 : 0 < m → lo M m = 4 * m - 2 := fun h0 => by
      unfold lo
      rw [sc_small hlt, sc_small (by omega)]
      omega
    unfold Near
    refine ⟨?_, fun h0 => ?_⟩
    · rw [e1, Nat.mul_assoc]
      exact ⟨by omega, fun ho => by have := u2 ho; omega⟩
    · rw [e2 h0]
      have k : (4 * m - 2) * d + 2 * d = 2 * (2 * m * d) := by
        rw [← Nat.add_mul, ← Nat.mul_assoc]
        congr 1
        omega
      exact ⟨by omega, fun ho => by have := l2 ho; omega⟩
  · by_cases he0 : e = 0
    · subst he0
      rw [show 0 - 1 = 0 from rfl] at h
      omega
    obtain ⟨k, rfl⟩ : ∃ k, e = k + 1 := ⟨e - 1, by omega⟩
    rw [Nat.add_sub_cancel] at h
    have hk := p2 k
    have hdk : 0 < d * 2 ^ k := Nat.mul_pos hd hk
    have c := rhe_le hdk h
    have e0 : d * 2 ^ (k + 1) = 2 * (d * 2 ^ k) := by rw [Nat.pow_succ, ← Nat.mul_assoc, Nat.mul_comm]
    rw [e0] at u1 u2 l1 l2
    obtain ⟨D, hD⟩ : ∃ D, D = d * 2 ^ k := ⟨_, rfl⟩
    rw [← hD] at u1 u2 l1 l2 c h hdk e0
    have c' : 2 * (2 ^ M * (2 * D)) ≤ 2 * n + D := by
      rw [Nat.pow_succ] at c
      have : 2 * (2 ^ M * 2) * D = 2 * (2 ^ M * (2 * D)) := by rw [Nat.mul_assoc, Nat.mul_assoc]
      omega
    have hge : 2 ^ M ≤ m := by
      rcases Nat.lt_or_ge m (2 ^ M) with h1 | h1
      · exfalso
        have h2 : (m + 1) * (2 * D) ≤ 2 ^ M * (2 * D) := Nat.mul_le_mul_right _ h1
        rw [Nat.add_mul, Nat.one_mul] at h2
        rw [Nat.add_mul, Nat.mul_assoc, Nat.one_mul] at u1
        omega
      · exact h1
    have hr : m - 2 ^ M < 2 ^ M := by rw [Nat.pow_succ] at hlt; omega
    have eb : (k + 1) * 2 ^ M + m = (k + 2) * 2 ^ M + (m - 2 ^ M) := by
      have : (k + 2) * 2 ^ M = (k + 1) * 2 ^ M + 2 ^ M := by rw [show k + 2 = (k + 1) + 1 from rfl, Nat.add_mul (k + 1), Nat.one_mul]
      omega
    have hx := (x_of (x := k + 2) hr).1
    have ha := (sc_of (x := k + 2) hr (by omega)).1
    rw [← eb] at hx ha
    have ham : am M ((k + 1) * 2 ^ M + m) = m := by rw [ha]; omega
    have e1 := hi_eq M ((k + 1) * 2 ^ M + m)
    have hb0 : 0 < (k + 1) * 2 ^ M + m := by omega
    have e2 := lo_eq M ((k + 1) * 2 ^ M + m) hb0
    rw [ham, hx, show k + 2 - 1 = k + 1 from rfl] at e1 e2
    generalize (k + 1) * 2 ^ M + m = b at *
    have k1 : ∀ x : Nat, x * 2 ^ (k + 1) * d = x * (2 * D) := fun x => by
      rw [Nat.mul_assoc, ← e0, Nat.mul_comm (2 ^ (k + 1))]
    unfold Near
    rw [e1, e2, k1, k1]
    have hn := nr_le M b
    refine ⟨?_, fun _ => ?_⟩
    · have : (4 * m + 2) * (2 * D) = 2 * ((2 * m + 1) * (2 * D)) := by rw [show 4 * m + 2 = 2 * (2 * m + 1) by omega, Nat.mul_assoc]
      rw [this]
      refine ⟨by omega, fun ho => ?_⟩
      have := u2 (by omega)
      omega
    · by_cases h2 : nr M b = 2
      · rw [h2]
        have : (4 * m - 2) * (2 * D) + 2 * (2 * D) = 2 * (2 * m * (2 * D)) := by
          rw [← Nat.add_mul, show 4 * m - 2 + 2 = 2 * (2 * m) by omega, Nat.mul_assoc 2 (2 * m)]
        exact ⟨by omega, fun ho => by have := l2 (by omega); omega⟩
      · have hn1 : nr M b = 1 := by omega
        have hm2 : m = 2 ^ M := by
          unfold nr at hn1
          split at hn1
          · next hh => rw [ham] at hh; exact hh.1
          · omega
        rw [hn1]
        have h4 : (4 * m - 1) * (2 * D) + 2 * D = 4 * (2 ^ M * (2 * D)) := by
          have : (4 * m - 1) * (2 * D) + 2 * D = (4 * m - 1 + 1) * (2 * D) := by rw [Nat.add_mul, Nat.one_mul]
          rw [this, show 4 * m - 1 + 1 = 4 * 2 ^ M by omega, Nat.mul_assoc]
        have heven : m % 2 = 0 := by
          rw [hm2]
          have := even_pow hM 1
          rwa [Nat.one_mul] at this
        exact ⟨by omega, fun ho => by omega⟩
theorem near_mono {M n d n' d' b b' : Nat} (hd : 0 < d) (hd' : 0 < d') (h : n * d' ≤ n' * d) (h1 : Near M n d b) (h2 : Near M n' d' b') : b ≤ b' := by
  rcases Nat.lt_or_ge b' b with hlt | hge
  · exfalso
    obtain ⟨g1, g2⟩ := hi_le_lo M hlt
    obtain ⟨a1, a2⟩ := h1.2 (by omega)
    obtain ⟨c1, c2⟩ := h2.1
    have x1 : lo M b * d * d' ≤ 4 * n * d' := Nat.mul_le_mul_right _ a1
    have x2 : 4 * n' * d ≤ hi M b' * d' * d := Nat.mul_le_mul_right _ c1
    have x3 : 4 * n * d' ≤ 4 * n' * d := by rw [Nat.mul_assoc, Nat.mul_assoc]; exact Nat.mul_le_mul_left _ h
    have hD : 0 < d * d' := Nat.mul_pos hd hd'
    have x4 : lo M b * (d * d') ≤ hi M b' * (d * d') := by
      rw [Nat.mul_assoc] at x1
      rw [Nat.mul_assoc (hi M b'), Nat.mul_comm d' d] at x2
      omega
    have x5 : lo M b ≤ hi M b' := Nat.le_of_mul_le_mul_right x4 hD
    have x6 : ¬ b' + 1 < b := fun k => by have := g2 k; omega
    have x7 : hi M b' * d' * d = lo M b * d * d' := by
      rw [show lo M b = hi M b' by omega, Nat.mul_right_comm]
    have x8 : b % 2 = 1 ∨ b' % 2 = 1 := by omega
    rcases x8 with k | k
    · have := Nat.mul_lt_mul_of_pos_right (a2 k) hd'
      omega
    · have := Nat.mul_lt_mul_of_pos_right (c2 k) hd
      omega
  · exact hge
theorem near_uniq {M n d b b' : Nat} (hd : 0 < d) (h1 : Near M n d b) (h2 : Near M n d b') : b = b' :=
  Nat.le_antisymm (near_mono hd hd (Nat.le_refl _) h1 h2) (near_mono hd hd (Nat.le_refl _) h2 h1)
theorem near_scale {M n d b : Nat} {k : Nat} (hk : 0 < k) : Near M (n * k) (d * k) b ↔ Near M n d b := by
  unfold Near
  have a1 : ∀ x y : Nat, (x * k ≤ y * k) = (x ≤ y) := fun x y => propext ⟨fun h => Nat.le_of_mul_le_mul_right h hk, fun h => Nat.mul_le_mul_right _ h⟩
  have a2 : ∀ x y : Nat, (x * k < y * k) = (x < y) := fun x y => propext ⟨fun h => Nat.lt_of_mul_lt_mul_right h, fun h => Nat.mul_lt_mul_of_pos_right h hk⟩
  rw [← Nat.mul_assoc, ← Nat.mul_assoc, ← Nat.mul_assoc, a1, a2, a1, a2]
/-- what is in a float's reach is nearest to it, and the other way round -/
theorem near_win {M n d b x T : Nat} (hT : 0 < T) (hd : 0 < d) (hb : 0 < b) (h : 4 * n * T = x * d) : Near M n d b ↔ win (decide (b % 2 = 0)) (lo M b * T) (hi M b * T) x = true := by
  have a1 : ∀ y : Nat, (y * d ≤ 4 * n) = (y * T ≤ x) := fun y => propext (by
    constructor
    · intro k
      have := Nat.mul_le_mul_right T k
      rw [h, Nat.mul_right_comm] at this
      exact Nat.le_of_mul_le_mul_right this hd
    · intro k
      have := Nat.mul_le_mul_right d k
      rw [← h, Nat.mul_right_comm] at this
      exact Nat.le_of_mul_le_mul_right this hT)
  have a2 : ∀ y : Nat, (4 * n ≤ y * d) = (x ≤ y * T) := fun y => propext (by
    constructor
    · intro k
      have := Nat.mul_le_mul_right T k
      rw [h, Nat.mul_right_comm] at this
      exact Nat.le_of_mul_le_mul_right this hd
    · intro k
      have := Nat.mul_le_mul_right d k
      rw [← h, Nat.mul_right_comm y] at this
      exact Nat.le_of_mul_le_mul_right this hT)
  have a3 : ∀ y : Nat, (y * d < 4 * n) = (y * T < x) := fun y => by
    have := a2 y
    rw [← Nat.not_le, ← Nat.not_le, this]
  have a4 : ∀ y : Nat, (4 * n < y * d) = (x < y * T) := fun y => by
    have := a1 y
    rw [← Nat.not_le, ← Nat.not_le, this]
  unfold Near win
  rw [a1, a2, a3, a4]
  rcases Nat.mod_two_eq_zero_or_one b with k | k
  · rw [decide_eq_true k, if_pos rfl]
    simp only [k, hb, Bool.and_eq_true, decide_eq_true_eq]
    constructor
    · rintro ⟨⟨p1, _⟩, p2⟩
      exact ⟨(p2 trivial).1, p1⟩
    · rintro ⟨p1, p2⟩
      exact ⟨⟨p2, fun z => absurd z (by decide)⟩, fun _ => ⟨p1, fun z => absurd z (by decide)⟩⟩
  · rw [decide_eq_false (by omega), if_neg (by decide)]
    simp only [k, hb, Bool.and_eq_true, decide_eq_true_eq]
    constructor
    · rintro ⟨⟨_, p1⟩, p2⟩
      exact ⟨(p2 trivial).2 trivial, p1 trivial⟩
    · rintro ⟨p1, p2⟩
      exact ⟨⟨Nat.le_of_lt p2, fun _ => p2⟩, fun _ => ⟨Nat.le_of_lt p1, fun _ => p1⟩⟩
/-- the float itself -/
theorem near_self (M b : Nat) {n d : Nat} (hd : 0 < d) (h : n = sc M b * d) : Near M n d b := by
  subst h
  unfold Near
  have h1 := hi_gt M b
  have e : 4 * (sc M b * d) = 4 * sc M b * d := (Nat.mul_assoc ..).symm
  rw [e]
  refine ⟨⟨Nat.mul_le_mul_right _ (Nat.le_of_lt h1), fun _ => Nat.mul_lt_mul_of_pos_right h1 hd⟩, fun h0 => ?_⟩
  have h2 := lo_lt M h0
  exact ⟨Nat.mul_le_mul_right _ (Nat.le_of_lt h2), fun _ => Nat.mul_lt_mul_of_pos_right h2 hd⟩
/-- between two neighbours, by hundredths -/
theorem near_part {M b n d p : Nat} (hd : 0 < d) (hp : p ≤ 100) (h : 100 * n = (100 * sc M b + (sc M (b + 1) - sc M b) * p) * d) : Near M n d (if 50 < p ∨ (p = 50 ∧ b % 2 = 1) then b + 1 else b) := by
  have hs := sc_lt M (show b < b + 1 by omega)
  obtain ⟨g, hg⟩ : ∃ g, g = sc M (b + 1) - sc M b := ⟨_, rfl⟩
  rw [← hg] at h
  have hg' : sc M (b + 1) = sc M b + g := by omega
  have hg0 : 0 < g := by omega
  -- in hundredths of the gap: 4 n 25 = (100 s + g p) d
  have key : 25 * (4 * n) = (100 * sc M b + g * p) * d := by rw [← h]; omega
  have low : ∀ y : Nat, (y * 25 ≤ 100 * sc M b + g * p → y * d ≤ 4 * n) ∧ (y * 25 < 100 * sc M b + g * p → y * d < 4 * n) := fun y => by
    constructor
    · intro k
      have := Nat.mul_le_mul_right d k
      rw [← key, Nat.mul_right_comm] at this
      omega
    · intro k
      have := Nat.mul_lt_mul_of_pos_right k hd
      rw [← key, Nat.mul_right_comm] at this
      omega
  have high : ∀ y : Nat, (100 * sc M b + g * p ≤ y * 25 → 4 * n ≤ y * d) ∧ (100 * sc M b + g * p < y * 25 → 4 * n < y * d) := fun y => by
    constructor
    · intro k
      have := Nat.mul_le_mul_right d k
      rw [← key, Nat.mul_right_comm] at this
      omega
    · intro k
      have := Nat.mul_lt_mul_of_pos_right k hd
      rw [← key, Nat.mul_right_comm] at this
      omega
  have hlo : hi M b = lo M (b + 1) := by unfold hi lo; rw [Nat.add_sub_cancel, Nat.add_comm]
  have ehi : hi M b * 25 = 100 * sc M b + g * 50 := by unfold hi; rw [hg']; omega
  have ghi : g * 100 ≤ hi M (b + 1) * 25 - 100 * sc M b := by
    have := hi_gt M (b + 1)
    rw [hg'] at this
    omega
  have ghi' : 100 * sc M b + g * 100 < hi M (b + 1) * 25 := by
    have := hi_gt M (b + 1)
    rw [hg'] at this
    omega
  have glo : 0 < b → lo M b * 25 < 100 * sc M b := fun h0 => by have := lo_lt M h0; omega
  have m1 : g * p ≤ g * 100 := Nat.mul_le_mul_left _ hp
  by_cases hc : 50 < p ∨ (p = 50 ∧ b % 2 = 1)
  · rw [if_pos hc]
    have m2 : g * 50 ≤ g * p := Nat.mul_le_mul_left _ (by omega)
    refine ⟨⟨(high _).1 (by omega), fun _ => (high _).2 (by omega)⟩, fun _ => ?_⟩
    rw [← hlo]
    refine ⟨(low _).1 (by omega), fun ho => (low _).2 ?_⟩
    have : g * 50 < g * p := Nat.mul_lt_mul_of_pos_left (by omega) hg0
    omega
  · rw [if_neg hc]
    have m2 : g * p ≤ g * 50 := Nat.mul_le_mul_left _ (by omega)
    refine ⟨⟨(high _).1 (by omega), fun ho => (high _).2 ?_⟩, fun h0 => ?_⟩
    · have : g * p < g * 50 := Nat.mul_lt_mul_of_pos_left (by omega) hg0
      omega
    · have := glo h0
      exact ⟨(low _).1 (by omega), fun _ => (low _).2 (by omega)⟩
end Go.Proofs.YtfddokfnplehkaaGreatDoor.Sp

/- Layer 4's plain law: that there is a nearest float; where the search starts; a Dec's amount. -/
set_option linter.unusedSimpArgs false
set_option linter.unusedVariables false
namespace Go.Proofs.YtfddokfnplehkaaGreatDoor.Sp
open Go.Proofs.YtfddokfnplehkaaGreatDoor.Dig Go.Proofs.YtfddokfnplehkaaGreatDoor.Td Lib

theorem rhe_one {n d : Nat} (h : n < d) : rhe n d ≤ 1 := by
  unfold rhe
  rw [Nat.div_eq_of_lt h]
  split <;> omega
theorem two_lt (M : Nat) (hM : 0 < M) : 2 ≤ 2 ^ M := by
  have := Nat.pow_le_pow_right (n := 2) (by omega) (show 1 ≤ M by omega)
  rwa [Nat.pow_one] at this
theorem near_start {M n d : Nat} : ∀ k, rhe n (d * 2 ^ k) < 2 ^ (M + 1) → ∃ e, rhe n (d * 2 ^ e) < 2 ^ (M + 1) ∧ (e = 0 ∨ 2 ^ (M + 1) ≤ rhe n (d * 2 ^ (e - 1)))
  | 0, h => ⟨0, h, .inl rfl⟩
  | k + 1, h => by
    rcases Nat.lt_or_ge (rhe n (d * 2 ^ k)) (2 ^ (M + 1)) with h1 | h1
    · exact near_start k h1
    · exact ⟨k + 1, h, .inr h1⟩
theorem near_exists {M : Nat} (hM : 0 < M) (n : Nat) {d : Nat} (hd : 0 < d) : ∃ b, Near M n d b := by
  have h1 : n < d * 2 ^ n := Nat.lt_of_lt_of_le Nat.lt_two_pow_self (Nat.le_mul_of_pos_left _ hd)
  have h2 := rhe_one h1
  have h3 := two_lt (M + 1) (by omega)
  have h4 := two_lt M hM
  have h5 : 2 ^ (M + 1) = 2 ^ M * 2 := Nat.pow_succ ..
  obtain ⟨e, he, hs⟩ := near_start (M := M) (n := n) (d := d) n (by omega)
  exact ⟨_, near_of hM hd he hs⟩
/-- the quotient by 2^e, e from -L -/
theorem rhe_at (num den L k : Nat) (e : Int) (h : (k : Int) = e + L) : rhe (num * 2 ^ L) (den * 2 ^ k) = rhe (num * 2 ^ (-e).toNat) (den * 2 ^ e.toNat) := by
  by_cases h0 : e < 0
  · rw [show e.toNat = 0 by omega, Nat.pow_zero, Nat.mul_one, show L = (-e).toNat + k by omega, Nat.pow_add, ← Nat.mul_assoc]
    exact rhe_mul _ _ (p2 k)
  · rw [show (-e).toNat = 0 by omega, Nat.pow_zero, Nat.mul_one, show k = e.toNat + L by omega, Nat.pow_add, ← Nat.mul_assoc]
    exact rhe_mul _ _ (p2 L)
/-- the search starts at or below the least exponent that does -/
theorem start_le {num den bn bd L k M c : Nat} (hden : 0 < den) (hn : 2 ^ bn ≤ 2 * num) (hd : den < 2 ^ bd) (hc : 1 ≤ c) (hk : (k : Int) ≤ (bn : Int) - bd - M - c + L) (h0 : 0 < k) : 2 ^ (M + 1) ≤ rhe (num * 2 ^ L) (den * 2 ^ (k - 1)) := by
  refine le_rhe (Nat.mul_pos hden (p2 _)) ?_
  have h1 : 2 ^ (M + 1) * (den * 2 ^ (k - 1)) ≤ 2 ^ (M + 1) * (2 ^ bd * 2 ^ (k - 1)) := Nat.mul_le_mul_left _ (Nat.mul_le_mul_right _ (Nat.le_of_lt hd))
  have h2 : 2 ^ (M + 1) * (2 ^ bd * 2 ^ (k - 1)) * 2 ≤ 2 ^ bn * 2 ^ L := by
    rw [← Nat.pow_add, ← Nat.pow_add, ← Nat.pow_succ, ← Nat.pow_add]
    exact Nat.pow_le_pow_right (by omega) (by omega)
  have h3 : 2 ^ bn * 2 ^ L ≤ 2 * num * 2 ^ L := Nat.mul_le_mul_right _ hn
  rw [Nat.mul_assoc] at h3
  omega
/-- the search ends -/
theorem stop_at {num den L k K M : Nat} (hM : 0 < M) (hd : 0 < den) (hn : num < 2 ^ K) (h : 2 ^ (M + 1) ≤ rhe (num * 2 ^ L) (den * 2 ^ k)) : k < K + L := by
  rcases Nat.lt_or_ge k (K + L) with h1 | h1
  · exact h1
  · exfalso
    have h2 : num * 2 ^ L < den * 2 ^ k := by
      have e1 : num * 2 ^ L < 2 ^ K * 2 ^ L := Nat.mul_lt_mul_of_pos_right hn (p2 L)
      rw [← Nat.pow_add] at e1
      have e2 : 2 ^ (K + L) ≤ 2 ^ k := Nat.pow_le_pow_right (by omega) h1
      have e3 : 2 ^ k ≤ den * 2 ^ k := Nat.le_mul_of_pos_left _ hd
      omega
    have h3 := rhe_one h2
    have h4 := two_lt M hM
    have h5 : 2 ^ (M + 1) = 2 ^ M * 2 := Nat.pow_succ ..
    omega
/-- a Dec's amount D 10^x: nearest to b -/
def NearD (M L D : Nat) (x : Int) (b : Nat) : Prop := Near M (D * 10 ^ x.toNat * 2 ^ L) (10 ^ (-x).toNat) b
theorem nearD_at {M L D b : Nat} {x E : Int} (h1 : E ≤ x) (h2 : E ≤ 0) : NearD M L D x b ↔ Near M (D * 10 ^ (x - E).toNat * 2 ^ L) (10 ^ (-E).toNat) b := by
  unfold NearD
  obtain ⟨k, hk⟩ : ∃ k : Nat, (k : Int) = min x 0 - E := ⟨(min x 0 - E).toNat, by omega⟩
  rw [show (x - E).toNat = x.toNat + k by omega, show (-E).toNat = (-x).toNat + k by omega, Nat.pow_add, Nat.pow_add, ← Nat.mul_assoc, Nat.mul_right_comm (D * 10 ^ x.toNat)]
  exact (near_scale (p10 k)).symm
theorem nearD_exists {M : Nat} (hM : 0 < M) (L D : Nat) (x : Int) : ∃ b, NearD M L D x b := near_exists hM _ (p10 _)
theorem nearD_uniq {M L D b b' : Nat} {x : Int} (h1 : NearD M L D x b) (h2 : NearD M L D x b') : b = b' := near_uniq (p10 _) h1 h2
/-- what is told at one scale -/
theorem nearD_rep {M L Z A b : Nat} {l : List UInt8} {x : Int} (h : Rep Z l x A) : NearD M L (nv 0 l) x b ↔ Near M (A * 2 ^ L) (10 ^ Z) b := by
  obtain ⟨k, hk, rfl⟩ := h
  rw [nearD_at (E := -(Z : Int)) (by omega) (by omega), show (x - -(Z : Int)).toNat = k by omega, show (- -(Z : Int)).toNat = Z by omega]
/-- of two amounts the greater one has no lesser float -/
theorem nearD_mono {M L D D' b b' : Nat} {x x' E : Int} (h1 : E ≤ x) (h2 : E ≤ x') (h0 : E ≤ 0) (h : D * 10 ^ (x - E).toNat ≤ D' * 10 ^ (x' - E).toNat) (n1 : NearD M L D x b) (n2 : NearD M L D' x' b') : b ≤ b' := by
  rw [nearD_at h1 h0] at n1
  rw [nearD_at h2 h0] at n2
  exact near_mono (p10 _) (p10 _) (Nat.mul_le_mul_right _ (Nat.mul_le_mul_right _ h)) n1 n2
theorem ten_scale (A L : Nat) : 4 * (A * 2 ^ L) * 5 ^ (L + 2) = A * 10 ^ (L + 2) := by
  rw [show 10 ^ (L + 2) = 2 ^ (L + 2) * 5 ^ (L + 2) from by rw [← Nat.mul_pow], Nat.pow_add 2 L 2, show 2 ^ 2 = 4 from rfl]
  ac_rfl
/-- FEWEST: the fewest digits are read as their float -/
theorem near_few {M L b : Nat} (hM : 0 < M) (hb : 0 < b) : NearD M L (nv 0 (cd (fF M (L + 2) b))) (ce (fF M (L + 2) b) ((un (L + 2) (b / 2 ^ M - 1) : Nat) - ((L + 2 : Nat) : Int))) b := by
  have hr := rep_of (fF M (L + 2) b) (un (L + 2) (b / 2 ^ M - 1)) (L + 2) 0
  rw [Nat.pow_zero, Nat.mul_one, Nat.add_zero] at hr
  rw [nearD_rep hr, near_win (T := 5 ^ (L + 2)) (x := fF M (L + 2) b * 10 ^ un (L + 2) (b / 2 ^ M - 1)) (Nat.pow_pos (by omega)) (p10 _) hb]
  · exact fF_win M (L + 2) hM hb
  · obtain ⟨A, hA⟩ : ∃ A, A = fF M (L + 2) b * 10 ^ un (L + 2) (b / 2 ^ M - 1) := ⟨_, rfl⟩
    rw [← hA]
    exact ten_scale A L
/-- EXACT: all digits are read as their float -/
theorem near_exact {M L b : Nat} : NearD M L (nv 0 (cd (xF M L b))) (ce (xF M L b) ((un L (b / 2 ^ M - 1) : Nat) - (L : Nat))) b := by
  have hr := rep_of (xF M L b) (un L (b / 2 ^ M - 1)) L 0
  rw [Nat.pow_zero, Nat.mul_one, Nat.add_zero, xF_sc] at hr
  rw [nearD_rep hr]
  refine near_self M b (p10 _) ?_
  rw [Nat.mul_assoc, ← Nat.mul_pow]
/-- a number's digits without the noughts behind say the same -/
theorem nearD_cd {M L X b : Nat} {y : Int} (h : X ≠ 0) : NearD M L (nv 0 (cd X)) (ce X y) b ↔ NearD M L X y b := by
  have e := nv_cd X
  have e2 : ce X y = y + (tz X : Int) := by unfold ce; rw [if_neg h]
  have hm : min y 0 ≤ y ∧ min y 0 ≤ 0 := by omega
  rw [e2, nearD_at (E := min y 0) (by omega) hm.2, nearD_at (E := min y 0) hm.1 hm.2, show (y + (tz X : Int) - min y 0).toNat = tz X + (y - min y 0).toNat by omega, Nat.pow_add, ← Nat.mul_assoc, e]
/-- NO FEWER: with one digit less another float is read -/
theorem few_cut {M L b X : Nat} (hM : 0 < M) (hb : 0 < b) (h2 : 2 ≤ (cd (fF M (L + 2) b)).length) : ¬ NearD M L X (ce (fF M (L + 2) b) ((un (L + 2) (b / 2 ^ M - 1) : Nat) - ((L + 2 : Nat) : Int)) + 1) b := by
  intro hn
  have hF0 : fF M (L + 2) b ≠ 0 := fF_pos hb
  have hle := fF_le (M := M) (Z := L + 2) hb
  have ha := am_pos M hb
  have hnr := nr_le M b
  have hp := sf_pos (L + 2) (b / 2 ^ M - 1)
  have e := sf_un (L + 2) (b / 2 ^ M - 1)
  obtain ⟨F, hF⟩ : ∃ F, F = fF M (L + 2) b := ⟨_, rfl⟩
  have ece : ce F ((un (L + 2) (b / 2 ^ M - 1) : Nat) - ((L + 2 : Nat) : Int)) = (un (L + 2) (b / 2 ^ M - 1) : Nat) - ((L + 2 : Nat) : Int) + (tz F : Int) := by unfold ce; rw [if_neg (hF ▸ hF0)]
  rw [← hF] at hn h2 hF0 hle
  rw [ece] at hn
  have hr : NearD M L X ((un (L + 2) (b / 2 ^ M - 1) : Nat) - ((L + 2 : Nat) : Int) + (tz F : Int) + 1) b ↔ Near M (X * 10 ^ (tz F + 1) * 10 ^ un (L + 2) (b / 2 ^ M - 1) * 2 ^ L) (10 ^ (L + 2)) b := by
    rw [nearD_at (E := -((L + 2 : Nat) : Int)) (by omega) (by omega), show (((un (L + 2) (b / 2 ^ M - 1) : Nat) : Int) - ((L + 2 : Nat) : Int) + (tz F : Int) + 1 - -((L + 2 : Nat) : Int)).toNat = (tz F + 1) + un (L + 2) (b / 2 ^ M - 1) by omega, show (- -((L + 2 : Nat) : Int)).toNat = L + 2 by omega, Nat.pow_add 10 (tz F + 1), ← Nat.mul_assoc X]
  rw [hr, near_win (T := 5 ^ (L + 2)) (x := X * 10 ^ (tz F + 1) * 10 ^ un (L + 2) (b / 2 ^ M - 1)) (Nat.pow_pos (by omega)) (p10 _) hb (by
    obtain ⟨A, hA⟩ : ∃ A, A = X * 10 ^ (tz F + 1) * 10 ^ un (L + 2) (b / 2 ^ M - 1) := ⟨_, rfl⟩
    rw [← hA]
    exact ten_scale A L)] at hn
  rw [lo_eq M b hb, hi_eq M b, Nat.mul_assoc, ← e, ← Nat.mul_assoc, Nat.mul_assoc (4 * am M b + 2), ← e, ← Nat.mul_assoc, win_mul (p10 _), ← am_par hM] at hn
  -- how many digits there are
  have e1 := nv_cd F
  obtain ⟨c, hc, hc10⟩ := tz_spec F hF0
  have hcd : cd F = decDigits c := by
    unfold cd
    rw [if_neg hF0]
    congr 1
    exact Nat.div_eq_of_eq_mul_left (p10 _) hc
  have hc1 : 10 < c := by
    rcases Nat.lt_or_ge 10 c with h | h
    · exact h
    · exfalso
      have h3 : c < 10 := by omega
      rw [hcd, dec_small h3] at h2
      simp at h2
  have hk : tz F + 1 ≤ (decDigits (mF M (L + 2) b)).length - 1 := by
    have h3 : 10 ^ (tz F + 1) < 10 ^ (decDigits (mF M (L + 2) b)).length := by
      refine Nat.lt_of_lt_of_le ?_ hle
      have : 10 ^ (tz F + 1) < c * 10 ^ tz F := by
        rw [Nat.pow_succ, Nat.mul_comm]
        exact Nat.mul_lt_mul_of_pos_right hc1 (p10 _)
      omega
    have := (Nat.pow_lt_pow_iff_right (show 1 < 10 by omega)).1 h3
    omega
  have hdv := few_dvd (l := (4 * am M b - nr M b) * sf (L + 2) (b / 2 ^ M - 1)) (m := 4 * am M b * sf (L + 2) (b / 2 ^ M - 1)) (h := (4 * am M b + 2) * sf (L + 2) (b / 2 ^ M - 1)) (ends := decide (am M b % 2 = 0))
    (Nat.mul_lt_mul_of_pos_right (by omega) hp) (Nat.mul_lt_mul_of_pos_right (by omega) hp) (k := tz F + 1) (x := X * 10 ^ (tz F + 1)) (Nat.dvd_mul_left ..) hn _ hk
  have hdv' : 10 ^ (tz F + 1) ∣ F := by rw [hF]; rw [hF] at hdv; exact hdv
  have := tz_ge hF0 hdv'
  omega
end Go.Proofs.YtfddokfnplehkaaGreatDoor.Sp

/- Layer 4: nearest.may. -/
set_option linter.unusedSimpArgs false
set_option linter.unusedVariables false
namespace Go.Proofs.YtfddokfnplehkaaGreatDoor.Dc
open Go.RowKit Go.Proofs.YtfddokfnplehkaaGreatDoor.Dig Go.Proofs.YtfddokfnplehkaaGreatDoor.W Go.Proofs.YtfddokfnplehkaaGreatDoor.Nat Go.Proofs.YtfddokfnplehkaaGreatDoor.Wh Go.Proofs.YtfddokfnplehkaaGreatDoor.Td Go.Proofs.YtfddokfnplehkaaGreatDoor.Bu Go.Proofs.YtfddokfnplehkaaGreatDoor.Tx Go.Proofs.YtfddokfnplehkaaGreatDoor.Sp Go.Proofs.YtfddokfnplehkaaGreatDoor.Rd

set_option maxHeartbeats 4000000 in
set_option maxRecDepth 100000 in
theorem nmay_nil (c : Int) (g : Bool) (S : ByteArray) (x : Int) (w : World) (h0 : S.size = 0) :
    Calls Tryz.prog 66 #[.agg #[.int .i64 c, .bool g, .string S, .int .i64 x]] w fun e w' => e = .returned (.bool (mayB c g S.data.toList x)) ∧ Below w.heap.size w w' := by
  have HB := Lib.hid (alloc_below w (.cells #[.int .i64 c, .bool g, .string S, .int .i64 x] 23))
  rw [may_none (nil_of h0)]
  by_cases hx : x = 0
  · subst hx
    by_cases h1 : c = 0
    · subst h1
      go_enter Tryz.func66, Tryz.ntmps66
      go_wp2
      go_ret
      exact ⟨by simp, HB.out⟩
    · have e1 := eqB h1
      by_cases h2 : c = 1
      · subst h2
        go_enter Tryz.func66, Tryz.ntmps66
        go_wp2
        go_ret
        exact ⟨by simp, HB.out⟩
      · have e2 := eqB h2
        by_cases h3 : c = 2
        · subst h3
          go_enter Tryz.func66, Tryz.ntmps66
          go_wp2
          go_ret
          exact ⟨by simp, HB.out⟩
        · have e3 := eqB h3
          go_enter Tryz.func66, Tryz.ntmps66
          go_wp2
          go_ret
          exact ⟨by simp [h1, h2, h3], HB.out⟩
  · have e0 := eqB hx
    go_enter Tryz.func66, Tryz.ntmps66
    go_wp2
    go_ret
    exact ⟨by simp [hx], HB.out⟩
theorem fits_split (S : ByteArray) (x : Int) (h : ¬ (1000 : Int) < (S.size : Int)) : decide (fits S.data.toList x) = (decide (-2000 - (S.size : Int) ≤ x) && decide (x ≤ 2000 - (S.size : Int))) := by
  rw [Bool.eq_iff_iff]
  simp only [decide_eq_true_eq, Bool.and_eq_true]
  unfold fits
  rw [← Lib.size_eq]
  omega
set_option maxHeartbeats 4000000 in
set_option maxRecDepth 100000 in
theorem nmay_some (c : Int) (g : Bool) (S : ByteArray) (x : Int) (w : World) (h0 : 0 < S.size) (hS : S.size ≤ 9223372036854775807) :
    Calls Tryz.prog 66 #[.agg #[.int .i64 c, .bool g, .string S, .int .i64 x]] w fun e w' => e = .returned (.bool (mayB c g S.data.toList x)) ∧ Below w.heap.size w w' := by
  have HB := Lib.hid (alloc_below w (.cells #[.int .i64 c, .bool g, .string S, .int .i64 x] 23))
  have HK := Lib.hid (Bk.start w 23 #[.int .i64 c, .bool g, .string S, .int .i64 x])
  rw [may_some (ne_nil h0)]
  have hn : ¬ ((S.size : Int) = 0) := by omega
  have hnB := eqB hn
  by_cases hc : c = 0
  · subst hc
    by_cases k1 : (1000 : Int) < (S.size : Int)
    · have d1 := decide_eq_true k1
      rw [decide_eq_false (show ¬ fits S.data.toList x by unfold fits; rw [← Lib.size_eq]; omega)]
      go_enter Tryz.func66, Tryz.ntmps66
      go_wp2
      go_ret
      exact ⟨by simp, HB.out⟩
    · have d1 := decide_eq_false k1
      have hT := trimset_calls S hS (w.alloc (.cells #[.int .i64 0, .bool g, .string S, .int .i64 x] 23))
      by_cases hall : ∀ b ∈ S.data.toList, isDig b
      · rw [trim_all hall] at hT
        rw [digB_all hall, byte0 h0, byteL (k := S.size - 1) h0 (by omega), ← is48, ← is48, fits_split S x k1]
        have HT := Lib.hid hT
        clear hT hall
        generalize hb0 : (S[0].toNat : Int) = y0
        generalize hb1 : ((S[S.size - 1]'(by omega)).toNat : Int) = y1
        cases z0 : (y0 == 48)
        · have z0' : ¬ y0 = 48 := beq_eq_false_iff_ne.1 z0
          cases z1 : (y1 == 48)
          · have z1' : ¬ y1 = 48 := beq_eq_false_iff_ne.1 z1
            by_cases k2 : -2000 - (S.size : Int) ≤ x
            · have d2 := decide_eq_true k2
              go_enter Tryz.func66, Tryz.ntmps66
              go_wp2_with (go_at_call 83; (with_reducible refine HT.out.mono ?_); rintro e w1 ⟨rfl, b1⟩; have q := four (HK.out.below b1))
              go_ret
              exact ⟨by simp [z0, z1, d2], on HB.out b1⟩
            · have d2 := decide_eq_false k2
              go_enter Tryz.func66, Tryz.ntmps66
              go_wp2_with (go_at_call 83; (with_reducible refine HT.out.mono ?_); rintro e w1 ⟨rfl, b1⟩; have q := four (HK.out.below b1))
              go_ret
              exact ⟨by simp [z0, z1, d2], on HB.out b1⟩
          · obtain rfl : y1 = 48 := beq_iff_eq.1 z1
            go_enter Tryz.func66, Tryz.ntmps66
            go_wp2_with (go_at_call 83; (with_reducible refine HT.out.mono ?_); rintro e w1 ⟨rfl, b1⟩; have q := four (HK.out.below b1))
            go_ret
            exact ⟨by simp [z0, z1], on HB.out b1⟩
        · obtain rfl : y0 = 48 := beq_iff_eq.1 z0
          go_enter Tryz.func66, Tryz.ntmps66
          go_wp2_with (go_at_call 83; (with_reducible refine HT.out.mono ?_); rintro e w1 ⟨rfl, b1⟩; have q := four (HK.out.below b1))
          go_ret
          exact ⟨by simp [z0], on HB.out b1⟩
      · have he := trim_some hall
        rw [digB_not hall]
        generalize Lib.trimS S.data.toList digset = D at *
        have HT := Lib.hid hT
        clear hT hall
        go_enter Tryz.func66, Tryz.ntmps66
        go_wp2_with (go_at_call 83; (with_reducible refine HT.out.mono ?_); rintro e w1 ⟨rfl, b1⟩; have q := four (HK.out.below b1))
        go_ret
        exact ⟨by simp, on HB.out b1⟩
  · have e1 := eqB hc
    go_enter Tryz.func66, Tryz.ntmps66
    go_wp2
    go_ret
    exact ⟨by simp [hc], HB.out⟩
/-- nearest.may answers as the plain word does -/
theorem nmay_calls (c : Int) (g : Bool) (l : List UInt8) (x : Int) (w : World) (hl : l.length ≤ 9223372036854775807) :
    Calls Tryz.prog 66 #[.agg (dec c g l x)] w fun e w' => e = .returned (.bool (mayB c g l x)) ∧ Below w.heap.size w w' := by
  have hs : (⟨l.toArray⟩ : ByteArray).size = l.length := by rw [Lib.size_eq]
  rcases Nat.eq_zero_or_pos l.length with h | h
  · exact nmay_nil c g ⟨l.toArray⟩ x w (by omega)
  · exact nmay_some c g ⟨l.toArray⟩ x w (by omega) (by omega)
end Go.Proofs.YtfddokfnplehkaaGreatDoor.Dc

/- Layer 4: a width's least exponent, its infinity, its sign; natural numbers by their bits. -/
set_option linter.unusedSimpArgs false
set_option linter.unusedVariables false
namespace Go.Proofs.YtfddokfnplehkaaGreatDoor.Nr
open Go.RowKit Go.Proofs.YtfddokfnplehkaaGreatDoor.Dig Go.Proofs.YtfddokfnplehkaaGreatDoor.W Go.Proofs.YtfddokfnplehkaaGreatDoor.Nat Go.Proofs.YtfddokfnplehkaaGreatDoor.Wh Go.Proofs.YtfddokfnplehkaaGreatDoor.Td Go.Proofs.YtfddokfnplehkaaGreatDoor.Bu Go.Proofs.YtfddokfnplehkaaGreatDoor.Tx Go.Proofs.YtfddokfnplehkaaGreatDoor.Sp
open Go.Proofs.YtfddokfnplehkaaGreatDoor.Dc (on)

theorem least_w (w : World) :
    Calls Tryz.prog 110 #[.agg #[.int .i64 52, .int .i64 11]] w fun e w' => e = .returned (.int .i64 (-1074)) ∧ Below w.heap.size w w' := by
  go_enter Tryz.func110, Tryz.ntmps110
  go_wp2
  go_quiet (fail)
  go_wp2
  go_ret
  exact ⟨rfl, (alloc_below w _).trans (((drewN_below _ _)).mono (by simp))⟩
theorem top_w (w : World) :
    Calls Tryz.prog 67 #[.agg #[.int .i64 52, .int .i64 11]] w fun e w' => e = .returned (.int .u64 9218868437227405312) ∧ Below w.heap.size w w' := by
  go_enter Tryz.func67, Tryz.ntmps67
  go_wp2
  go_quiet (fail)
  go_wp2
  go_ret
  exact ⟨rfl, (alloc_below w _).trans (((drewN_below _ _)).mono (by simp))⟩
theorem sign_w (g : Bool) (w : World) :
    Calls Tryz.prog 68 #[.agg #[.int .i64 52, .int .i64 11], .bool g] w fun e w' => e = .returned (.int .u64 (if g then 9223372036854775808 else 0)) ∧ Below w.heap.size w w' := by
  cases g
  · go_enter Tryz.func68, Tryz.ntmps68
    go_wp2
    go_ret
    exact ⟨rfl, alloc_below w _⟩
  · go_enter Tryz.func68, Tryz.ntmps68
    go_wp2
    go_ret
    exact ⟨rfl, alloc_below w _⟩
theorem least_n (w : World) :
    Calls Tryz.prog 110 #[.agg #[.int .i64 23, .int .i64 8]] w fun e w' => e = .returned (.int .i64 (-149)) ∧ Below w.heap.size w w' := by
  go_enter Tryz.func110, Tryz.ntmps110
  go_wp2
  go_quiet (fail)
  go_wp2
  go_ret
  exact ⟨rfl, (alloc_below w _).trans (((drewN_below _ _)).mono (by simp))⟩
theorem top_n (w : World) :
    Calls Tryz.prog 67 #[.agg #[.int .i64 23, .int .i64 8]] w fun e w' => e = .returned (.int .u64 2139095040) ∧ Below w.heap.size w w' := by
  go_enter Tryz.func67, Tryz.ntmps67
  go_wp2
  go_quiet (fail)
  go_wp2
  go_ret
  exact ⟨rfl, (alloc_below w _).trans (((drewN_below _ _)).mono (by simp))⟩
theorem sign_n (g : Bool) (w : World) :
    Calls Tryz.prog 68 #[.agg #[.int .i64 23, .int .i64 8], .bool g] w fun e w' => e = .returned (.int .u64 (if g then 2147483648 else 0)) ∧ Below w.heap.size w w' := by
  cases g
  · go_enter Tryz.func68, Tryz.ntmps68
    go_wp2
    go_ret
    exact ⟨rfl, alloc_below w _⟩
  · go_enter Tryz.func68, Tryz.ntmps68
    go_wp2
    go_ret
    exact ⟨rfl, alloc_below w _⟩
/-- of at most K bits -/
def Bt (x K : Nat) : Prop := x < 2 ^ K
theorem Bt.mono {x a b : Nat} (h : Bt x a) (hab : a ≤ b) : Bt x b := Nat.lt_of_lt_of_le h (Nat.pow_le_pow_right (by omega) hab)
theorem Bt.shl {x a : Nat} (h : Bt x a) (k : Nat) : Bt (x * 2 ^ k) (a + k) := by
  unfold Bt at *
  rw [Nat.pow_add]
  exact Nat.mul_lt_mul_of_pos_right h (p2 k)
theorem Bt.le {x y a : Nat} (h : Bt x a) (hy : y ≤ x) : Bt y a := Nat.lt_of_le_of_lt hy h
theorem Bt.add {x y a : Nat} (h : Bt x a) (h' : Bt y a) : Bt (x + y) (a + 1) := by
  unfold Bt at *
  rw [Nat.pow_succ]; omega
theorem Bt.succ {x a : Nat} (h : Bt x a) : Bt (x + 1) (a + 1) := by
  have := p2 a
  unfold Bt at *
  rw [Nat.pow_succ]; omega
theorem Bt.len {x K : Nat} (h : Bt x K) : (digs U x).length ≤ K := by
  refine (digs_length_le U_two _ _).2 (Nat.lt_of_lt_of_le h (Nat.pow_le_pow_left (by unfold U; omega) K))
theorem n_shl (A : Option Addr) (n c m k : Nat) (w : World) (h : SI w .u64 A n c (digs U m)) {K : Nat} (hm : Bt m K) (hK : K ≤ 100000) (hk : k ≤ 65536) :
    Calls Tryz.prog 113 #[.slice A n c, .int .i64 (k : Nat)] w (GivesOwn2 w 24 .u64 (digs U (m * 2 ^ k))) :=
  Sh.shl_d A n c m k w h (by rw [← h.len]; have := hm.len; omega) hk
theorem n_div (A A' : Option Addr) (n c n' c' x y : Nat) (w : World) (h : SI w .u64 A n c (digs U x)) (h' : SI w .u64 A' n' c' (digs U y)) {K : Nat} (hx : Bt x K) (hy : Bt y K) (hK : K ≤ 100000) (h0 : y ≠ 0) :
    Calls Tryz.prog 88 #[.slice A n c, .slice A' n' c'] w (Nat.GivesQR w 24 .u64 (digs U (x / y)) (digs U (x % y))) := by
  have e := Nat.divmod_calls A A' n c n' c' (digs U x) (digs U y) w h h' (dl x) (dl y) (by rw [← h.len]; have := hx.len; omega) (by rw [← h'.len]; have := hy.len; omega) (by rw [val_digs U_two]; exact h0)
  rw [val_digs U_two, val_digs U_two] at e
  exact e
theorem n_add (A A' : Option Addr) (n c n' c' x y : Nat) (w : World) (h : SI w .u64 A n c (digs U x)) (h' : SI w .u64 A' n' c' (digs U y)) {K : Nat} (hx : Bt x K) (hy : Bt y K) (hK : K ≤ 100000) :
    Calls Tryz.prog 86 #[.slice A n c, .slice A' n' c'] w (GivesOwn w 24 .u64 (digs U (x + y))) :=
  add_d A A' n c n' c' x y K w h h' (by omega) hx.len hy.len
theorem n_bits (A : Option Addr) (n c m : Nat) (w : World) (h : SI w .u64 A n c (digs U m)) {K : Nat} (hm : Bt m K) (hK : K ≤ 100000) :
    Calls Tryz.prog 98 #[.slice A n c] w fun e w' => e = .returned (.int .i64 (nbits m : Nat)) ∧ w = w' := by
  have e := Nat.bits_calls A n c (digs U m) w h (dl m) (by rw [← h.len]; have := hm.len; omega)
  rw [val_digs U_two] at e
  exact e
end Go.Proofs.YtfddokfnplehkaaGreatDoor.Nr

/- Layer 4: quotient.whole. -/
set_option linter.unusedSimpArgs false
set_option linter.unusedVariables false
namespace Go.Proofs.YtfddokfnplehkaaGreatDoor.Nr
open Go.RowKit Go.Proofs.YtfddokfnplehkaaGreatDoor.Dig Go.Proofs.YtfddokfnplehkaaGreatDoor.W Go.Proofs.YtfddokfnplehkaaGreatDoor.Nat Go.Proofs.YtfddokfnplehkaaGreatDoor.Wh Go.Proofs.YtfddokfnplehkaaGreatDoor.Td Go.Proofs.YtfddokfnplehkaaGreatDoor.Bu Go.Proofs.YtfddokfnplehkaaGreatDoor.Tx Go.Proofs.YtfddokfnplehkaaGreatDoor.Sp
open Go.Proofs.YtfddokfnplehkaaGreatDoor.Rd (stand)
open Go.Proofs.YtfddokfnplehkaaGreatDoor.Dc (on and_one cmp_10)

theorem odd_first {Q : Nat} (h : Q ≠ 0) : rd (digs U Q) 0 = Q % U := by rw [digs_pos U_two h]; rfl
theorem odd_u64 (Q : Nat) : Q % U % 2 = Q % 2 := by unfold U; omega
theorem rhe_cases (N D : Nat) : (stand (N % D + N % D) D = -1 ∧ rhe N D = N / D) ∨ (stand (N % D + N % D) D = 0 ∧ rhe N D = if N / D % 2 = 1 then N / D + 1 else N / D) ∨ (stand (N % D + N % D) D = 1 ∧ rhe N D = N / D + 1) := by
  unfold rhe stand
  rcases Nat.lt_trichotomy (N % D + N % D) D with h | h | h
  · left
    rw [if_pos h, if_neg (by omega)]
    exact ⟨rfl, rfl⟩
  · right; left
    rw [if_neg (by omega), if_pos h]
    refine ⟨rfl, ?_⟩
    by_cases ho : N / D % 2 = 1
    · rw [if_pos ho, if_pos (.inr ⟨by omega, ho⟩)]
    · rw [if_neg ho, if_neg (by omega)]
  · right; right
    rw [if_neg (by omega), if_neg (by omega), if_pos (.inl (by omega))]
    exact ⟨rfl, rfl⟩
theorem Bt.div {x a : Nat} (h : Bt x a) (d : Nat) : Bt (x / d) a := h.le (Nat.div_le_self _ _)
theorem Bt.mod {x a : Nat} (h : Bt x a) (d : Nat) : Bt (x % d) a := h.le (Nat.mod_le _ _)
theorem Bt.one {a : Nat} (h : 0 < a) : Bt 1 a := two_lt a h
/-- two slices, in a world later on -/
structure Q2 (w V : World) (A : Option Addr) (n c x : Nat) (A' : Option Addr) (n' c' y : Nat) : Prop where
  a : SI V .u64 A n c (digs U x)
  b : SI V .u64 A' n' c' (digs U y)
  bl : Below w.heap.size w V
theorem Q2.below {w V V' : World} {A A' : Option Addr} {n c x n' c' y : Nat} (h : Q2 w V A n c x A' n' c' y) (b : Below V.heap.size V V') : Q2 w V' A n c x A' n' c' y := ⟨h.a.below b, h.b.below b, on h.bl b⟩
set_option maxHeartbeats 8000000 in
set_option maxRecDepth 100000 in
theorem whole_calls (M X : Int) (A A' : Option Addr) (n c n' c' num den K : Nat) (e : Int) (w : World) (h : SI w .u64 A n c (digs U num)) (h' : SI w .u64 A' n' c' (digs U den)) (hn : Bt num K) (hd : Bt den K) (hK : K ≤ 20000) (hden : 0 < den) (he : -20000 ≤ e) (he' : e ≤ 20000) :
    Calls Tryz.prog 111 #[.agg #[.int .i64 M, .int .i64 X, .slice A n c, .slice A' n' c'], .int .i64 e] w (Gives w .u64 (digs U (rhe (num * 2 ^ (-e).toNat) (den * 2 ^ e.toNat)))) := by
  obtain ⟨B0, b0⟩ := (show Bk (w.alloc (.cells #[.int .i64 M, .int .i64 X, .slice A n c, .slice A' n' c'] 95)) w.heap.size 95 #[.int .i64 M, .int .i64 X, .slice A n c, .slice A' n' c'] ∧ Below w.heap.size w (w.alloc (.cells #[.int .i64 M, .int .i64 X, .slice A n c, .slice A' n' c'] 95)) from ⟨Bk.start w _ _, alloc_below w _⟩)
  have f0 := B0.at_ 2 rfl
  have f1 := B0.at_ 3 rfl
  have Z0 := Lib.hid (show Q2 w _ A n c num A' n' c' den from ⟨h.below b0, h'.below b0, b0⟩)
  obtain ⟨k, hk⟩ : ∃ k : Nat, k = e.natAbs := ⟨_, rfl⟩
  obtain ⟨N, D, bN, bD, hD, hND, hcase⟩ : ∃ N D : Nat, Bt N 40000 ∧ Bt D 40000 ∧ D ≠ 0 ∧ rhe (num * 2 ^ (-e).toNat) (den * 2 ^ e.toNat) = rhe N D ∧ ((e = -(k : Int) ∧ 0 < k ∧ N = num * 2 ^ k ∧ D = den) ∨ (e = (k : Int) ∧ N = num ∧ D = den * 2 ^ k)) := by
    by_cases h0 : e < 0
    · refine ⟨num * 2 ^ k, den, (hn.shl k).mono (by omega), hd.mono (by omega), by omega, ?_, .inl ⟨by omega, by omega, rfl, rfl⟩⟩
      rw [show (-e).toNat = k by omega, show e.toNat = 0 by omega, Nat.pow_zero, Nat.mul_one]
    · refine ⟨num, den * 2 ^ k, hn.mono (by omega), (hd.shl k).mono (by omega), Nat.ne_of_gt (Nat.mul_pos hden (p2 k)), ?_, .inr ⟨by omega, rfl, rfl⟩⟩
      rw [show (-e).toNat = 0 by omega, show e.toNat = k by omega, Nat.pow_zero, Nat.mul_one]
  rw [hND]
  have hR := rhe_cases N D
  have bQ := bN.div D
  have bR := bD.le (Nat.le_of_lt (Nat.mod_lt N (Nat.pos_of_ne_zero hD)))
  have HDM := Lib.hid (fun (A A' : Option Addr) (n c n' c' : Nat) (w1 : World) (h : SI w1 .u64 A n c (digs U N)) (h' : SI w1 .u64 A' n' c' (digs U D)) => n_div A A' n c n' c' N D w1 h h' bN bD (by omega) hD)
  obtain ⟨Q, hQ⟩ : ∃ Q, Q = N / D := ⟨_, rfl⟩
  obtain ⟨R, hRr⟩ : ∃ R, R = N % D := ⟨_, rfl⟩
  rw [← hQ, ← hRr] at HDM hR
  rw [← hQ] at bQ
  rw [← hRr] at bR
  have HAR := Lib.hid (fun (A : Option Addr) (n c : Nat) (w1 : World) (h : SI w1 .u64 A n c (digs U R)) => n_add A A n c n c R R w1 h h bR bR (by omega))
  have HCM := Lib.hid (fun (A A' : Option Addr) (n c n' c' : Nat) (w1 : World) (h : SI w1 .u64 A n c (digs U (R + R))) (h' : SI w1 .u64 A' n' c' (digs U D)) => cmp_10 A A' n c n' c' (R + R) D w1 h h')
  have HAQ := Lib.hid (fun (A A' : Option Addr) (n c n' c' : Nat) (w1 : World) (h : SI w1 .u64 A n c (digs U Q)) (h' : SI w1 .u64 A' n' c' (digs U 1)) => n_add A A' n c n' c' Q 1 w1 h h' bQ (Bt.one (by omega)) (by omega))
  obtain ⟨res, hres⟩ : ∃ res, res = rhe N D := ⟨_, rfl⟩
  rw [← hres] at hR ⊢
  obtain ⟨st, hst⟩ : ∃ st, st = stand (R + R) D := ⟨_, rfl⟩
  rw [← hst] at hR HCM
  have HSN := Lib.hid (fun (A : Option Addr) (n c : Nat) (w1 : World) (h : SI w1 .u64 A n c (digs U num)) => n_shl A n c num k w1 h hn (by omega) (by omega))
  have HSD := Lib.hid (fun (A : Option Addr) (n c : Nat) (w1 : World) (h : SI w1 .u64 A n c (digs U den)) => n_shl A n c den k w1 h hd (by omega) (by omega))
  clear hst hres hQ hRr hND bN bD hD bQ bR hn hd h h' hden B0 b0 hk
  rcases hcase with ⟨rfl, hk0, hN, hDd⟩ | ⟨rfl, hN, hDd⟩
  · rw [← hN] at HSN
    rw [← hDd] at Z0
    clear hN hDd HSD
    have hlt := decide_eq_true (show -(k : Int) < 0 by omega)
    go_enter Tryz.func111, Tryz.ntmps111
    go_wp2
    go_quiet (fail)
    have Y0 := Z0.out.below (drewN_below _ nq)
    generalize (w.alloc (.cells #[.int .i64 M, .int .i64 X, .slice A n c, .slice A' n' c'] 95)).drewN nq = Y at *
    go_upto_region 5 with (go_at_call 113; (with_reducible refine (HSN.out _ _ _ _ Y0.a).mono ?_); rintro e w1 ⟨v1, rfl, o1, b1⟩; obtain ⟨A1, n1, c1, rfl, r1⟩ := o1.reads_n)
    have Z : Q2 w w1 A1 n1 c1 N A' n' c' D := ⟨r1, (Y0.below b1).b, on Y0.bl b1⟩
    clear Y0 Z0 r1 b1 o1 hlt
    by_cases hq : Q = 0
    · subst hq
      have HL := Lib.hid (show (digs U 0).length = 0 by rw [digs_zero]; rfl)
      rcases hR with ⟨rfl, hR⟩ | ⟨rfl, hR⟩ | ⟨rfl, hR⟩
      all_goals
        have HRr := Lib.hid hR
        clear hR
        go_wp2_with (first
          | (go_at_call 88; (with_reducible refine (HDM.out _ _ _ _ _ _ _ Z.a Z.b).mono ?_); rintro e w2 ⟨v3, v4, rfl, o3, o4, b2⟩; obtain ⟨A3, n3, c3, rfl, r3⟩ := o3.reads_n; obtain ⟨A4, n4, c4, rfl, r4⟩ := o4.reads_n; have Z2 := Z.below b2; obtain rfl : n3 = 0 := r3.len.symm.trans HL.out)
          | (go_at_call 71; (with_reducible refine (of_one _).mono ?_); rintro e w5 ⟨v6, rfl, o6, b5⟩; obtain ⟨A6, n6, c6, rfl, r6⟩ := o6.reads_n; have r35 := r34.below b5; have bl5 := on bl4 b5)
          | (go_at_call 86; first
            | ((with_reducible refine (HAR.out A4 n4 c4 w2 r4).mono ?_); rintro e w3 ⟨v5, rfl, o5, b3⟩; obtain ⟨A5, n5, c5, rfl, r5⟩ := o5.reads_n; have Z3 := Z2.below b3; have r33 := r3.below b3)
            | ((with_reducible refine (HAQ.out _ A6 _ c3 n6 c6 w5 r35 r6).mono ?_); rintro e w6 ⟨v7, rfl, o7, b6⟩; obtain ⟨A7, n7, c7, rfl, r7⟩ := o7.reads_n; have bl6 := on bl5 b6))
          | (go_at_call 89; (with_reducible refine (HCM.out A5 _ n5 c5 _ _ w3 r5 Z3.b).mono ?_); rintro e w4 ⟨rfl, d4⟩; have r34 := r33.below d4.below; have bl4 := on Z3.bl d4.below))
        go_ret
        first
          | exact ⟨_, _, _, rfl, by rw [HRr.out]; exact r7, bl6⟩
          | exact ⟨_, _, _, rfl, by rw [HRr.out]; exact r34, bl4⟩
          | exact ⟨_, _, _, rfl, by rw [HRr.out, if_neg (by decide)]; exact r34, bl4⟩
    · have HL := Lib.hid (digs_length_pos U_two hq)
      obtain ⟨od, hod⟩ : ∃ od, od = decide (Q % 2 = 1) := ⟨_, rfl⟩
      have hodd : ((((rd (digs U Q) 0 : Nat) : Int) % 2) == 1) = od := by
        rw [odd_first hq, hod, Bool.eq_iff_iff]
        have := odd_u64 Q
        simp
        omega
      have hite : (if Q % 2 = 1 then Q + 1 else Q) = if od then Q + 1 else Q := by rw [hod]; simp
      rw [hite] at hR
      clear hite hod
      obtain ⟨q0, hq0⟩ : ∃ q0, q0 = rd (digs U Q) 0 := ⟨_, rfl⟩
      rw [← hq0] at hodd
      have HQ0 := Lib.hid hq0
      clear hq0
      have hk : ∀ {V V' : World} {b o n c : Nat}, SI V .u64 (some ⟨b, o, none⟩) n c (digs U Q) → 0 < n → Below V.heap.size V V' → V'.cell? ⟨b, o, none⟩ = some (.int .u64 (q0 : Nat)) := fun z h bb => by
        have := (z.keepS h bb).2
        rw [HQ0.out]
        exact this
      rcases hR with ⟨rfl, hR⟩ | ⟨rfl, hR⟩ | ⟨rfl, hR⟩ <;> cases od
      all_goals
        have HRr := Lib.hid hR
        clear hR
        go_wp2_with (first
          | (go_at_call 88; (with_reducible refine (HDM.out _ _ _ _ _ _ _ Z.a Z.b).mono ?_); rintro e w2 ⟨v3, v4, rfl, o3, o4, b2⟩; obtain ⟨A3, n3, c3, rfl, r3⟩ := o3.reads_n; obtain ⟨A4, n4, c4, rfl, r4⟩ := o4.reads_n; have Z2 := Z.below b2; have h3 : 0 < n3 := (by rw [← r3.len]; exact HL.out); obtain ⟨bq, oq, rfl, _⟩ := r3.at_ (j := 0) h3)
          | (go_at_call 71; (with_reducible refine (of_one _).mono ?_); rintro e w5 ⟨v6, rfl, o6, b5⟩; obtain ⟨A6, n6, c6, rfl, r6⟩ := o6.reads_n; have r35 := r34.below b5; have bl5 := on bl4 b5)
          | (go_at_call 86; first
            | ((with_reducible refine (HAR.out A4 n4 c4 w2 r4).mono ?_); rintro e w3 ⟨v5, rfl, o5, b3⟩; obtain ⟨A5, n5, c5, rfl, r5⟩ := o5.reads_n; have Z3 := Z2.below b3; have r33 := r3.below b3)
            | ((with_reducible refine (HAQ.out _ A6 n3 c3 n6 c6 w5 r35 r6).mono ?_); rintro e w6 ⟨v7, rfl, o7, b6⟩; obtain ⟨A7, n7, c7, rfl, r7⟩ := o7.reads_n; have bl6 := on bl5 b6))
          | (go_at_call 89; (with_reducible refine (HCM.out A5 _ n5 c5 _ _ w3 r5 Z3.b).mono ?_); rintro e w4 ⟨rfl, d4⟩; have r34 := r33.below d4.below; have bl4 := on Z3.bl d4.below; have kq := hk r33 h3 d4.below))
        go_ret
        first
          | exact ⟨_, _, _, rfl, by rw [HRr.out]; exact r7, bl6⟩
          | exact ⟨_, _, _, rfl, by rw [HRr.out]; exact r34, bl4⟩
          | exact ⟨_, _, _, rfl, by rw [HRr.out, if_pos rfl]; exact r7, bl6⟩
          | exact ⟨_, _, _, rfl, by rw [HRr.out, if_neg (by decide)]; exact r34, bl4⟩
  · rw [← hDd] at HSD
    rw [← hN] at Z0
    clear hN hDd HSN
    have hlt := decide_eq_false (show ¬ (k : Int) < 0 by omega)
    go_enter Tryz.func111, Tryz.ntmps111
    go_wp2
    go_quiet (fail)
    have Y0 := Z0.out.below (drewN_below _ nq)
    generalize (w.alloc (.cells #[.int .i64 M, .int .i64 X, .slice A n c, .slice A' n' c'] 95)).drewN nq = Y at *
    go_upto_region 5 with (go_at_call 113; (with_reducible refine (HSD.out _ _ _ _ Y0.b).mono ?_); rintro e w1 ⟨v1, rfl, o1, b1⟩; obtain ⟨A1, n1, c1, rfl, r1⟩ := o1.reads_n)
    have Z : Q2 w w1 A n c N A1 n1 c1 D := ⟨(Y0.below b1).a, r1, on Y0.bl b1⟩
    clear Y0 Z0 r1 b1 o1 hlt
    by_cases hq : Q = 0
    · subst hq
      have HL := Lib.hid (show (digs U 0).length = 0 by rw [digs_zero]; rfl)
      rcases hR with ⟨rfl, hR⟩ | ⟨rfl, hR⟩ | ⟨rfl, hR⟩
      all_goals
        have HRr := Lib.hid hR
        clear hR
        go_wp2_with (first
          | (go_at_call 88; (with_reducible refine (HDM.out _ _ _ _ _ _ _ Z.a Z.b).mono ?_); rintro e w2 ⟨v3, v4, rfl, o3, o4, b2⟩; obtain ⟨A3, n3, c3, rfl, r3⟩ := o3.reads_n; obtain ⟨A4, n4, c4, rfl, r4⟩ := o4.reads_n; have Z2 := Z.below b2; obtain rfl : n3 = 0 := r3.len.symm.trans HL.out)
          | (go_at_call 71; (with_reducible refine (of_one _).mono ?_); rintro e w5 ⟨v6, rfl, o6, b5⟩; obtain ⟨A6, n6, c6, rfl, r6⟩ := o6.reads_n; have r35 := r34.below b5; have bl5 := on bl4 b5)
          | (go_at_call 86; first
            | ((with_reducible refine (HAR.out A4 n4 c4 w2 r4).mono ?_); rintro e w3 ⟨v5, rfl, o5, b3⟩; obtain ⟨A5, n5, c5, rfl, r5⟩ := o5.reads_n; have Z3 := Z2.below b3; have r33 := r3.below b3)
            | ((with_reducible refine (HAQ.out _ A6 _ c3 n6 c6 w5 r35 r6).mono ?_); rintro e w6 ⟨v7, rfl, o7, b6⟩; obtain ⟨A7, n7, c7, rfl, r7⟩ := o7.reads_n; have bl6 := on bl5 b6))
          | (go_at_call 89; (with_reducible refine (HCM.out A5 _ n5 c5 _ _ w3 r5 Z3.b).mono ?_); rintro e w4 ⟨rfl, d4⟩; have r34 := r33.below d4.below; have bl4 := on Z3.bl d4.below))
        go_ret
        first
          | exact ⟨_, _, _, rfl, by rw [HRr.out]; exact r7, bl6⟩
          | exact ⟨_, _, _, rfl, by rw [HRr.out]; exact r34, bl4⟩
          | exact ⟨_, _, _, rfl, by rw [HRr.out, if_neg (by decide)]; exact r34, bl4⟩
    · have HL := Lib.hid (digs_length_pos U_two hq)
      obtain ⟨od, hod⟩ : ∃ od, od = decide (Q % 2 = 1) := ⟨_, rfl⟩
      have hodd : ((((rd (digs U Q) 0 : Nat) : Int) % 2) == 1) = od := by
        rw [odd_first hq, hod, Bool.eq_iff_iff]
        have := odd_u64 Q
        simp
        omega
      have hite : (if Q % 2 = 1 then Q + 1 else Q) = if od then Q + 1 else Q := by rw [hod]; simp
      rw [hite] at hR
      clear hite hod
      obtain ⟨q0, hq0⟩ : ∃ q0, q0 = rd (digs U Q) 0 := ⟨_, rfl⟩
      rw [← hq0] at hodd
      have HQ0 := Lib.hid hq0
      clear hq0
      have hk : ∀ {V V' : World} {b o n c : Nat}, SI V .u64 (some ⟨b, o, none⟩) n c (digs U Q) → 0 < n → Below V.heap.size V V' → V'.cell? ⟨b, o, none⟩ = some (.int .u64 (q0 : Nat)) := fun z h bb => by
        have := (z.keepS h bb).2
        rw [HQ0.out]
        exact this
      rcases hR with ⟨rfl, hR⟩ | ⟨rfl, hR⟩ | ⟨rfl, hR⟩ <;> cases od
      all_goals
        have HRr := Lib.hid hR
        clear hR
        go_wp2_with (first
          | (go_at_call 88; (with_reducible refine (HDM.out _ _ _ _ _ _ _ Z.a Z.b).mono ?_); rintro e w2 ⟨v3, v4, rfl, o3, o4, b2⟩; obtain ⟨A3, n3, c3, rfl, r3⟩ := o3.reads_n; obtain ⟨A4, n4, c4, rfl, r4⟩ := o4.reads_n; have Z2 := Z.below b2; have h3 : 0 < n3 := (by rw [← r3.len]; exact HL.out); obtain ⟨bq, oq, rfl, _⟩ := r3.at_ (j := 0) h3)
          | (go_at_call 71; (with_reducible refine (of_one _).mono ?_); rintro e w5 ⟨v6, rfl, o6, b5⟩; obtain ⟨A6, n6, c6, rfl, r6⟩ := o6.reads_n; have r35 := r34.below b5; have bl5 := on bl4 b5)
          | (go_at_call 86; first
            | ((with_reducible refine (HAR.out A4 n4 c4 w2 r4).mono ?_); rintro e w3 ⟨v5, rfl, o5, b3⟩; obtain ⟨A5, n5, c5, rfl, r5⟩ := o5.reads_n; have Z3 := Z2.below b3; have r33 := r3.below b3)
            | ((with_reducible refine (HAQ.out _ A6 n3 c3 n6 c6 w5 r35 r6).mono ?_); rintro e w6 ⟨v7, rfl, o7, b6⟩; obtain ⟨A7, n7, c7, rfl, r7⟩ := o7.reads_n; have bl6 := on bl5 b6))
          | (go_at_call 89; (with_reducible refine (HCM.out A5 _ n5 c5 _ _ w3 r5 Z3.b).mono ?_); rintro e w4 ⟨rfl, d4⟩; have r34 := r33.below d4.below; have bl4 := on Z3.bl d4.below; have kq := hk r33 h3 d4.below))
        go_ret
        first
          | exact ⟨_, _, _, rfl, by rw [HRr.out]; exact r7, bl6⟩
          | exact ⟨_, _, _, rfl, by rw [HRr.out]; exact r34, bl4⟩
          | exact ⟨_, _, _, rfl, by rw [HRr.out, if_pos rfl]; exact r7, bl6⟩
          | exact ⟨_, _, _, rfl, by rw [HRr.out, if_neg (by decide)]; exact r34, bl4⟩
end Go.Proofs.YtfddokfnplehkaaGreatDoor.Nr

/- Layer 4: quotient.bits. -/
set_option linter.unusedSimpArgs false
set_option linter.unusedVariables false
namespace Go.Proofs.YtfddokfnplehkaaGreatDoor.Nr
open Go.RowKit Go.Proofs.YtfddokfnplehkaaGreatDoor.Dig Go.Proofs.YtfddokfnplehkaaGreatDoor.W Go.Proofs.YtfddokfnplehkaaGreatDoor.Nat Go.Proofs.YtfddokfnplehkaaGreatDoor.Wh Go.Proofs.YtfddokfnplehkaaGreatDoor.Td Go.Proofs.YtfddokfnplehkaaGreatDoor.Bu Go.Proofs.YtfddokfnplehkaaGreatDoor.Tx Go.Proofs.YtfddokfnplehkaaGreatDoor.Sp
open Go.Proofs.YtfddokfnplehkaaGreatDoor.Rd (stand)
open Go.Proofs.YtfddokfnplehkaaGreatDoor.Dc (on and_one cmp_10)

/-- the quotient in its box -/
structure QB (w V : World) (M X : Int) (A : Option Addr) (n c x : Nat) (A' : Option Addr) (n' c' y : Nat) : Prop where
  k : Bk V w.heap.size 95 #[.int .i64 M, .int .i64 X, .slice A n c, .slice A' n' c']
  a : SI V .u64 A n c (digs U x)
  b : SI V .u64 A' n' c' (digs U y)
  bl : Below w.heap.size w V
section
variable {w V V' : World} {M X : Int} {A A' : Option Addr} {n c x n' c' y : Nat}
theorem QB.start (M X : Int) (h : SI w .u64 A n c (digs U x)) (h' : SI w .u64 A' n' c' (digs U y)) : QB w (w.alloc (.cells #[.int .i64 M, .int .i64 X, .slice A n c, .slice A' n' c'] 95)) M X A n c x A' n' c' y :=
  ⟨Bk.start w _ _, h.below (alloc_below w _), h'.below (alloc_below w _), alloc_below w _⟩
theorem QB.below (h : QB w V M X A n c x A' n' c' y) (b : Below V.heap.size V V') : QB w V' M X A n c x A' n' c' y := ⟨h.k.below b, h.a.below b, h.b.below b, on h.bl b⟩
theorem QB.drew (h : QB w V M X A n c x A' n' c' y) : QB w V.drew M X A n c x A' n' c' y := h.below (Below.refl _ _).drew
theorem QB.keep (h : QB w V M X A n c x A' n' c' y) : V.cell? ⟨w.heap.size, 0, none⟩ = some (.int .i64 M) ∧ V.cell? ⟨w.heap.size, 1, none⟩ = some (.int .i64 X) ∧ V.cell? ⟨w.heap.size, 2, none⟩ = some (.slice A n c) ∧ V.cell? ⟨w.heap.size, 3, none⟩ = some (.slice A' n' c') := ⟨h.k.at_ 0 rfl, h.k.at_ 1 rfl, h.k.at_ 2 rfl, h.k.at_ 3 rfl⟩
end
theorem bits_big {m M : Nat} : (nbits m : Int) > (M : Int) + 1 ↔ 2 ^ (M + 1) ≤ m := by
  have := bits_le m (M + 1)
  constructor
  · intro h
    exact Nat.le_of_not_lt fun k => by have := this.2 k; omega
  · intro h
    have : ¬ nbits m ≤ M + 1 := fun k => by have := this.1 k; omega
    omega
theorem rhe_bt {n d K : Nat} (h : Bt n K) : Bt (rhe n d) (K + 1) := by
  have e : rhe n d ≤ n + 1 := by
    have := Nat.div_le_self n d
    unfold rhe
    split <;> omega
  exact (h.succ).le e
/-- where the search stands: exponent k - 1074 -/
def BI_w (w : World) (A : Option Addr) (n c num : Nat) (A' : Option Addr) (n' c' den : Nat) (z v : Value) (wr : World) (k : Nat) (A1 : Option Addr) (n1 c1 : Nat) : Prop :=
  z = .int .i64 ((k : Int) - 1074) ∧ v = .slice A1 n1 c1 ∧ SI wr .u64 A1 n1 c1 (digs U (rhe (num * 2 ^ 1074) (den * 2 ^ k))) ∧ (k = 0 ∨ 2 ^ (52 + 1) ≤ rhe (num * 2 ^ 1074) (den * 2 ^ (k - 1))) ∧ k ≤ 8000 + 1074 ∧ QB w wr 52 11 A n c num A' n' c' den
set_option exponentiation.threshold 2000 in
set_option maxHeartbeats 8000000 in
set_option maxRecDepth 100000 in
theorem bits_calls_w (A A' : Option Addr) (n c n' c' num den b : Nat) (w : World) (h : SI w .u64 A n c (digs U num)) (h' : SI w .u64 A' n' c' (digs U den)) (hn : Bt num 8000) (hd : Bt den 11000) (hn0 : 0 < num) (hden : 0 < den)
    (hb : Near 52 (num * 2 ^ 1074) den b) :
    Calls Tryz.prog 72 #[.agg #[.int .i64 52, .int .i64 11, .slice A n c, .slice A' n' c']] w fun e w' => e = .returned (.int .u64 ((min b 9218868437227405312 : Nat) : Int)) ∧ Below w.heap.size w w' := by
  have HB := Lib.hid (QB.start 52 11 h h')
  have HN := Lib.hid (fun (V : World) (z : QB w V 52 11 A n c num A' n' c' den) => n_bits A n c num V z.a hn (by omega))
  have HD := Lib.hid (fun (V : World) (z : QB w V 52 11 A n c num A' n' c' den) => n_bits A' n' c' den V z.b hd (by omega))
  have HWh := Lib.hid (fun (V : World) (z : QB w V 52 11 A n c num A' n' c' den) (k : Nat) (x : Int) (hx : x = (k : Int) - 1074) (hk : k ≤ 9000 + 1074) => (show Calls Tryz.prog 111 #[.agg #[.int .i64 52, .int .i64 11, .slice A n c, .slice A' n' c'], .int .i64 x] V (Gives V .u64 (digs U (rhe (num * 2 ^ 1074) (den * 2 ^ k)))) from by
    subst hx
    rw [rhe_at num den 1074 k ((k : Int) - 1074) (by omega)]
    exact whole_calls 52 11 A A' n c n' c' num den 11000 ((k : Int) - 1074) V z.a z.b (hn.mono (by omega)) hd (by omega) hden (by omega) (by omega)))
  have hbn := (bits_le num 8000).2 hn
  have hbd := (bits_le den 11000).2 hd
  obtain ⟨k0, hk0, hk1, hk2⟩ : ∃ k0 : Nat, max ((nbits num : Int) - nbits den - 52 - 1) (-1074) = (k0 : Int) - 1074 ∧ k0 ≤ 8000 + 1074 ∧ (k0 = 0 ∨ 2 ^ (52 + 1) ≤ rhe (num * 2 ^ 1074) (den * 2 ^ (k0 - 1))) := by
    obtain ⟨k0, hk0⟩ : ∃ k0 : Nat, (k0 : Int) = max ((nbits num : Int) - nbits den - 52 - 1) (-1074) + 1074 := ⟨(max ((nbits num : Int) - nbits den - 52 - 1) (-1074) + 1074).toNat, by omega⟩
    refine ⟨k0, by omega, by omega, ?_⟩
    by_cases hz : k0 = 0
    · exact .inl hz
    · right
      have h1 : 2 ^ nbits num ≤ 2 * num := by
        have := pow_bits_le (Nat.ne_of_gt hn0)
        have hp := bits_pos (Nat.ne_of_gt hn0)
        have e : 2 ^ nbits num = 2 ^ (nbits num - 1) * 2 := by rw [← Nat.pow_succ]; congr 1; omega
        omega
      exact start_le (bn := nbits num) (bd := nbits den) (c := 1) hden h1 (lt_pow_bits den) (Nat.le_refl _) (by omega) (by omega)
  have HS := Lib.hid hk2
  have S1 := Lib.hid (show IntKind.i64.wrap ((nbits num : Int) - nbits den) = (nbits num : Int) - nbits den from IntWalk.i64_in _ (by omega))
  have S2 := Lib.hid (show IntKind.i64.wrap ((nbits num : Int) - nbits den - 52) = (nbits num : Int) - nbits den - 52 from IntWalk.i64_in _ (by omega))
  have S3 := Lib.hid (show IntKind.i64.wrap ((nbits num : Int) - nbits den - 52 - 1) = (nbits num : Int) - nbits den - 52 - 1 from IntWalk.i64_in _ (by omega))
  have hxb : ∀ k : Nat, Bt (rhe (num * 2 ^ 1074) (den * 2 ^ k)) 20000 := fun k => (rhe_bt (hn.shl 1074)).mono (by omega)
  have HST := Lib.hid (fun (k : Nat) (hk : 2 ^ (52 + 1) ≤ rhe (num * 2 ^ 1074) (den * 2 ^ k)) => stop_at (K := 8000) (by omega) hden hn hk)
  have HNO := Lib.hid (fun (k : Nat) (h1 : rhe (num * 2 ^ 1074) (den * 2 ^ k) < 2 ^ (52 + 1)) (h2 : k = 0 ∨ 2 ^ (52 + 1) ≤ rhe (num * 2 ^ 1074) (den * 2 ^ (k - 1))) => near_uniq hden hb (near_of (by omega) hden h1 h2))
  have HXB := Lib.hid (fun (k : Nat) (V : World) (A : Option Addr) (n c : Nat) (z : SI V .u64 A n c (digs U (rhe (num * 2 ^ 1074) (den * 2 ^ k)))) => n_bits A n c _ V z (hxb k) (by omega))
  have HUI := Lib.hid (fun (k : Nat) (V : World) (A : Option Addr) (n c : Nat) (z : SI V .u64 A n c (digs U (rhe (num * 2 ^ 1074) (den * 2 ^ k)))) (h1 : rhe (num * 2 ^ 1074) (den * 2 ^ k) < 2 ^ (52 + 1)) => uint_d A n c _ V z (Nat.lt_of_lt_of_le h1 (by unfold U; decide)))
  have HS := Lib.hid hk2
  have HK0 := Lib.hid hk0
  generalize nbits num = bn at *
  generalize nbits den = bd at *
  clear h h' hn hd hn0 hk2 hk0 hb hxb hbn hbd hden
  go_enter Tryz.func72, Tryz.ntmps72
  have z0 := HB.out.drew
  go_wp2
  go_region_held3 (fun w' => w'.cell? ⟨w.heap.size, 0, none⟩ = some (.int .i64 52) ∧ w'.cell? ⟨w.heap.size, 1, none⟩ = some (.int .i64 11) ∧ w'.cell? ⟨w.heap.size, 2, none⟩ = some (.slice A n c) ∧ w'.cell? ⟨w.heap.size, 3, none⟩ = some (.slice A' n' c'))
    (first
      | (with_reducible exact z0.keep)
      | (with_reducible exact z1.keep))
    (first
      | (go_at_call 98; first
        | ((with_reducible refine (HN.out _ z0).mono ?_); rintro e u0 ⟨rfl, rfl⟩)
        | ((with_reducible refine (HD.out _ z0).mono ?_); rintro e u0 ⟨rfl, rfl⟩)
        | ((with_reducible refine (HN.out _ z1).mono ?_); rintro e u0 ⟨rfl, rfl⟩)
        | ((with_reducible refine (HD.out _ z1).mono ?_); rintro e u0 ⟨rfl, rfl⟩))
      | (go_at_call 110; (with_reducible refine (least_w _).mono ?_); rintro e u1 ⟨rfl, c1⟩; have z1 := z0.below c1))
  all_goals
    rw [S1.out, S2.out, S3.out, HK0.out]
    have kz := z1.keep
    clear S1 S2 S3 HK0 HN HD HB z0
    go_wp2_with (go_at_call 111; (with_reducible refine (HWh.out _ z1 k0 _ rfl (by omega)).mono ?_); rintro e w2 ⟨A1, n1, c1, rfl, r1, b2⟩; have z2 := z1.below b2)
    go_loopw [3, 4] (fun z v wr => ∃ (k : Nat) (A1 : Option Addr) (n1 c1 : Nat), BI_w w A n c num A' n' c' den z v wr k A1 n1 c1) (fun z _ _ => (8001 - intOf z).toNat)
    case atStart => exact ⟨k0, A1, n1, c1, rfl, rfl, r1, HS.out, hk1, z2⟩
    case round =>
      clear kz z1 z2 r1 b2 HS hk1
      obtain ⟨k, A2, n2, c2, rfl, rfl, r2, hs, hk, z3⟩ := hrel
      have k3 := z3.keep
      have d3 := z3.drew
      have m7 := HXB.out k _ A2 n2 c2 (r2.below (Below.refl _ _).drew)
      by_cases hm : 2 ^ (52 + 1) ≤ rhe (num * 2 ^ 1074) (den * 2 ^ k)
      · have hlt := HST.out k hm
        have e7 := decide_eq_true (show (52 : Int) + 1 < (nbits (rhe (num * 2 ^ 1074) (den * 2 ^ k)) : Int) from bits_big.2 hm)
        rw [show (52 : Int) + 1 = (53 : Int) by decide, show (53 : Int) = IntKind.i64.wrap 53 by decide] at e7
        have HM := Lib.hid hm
        clear HNO HUI hm
        generalize hnb : nbits (rhe (num * 2 ^ 1074) (den * 2 ^ k)) = nb at *
        clear hnb
        have M7 := Lib.hid m7
        clear m7
        go_wp2
        clear k3
        go_region_held3 (fun w' => w'.cell? ⟨w.heap.size, 0, none⟩ = some (.int .i64 52) ∧ w'.cell? ⟨w.heap.size, 1, none⟩ = some (.int .i64 11) ∧ w'.cell? ⟨w.heap.size, 2, none⟩ = some (.slice A n c) ∧ w'.cell? ⟨w.heap.size, 3, none⟩ = some (.slice A' n' c'))
          (first | (with_reducible exact d3.keep))
          (first | (go_at_call 98; (with_reducible refine M7.out.mono ?_); rintro e u0 ⟨rfl, rfl⟩))
        all_goals
          have k4 := d3.keep
          go_wp2_with (go_at_call 111; (with_reducible refine (HWh.out _ d3 (k + 1) _ ?_ ?_).mono ?_); (omega); (omega); rintro e w3 ⟨A3, n3, c3, rfl, r3, b3⟩; have z4 := d3.below b3)
          go_roundw
          case rel => exact ⟨k + 1, A3, n3, c3, congrArg (Value.int .i64) (by omega), rfl, r3, .inr HM.out, by omega, z4⟩
          case measure => simp [intOf]; omega
      · have hm' := Nat.lt_of_not_le hm
        have e7 := decide_eq_false (show ¬ (52 : Int) + 1 < (nbits (rhe (num * 2 ^ 1074) (den * 2 ^ k)) : Int) from fun q => hm (bits_big.1 q))
        rw [show (52 : Int) + 1 = (53 : Int) by decide, show (53 : Int) = IntKind.i64.wrap 53 by decide] at e7
        have hB := HNO.out k hm' hs
        have HU0 := Lib.hid (fun (V : World) (z : SI V .u64 A2 n2 c2 (digs U (rhe (num * 2 ^ 1074) (den * 2 ^ k)))) => HUI.out k V A2 n2 c2 z hm')
        clear HNO HUI HST HWh HXB hm hs
        generalize hnb : nbits (rhe (num * 2 ^ 1074) (den * 2 ^ k)) = nb at *
        generalize rhe (num * 2 ^ 1074) (den * 2 ^ k) = m at *
        clear hnb
        have M7 := Lib.hid m7
        have HBB := Lib.hid hB
        have HMM := Lib.hid hm'
        clear m7 hB hm'
        go_wp2
        clear k3
        go_region_held3 (fun w' => w'.cell? ⟨w.heap.size, 0, none⟩ = some (.int .i64 52) ∧ w'.cell? ⟨w.heap.size, 1, none⟩ = some (.int .i64 11) ∧ w'.cell? ⟨w.heap.size, 2, none⟩ = some (.slice A n c) ∧ w'.cell? ⟨w.heap.size, 3, none⟩ = some (.slice A' n' c'))
          (first | (with_reducible exact d3.keep))
          (first | (go_at_call 98; (with_reducible refine M7.out.mono ?_); rintro e u0 ⟨rfl, rfl⟩))
        all_goals
          have k4 := d3.keep
          have r3 := r2.below (Below.refl wr.heap.size wr).drew
          go_wp2_with (go_at_call 99; (with_reducible refine (HU0.out _ r3).mono ?_); rintro e u1 ⟨rfl, rfl⟩)
          have d4 := d3.drew
          have k5 := d4.keep
          clear k4
          go_region_held3 (fun w' => w'.cell? ⟨w.heap.size, 0, none⟩ = some (.int .i64 52) ∧ w'.cell? ⟨w.heap.size, 1, none⟩ = some (.int .i64 11) ∧ w'.cell? ⟨w.heap.size, 2, none⟩ = some (.slice A n c) ∧ w'.cell? ⟨w.heap.size, 3, none⟩ = some (.slice A' n' c'))
            (first | (with_reducible exact d4.keep) | (with_reducible exact y4.keep))
            (first | (go_at_call 110; (with_reducible refine (least_w _).mono ?_); rintro e u1 ⟨rfl, c1⟩; have y4 := d4.below c1))
          all_goals
            have k6 := y4.keep
            clear k5
            have W1 := Lib.hid (show IntKind.i64.wrap (k : Int) = (k : Int) from IntWalk.i64_in _ (by omega))
            rw [W1.out, show IntKind.i64.wrap 2048 = 2048 by decide]
            by_cases hX : k < 2048
            · have e9 := decide_eq_true (show (k : Int) < (2048 : Int) by omega)
              go_wp2
              have d5 := y4.drew
              clear k6
              go_region_held3 (fun w' => w'.cell? ⟨w.heap.size, 0, none⟩ = some (.int .i64 52) ∧ w'.cell? ⟨w.heap.size, 1, none⟩ = some (.int .i64 11) ∧ w'.cell? ⟨w.heap.size, 2, none⟩ = some (.slice A n c) ∧ w'.cell? ⟨w.heap.size, 3, none⟩ = some (.slice A' n' c'))
                (first | (with_reducible exact d5.keep) | (with_reducible exact y5.keep) | (with_reducible exact y6.keep))
                (first
                  | (go_at_call 110; (with_reducible refine (least_w _).mono ?_); rintro e v1 ⟨rfl, c2⟩; first | (have y6 := y5.below c2) | (have y5 := d5.below c2))
                  | (go_at_call 67; (with_reducible refine (top_w _).mono ?_); rintro e v2 ⟨rfl, c2⟩; first | (have y6 := y5.below c2) | (have y5 := d5.below c2)))
              all_goals
                go_wp2
                go_ret
                refine ⟨?_, y6.bl⟩
                have hB := HBB.out
                have hm := HMM.out
                simp only [Nat.reducePow, Nat.reduceAdd] at hB hm
                refine congrArg (fun z => Ending.returned (Value.int .u64 z)) ?_
                rw [W1.out, IntKind.wrap_u64, IntKind.wrap_u64, IntKind.wrap_u64]
                omega
            · have e9 := decide_eq_false (show ¬ (k : Int) < (2048 : Int) by omega)
              go_wp2_with (go_at_call 67; (with_reducible refine (top_w _).mono ?_); rintro e v1 ⟨rfl, c2⟩)
              go_ret
              have hB := HBB.out
              simp only [Nat.reducePow, Nat.reduceAdd] at hB
              refine ⟨congrArg (fun z => Ending.returned (Value.int .u64 z)) ?_, on y4.bl c2⟩
              omega
/-- where the search stands: exponent k - 149 -/
def BI_n (w : World) (A : Option Addr) (n c num : Nat) (A' : Option Addr) (n' c' den : Nat) (z v : Value) (wr : World) (k : Nat) (A1 : Option Addr) (n1 c1 : Nat) : Prop :=
  z = .int .i64 ((k : Int) - 149) ∧ v = .slice A1 n1 c1 ∧ SI wr .u64 A1 n1 c1 (digs U (rhe (num * 2 ^ 149) (den * 2 ^ k))) ∧ (k = 0 ∨ 2 ^ (23 + 1) ≤ rhe (num * 2 ^ 149) (den * 2 ^ (k - 1))) ∧ k ≤ 8000 + 149 ∧ QB w wr 23 8 A n c num A' n' c' den
set_option exponentiation.threshold 2000 in
set_option maxHeartbeats 8000000 in
set_option maxRecDepth 100000 in
theorem bits_calls_n (A A' : Option Addr) (n c n' c' num den b : Nat) (w : World) (h : SI w .u64 A n c (digs U num)) (h' : SI w .u64 A' n' c' (digs U den)) (hn : Bt num 8000) (hd : Bt den 11000) (hn0 : 0 < num) (hden : 0 < den)
    (hb : Near 23 (num * 2 ^ 149) den b) :
    Calls Tryz.prog 72 #[.agg #[.int .i64 23, .int .i64 8, .slice A n c, .slice A' n' c']] w fun e w' => e = .returned (.int .u64 ((min b 2139095040 : Nat) : Int)) ∧ Below w.heap.size w w' := by
  have HB := Lib.hid (QB.start 23 8 h h')
  have HN := Lib.hid (fun (V : World) (z : QB w V 23 8 A n c num A' n' c' den) => n_bits A n c num V z.a hn (by omega))
  have HD := Lib.hid (fun (V : World) (z : QB w V 23 8 A n c num A' n' c' den) => n_bits A' n' c' den V z.b hd (by omega))
  have HWh := Lib.hid (fun (V : World) (z : QB w V 23 8 A n c num A' n' c' den) (k : Nat) (x : Int) (hx : x = (k : Int) - 149) (hk : k ≤ 9000 + 149) => (show Calls Tryz.prog 111 #[.agg #[.int .i64 23, .int .i64 8, .slice A n c, .slice A' n' c'], .int .i64 x] V (Gives V .u64 (digs U (rhe (num * 2 ^ 149) (den * 2 ^ k)))) from by
    subst hx
    rw [rhe_at num den 149 k ((k : Int) - 149) (by omega)]
    exact whole_calls 23 8 A A' n c n' c' num den 11000 ((k : Int) - 149) V z.a z.b (hn.mono (by omega)) hd (by omega) hden (by omega) (by omega)))
  have hbn := (bits_le num 8000).2 hn
  have hbd := (bits_le den 11000).2 hd
  obtain ⟨k0, hk0, hk1, hk2⟩ : ∃ k0 : Nat, max ((nbits num : Int) - nbits den - 23 - 1) (-149) = (k0 : Int) - 149 ∧ k0 ≤ 8000 + 149 ∧ (k0 = 0 ∨ 2 ^ (23 + 1) ≤ rhe (num * 2 ^ 149) (den * 2 ^ (k0 - 1))) := by
    obtain ⟨k0, hk0⟩ : ∃ k0 : Nat, (k0 : Int) = max ((nbits num : Int) - nbits den - 23 - 1) (-149) + 149 := ⟨(max ((nbits num : Int) - nbits den - 23 - 1) (-149) + 149).toNat, by omega⟩
    refine ⟨k0, by omega, by omega, ?_⟩
    by_cases hz : k0 = 0
    · exact .inl hz
    · right
      have h1 : 2 ^ nbits num ≤ 2 * num := by
        have := pow_bits_le (Nat.ne_of_gt hn0)
        have hp := bits_pos (Nat.ne_of_gt hn0)
        have e : 2 ^ nbits num = 2 ^ (nbits num - 1) * 2 := by rw [← Nat.pow_succ]; congr 1; omega
        omega
      exact start_le (bn := nbits num) (bd := nbits den) (c := 1) hden h1 (lt_pow_bits den) (Nat.le_refl _) (by omega) (by omega)
  have HS := Lib.hid hk2
  have S1 := Lib.hid (show IntKind.i64.wrap ((nbits num : Int) - nbits den) = (nbits num : Int) - nbits den from IntWalk.i64_in _ (by omega))
  have S2 := Lib.hid (show IntKind.i64.wrap ((nbits num : Int) - nbits den - 23) = (nbits num : Int) - nbits den - 23 from IntWalk.i64_in _ (by omega))
  have S3 := Lib.hid (show IntKind.i64.wrap ((nbits num : Int) - nbits den - 23 - 1) = (nbits num : Int) - nbits den - 23 - 1 from IntWalk.i64_in _ (by omega))
  have hxb : ∀ k : Nat, Bt (rhe (num * 2 ^ 149) (den * 2 ^ k)) 20000 := fun k => (rhe_bt (hn.shl 149)).mono (by omega)
  have HST := Lib.hid (fun (k : Nat) (hk : 2 ^ (23 + 1) ≤ rhe (num * 2 ^ 149) (den * 2 ^ k)) => stop_at (K := 8000) (by omega) hden hn hk)
  have HNO := Lib.hid (fun (k : Nat) (h1 : rhe (num * 2 ^ 149) (den * 2 ^ k) < 2 ^ (23 + 1)) (h2 : k = 0 ∨ 2 ^ (23 + 1) ≤ rhe (num * 2 ^ 149) (den * 2 ^ (k - 1))) => near_uniq hden hb (near_of (by omega) hden h1 h2))
  have HXB := Lib.hid (fun (k : Nat) (V : World) (A : Option Addr) (n c : Nat) (z : SI V .u64 A n c (digs U (rhe (num * 2 ^ 149) (den * 2 ^ k)))) => n_bits A n c _ V z (hxb k) (by omega))
  have HUI := Lib.hid (fun (k : Nat) (V : World) (A : Option Addr) (n c : Nat) (z : SI V .u64 A n c (digs U (rhe (num * 2 ^ 149) (den * 2 ^ k)))) (h1 : rhe (num * 2 ^ 149) (den * 2 ^ k) < 2 ^ (23 + 1)) => uint_d A n c _ V z (Nat.lt_of_lt_of_le h1 (by unfold U; decide)))
  have HS := Lib.hid hk2
  have HK0 := Lib.hid hk0
  generalize nbits num = bn at *
  generalize nbits den = bd at *
  clear h h' hn hd hn0 hk2 hk0 hb hxb hbn hbd hden
  go_enter Tryz.func72, Tryz.ntmps72
  have z0 := HB.out.drew
  go_wp2
  go_region_held3 (fun w' => w'.cell? ⟨w.heap.size, 0, none⟩ = some (.int .i64 23) ∧ w'.cell? ⟨w.heap.size, 1, none⟩ = some (.int .i64 8) ∧ w'.cell? ⟨w.heap.size, 2, none⟩ = some (.slice A n c) ∧ w'.cell? ⟨w.heap.size, 3, none⟩ = some (.slice A' n' c'))
    (first
      | (with_reducible exact z0.keep)
      | (with_reducible exact z1.keep))
    (first
      | (go_at_call 98; first
        | ((with_reducible refine (HN.out _ z0).mono ?_); rintro e u0 ⟨rfl, rfl⟩)
        | ((with_reducible refine (HD.out _ z0).mono ?_); rintro e u0 ⟨rfl, rfl⟩)
        | ((with_reducible refine (HN.out _ z1).mono ?_); rintro e u0 ⟨rfl, rfl⟩)
        | ((with_reducible refine (HD.out _ z1).mono ?_); rintro e u0 ⟨rfl, rfl⟩))
      | (go_at_call 110; (with_reducible refine (least_n _).mono ?_); rintro e u1 ⟨rfl, c1⟩; have z1 := z0.below c1))
  all_goals
    rw [S1.out, S2.out, S3.out, HK0.out]
    have kz := z1.keep
    clear S1 S2 S3 HK0 HN HD HB z0
    go_wp2_with (go_at_call 111; (with_reducible refine (HWh.out _ z1 k0 _ rfl (by omega)).mono ?_); rintro e w2 ⟨A1, n1, c1, rfl, r1, b2⟩; have z2 := z1.below b2)
    go_loopw [3, 4] (fun z v wr => ∃ (k : Nat) (A1 : Option Addr) (n1 c1 : Nat), BI_n w A n c num A' n' c' den z v wr k A1 n1 c1) (fun z _ _ => (8001 - intOf z).toNat)
    case atStart => exact ⟨k0, A1, n1, c1, rfl, rfl, r1, HS.out, hk1, z2⟩
    case round =>
      clear kz z1 z2 r1 b2 HS hk1
      obtain ⟨k, A2, n2, c2, rfl, rfl, r2, hs, hk, z3⟩ := hrel
      have k3 := z3.keep
      have d3 := z3.drew
      have m7 := HXB.out k _ A2 n2 c2 (r2.below (Below.refl _ _).drew)
      by_cases hm : 2 ^ (23 + 1) ≤ rhe (num * 2 ^ 149) (den * 2 ^ k)
      · have hlt := HST.out k hm
        have e7 := decide_eq_true (show (23 : Int) + 1 < (nbits (rhe (num * 2 ^ 149) (den * 2 ^ k)) : Int) from bits_big.2 hm)
        rw [show (23 : Int) + 1 = (24 : Int) by decide, show (24 : Int) = IntKind.i64.wrap 24 by decide] at e7
        have HM := Lib.hid hm
        clear HNO HUI hm
        generalize hnb : nbits (rhe (num * 2 ^ 149) (den * 2 ^ k)) = nb at *
        clear hnb
        have M7 := Lib.hid m7
        clear m7
        go_wp2
        clear k3
        go_region_held3 (fun w' => w'.cell? ⟨w.heap.size, 0, none⟩ = some (.int .i64 23) ∧ w'.cell? ⟨w.heap.size, 1, none⟩ = some (.int .i64 8) ∧ w'.cell? ⟨w.heap.size, 2, none⟩ = some (.slice A n c) ∧ w'.cell? ⟨w.heap.size, 3, none⟩ = some (.slice A' n' c'))
          (first | (with_reducible exact d3.keep))
          (first | (go_at_call 98; (with_reducible refine M7.out.mono ?_); rintro e u0 ⟨rfl, rfl⟩))
        all_goals
          have k4 := d3.keep
          go_wp2_with (go_at_call 111; (with_reducible refine (HWh.out _ d3 (k + 1) _ ?_ ?_).mono ?_); (omega); (omega); rintro e w3 ⟨A3, n3, c3, rfl, r3, b3⟩; have z4 := d3.below b3)
          go_roundw
          case rel => exact ⟨k + 1, A3, n3, c3, congrArg (Value.int .i64) (by omega), rfl, r3, .inr HM.out, by omega, z4⟩
          case measure => simp [intOf]; omega
      · have hm' := Nat.lt_of_not_le hm
        have e7 := decide_eq_false (show ¬ (23 : Int) + 1 < (nbits (rhe (num * 2 ^ 149) (den * 2 ^ k)) : Int) from fun q => hm (bits_big.1 q))
        rw [show (23 : Int) + 1 = (24 : Int) by decide, show (24 : Int) = IntKind.i64.wrap 24 by decide] at e7
        have hB := HNO.out k hm' hs
        have HU0 := Lib.hid (fun (V : World) (z : SI V .u64 A2 n2 c2 (digs U (rhe (num * 2 ^ 149) (den * 2 ^ k)))) => HUI.out k V A2 n2 c2 z hm')
        clear HNO HUI HST HWh HXB hm hs
        generalize hnb : nbits (rhe (num * 2 ^ 149) (den * 2 ^ k)) = nb at *
        generalize rhe (num * 2 ^ 149) (den * 2 ^ k) = m at *
        clear hnb
        have M7 := Lib.hid m7
        have HBB := Lib.hid hB
        have HMM := Lib.hid hm'
        clear m7 hB hm'
        go_wp2
        clear k3
        go_region_held3 (fun w' => w'.cell? ⟨w.heap.size, 0, none⟩ = some (.int .i64 23) ∧ w'.cell? ⟨w.heap.size, 1, none⟩ = some (.int .i64 8) ∧ w'.cell? ⟨w.heap.size, 2, none⟩ = some (.slice A n c) ∧ w'.cell? ⟨w.heap.size, 3, none⟩ = some (.slice A' n' c'))
          (first | (with_reducible exact d3.keep))
          (first | (go_at_call 98; (with_reducible refine M7.out.mono ?_); rintro e u0 ⟨rfl, rfl⟩))
        all_goals
          have k4 := d3.keep
          have r3 := r2.below (Below.refl wr.heap.size wr).drew
          go_wp2_with (go_at_call 99; (with_reducible refine (HU0.out _ r3).mono ?_); rintro e u1 ⟨rfl, rfl⟩)
          have d4 := d3.drew
          have k5 := d4.keep
          clear k4
          go_region_held3 (fun w' => w'.cell? ⟨w.heap.size, 0, none⟩ = some (.int .i64 23) ∧ w'.cell? ⟨w.heap.size, 1, none⟩ = some (.int .i64 8) ∧ w'.cell? ⟨w.heap.size, 2, none⟩ = some (.slice A n c) ∧ w'.cell? ⟨w.heap.size, 3, none⟩ = some (.slice A' n' c'))
            (first | (with_reducible exact d4.keep) | (with_reducible exact y4.keep))
            (first | (go_at_call 110; (with_reducible refine (least_n _).mono ?_); rintro e u1 ⟨rfl, c1⟩; have y4 := d4.below c1))
          all_goals
            have k6 := y4.keep
            clear k5
            have W1 := Lib.hid (show IntKind.i64.wrap (k : Int) = (k : Int) from IntWalk.i64_in _ (by omega))
            rw [W1.out, show IntKind.i64.wrap 256 = 256 by decide]
            by_cases hX : k < 256
            · have e9 := decide_eq_true (show (k : Int) < (256 : Int) by omega)
              go_wp2
              have d5 := y4.drew
              clear k6
              go_region_held3 (fun w' => w'.cell? ⟨w.heap.size, 0, none⟩ = some (.int .i64 23) ∧ w'.cell? ⟨w.heap.size, 1, none⟩ = some (.int .i64 8) ∧ w'.cell? ⟨w.heap.size, 2, none⟩ = some (.slice A n c) ∧ w'.cell? ⟨w.heap.size, 3, none⟩ = some (.slice A' n' c'))
                (first | (with_reducible exact d5.keep) | (with_reducible exact y5.keep) | (with_reducible exact y6.keep))
                (first
                  | (go_at_call 110; (with_reducible refine (least_n _).mono ?_); rintro e v1 ⟨rfl, c2⟩; first | (have y6 := y5.below c2) | (have y5 := d5.below c2))
                  | (go_at_call 67; (with_reducible refine (top_n _).mono ?_); rintro e v2 ⟨rfl, c2⟩; first | (have y6 := y5.below c2) | (have y5 := d5.below c2)))
              all_goals
                go_wp2
                go_ret
                refine ⟨?_, y6.bl⟩
                have hB := HBB.out
                have hm := HMM.out
                simp only [Nat.reducePow, Nat.reduceAdd] at hB hm
                refine congrArg (fun z => Ending.returned (Value.int .u64 z)) ?_
                rw [W1.out, IntKind.wrap_u64, IntKind.wrap_u64, IntKind.wrap_u64]
                omega
            · have e9 := decide_eq_false (show ¬ (k : Int) < (256 : Int) by omega)
              go_wp2_with (go_at_call 67; (with_reducible refine (top_n _).mono ?_); rintro e v1 ⟨rfl, c2⟩)
              go_ret
              have hB := HBB.out
              simp only [Nat.reducePow, Nat.reduceAdd] at hB
              refine ⟨congrArg (fun z => Ending.returned (Value.int .u64 z)) ?_, on y4.bl c2⟩
              omega
end Go.Proofs.YtfddokfnplehkaaGreatDoor.Nr

/- Layer 4: width.to. -/
set_option linter.unusedSimpArgs false
set_option linter.unusedVariables false
namespace Go.Proofs.YtfddokfnplehkaaGreatDoor.Nr
open Go.RowKit Go.Proofs.YtfddokfnplehkaaGreatDoor.Dig Go.Proofs.YtfddokfnplehkaaGreatDoor.W Go.Proofs.YtfddokfnplehkaaGreatDoor.Nat Go.Proofs.YtfddokfnplehkaaGreatDoor.Wh Go.Proofs.YtfddokfnplehkaaGreatDoor.Td Go.Proofs.YtfddokfnplehkaaGreatDoor.Bu Go.Proofs.YtfddokfnplehkaaGreatDoor.Tx Go.Proofs.YtfddokfnplehkaaGreatDoor.Sp
open Go.Proofs.YtfddokfnplehkaaGreatDoor.Rd (stand Formed fits mayB)
open Go.Proofs.YtfddokfnplehkaaGreatDoor.Dc (on and_one cmp_10 bk_two four frz nmay_calls dec str eqB parse_formed)

open Classical in
/-- the number of the nearest float -/
noncomputable def nb (M L D : Nat) (x : Int) : Nat := if h : ∃ b, NearD M L D x b then h.choose else 0
open Classical in
theorem nb_spec {M : Nat} (hM : 0 < M) (L D : Nat) (x : Int) : NearD M L D x (nb M L D x) := by
  have h := nearD_exists hM L D x
  unfold nb
  rw [dif_pos h]
  exact h.choose_spec
theorem nb_eq {M L D b : Nat} {x : Int} (hM : 0 < M) (h : NearD M L D x b) : nb M L D x = b := nearD_uniq (nb_spec hM L D x) h
def tE (c : Int) (g : Bool) (l : List UInt8) (x : Int) : Int := if mayB c g l x then 0 else 40
theorem ten_bt {k j : Nat} (h : k ≤ 3 * j) : Bt (10 ^ k) (10 * j + 1) := by
  have h1 : 10 ^ k ≤ 10 ^ (3 * j) := Nat.pow_le_pow_right (by omega) h
  have h2 : 10 ^ (3 * j) ≤ 2 ^ (10 * j) := by
    rw [Nat.pow_mul, Nat.pow_mul]
    exact Nat.pow_le_pow_left (by decide) j
  have h3 := p2 (10 * j)
  unfold Bt
  rw [Nat.pow_succ]
  omega
theorem num_bt {l : List UInt8} {k j : Nat} (hF : Formed l) (h : l.length + k ≤ 3 * j) : Bt (nv 0 l * 10 ^ k) (10 * j + 1) := by
  refine (ten_bt h).le ?_
  rw [Nat.pow_add]
  exact Nat.mul_le_mul_right _ (Nat.le_of_lt (nv_lt hF.dig))
theorem emp_iff (l : List UInt8) : (⟨l.toArray⟩ : ByteArray).toList.isEmpty = decide (l = []) ∧ ((⟨l.toArray⟩ : ByteArray).toList == []) = decide (l = []) := by
  have e : (⟨l.toArray⟩ : ByteArray).toList = l := by rw [ByteArray.toList_mk]
  rw [e]
  cases l with
  | nil => exact ⟨rfl, rfl⟩
  | cons a l => exact ⟨rfl, rfl⟩
theorem ow_new {w : World} {base : Nat} {t : TypeId} {k : IntKind} {A : Option Addr} {n c : Nat} {l : List Nat} (h : Ow w base t k (.slice A n c) l) : ∀ b o s, A = some ⟨b, o, s⟩ → base ≤ b := by
  intro b o s e
  subst e
  rcases h.2 with ⟨h0, _⟩ | ⟨g', cap, cur, hv, hb, _⟩
  · cases h0
  · injection hv with hv
    injection hv with hv
    injection hv with hv
    omega
/-- the boxes of a width and of a Dec -/
structure WD (w V : World) (M X c : Int) (g : Bool) (S : ByteArray) (x : Int) : Prop where
  a : Bk V w.heap.size 63 #[.int .i64 M, .int .i64 X]
  b : Bk V (w.heap.size + 1) 23 #[.int .i64 c, .bool g, .string S, .int .i64 x]
  bl : Below w.heap.size w V
section
variable {w V V' : World} {M X c : Int} {g : Bool} {S : ByteArray} {x : Int}
theorem WD.start (w : World) (M X c : Int) (g : Bool) (S : ByteArray) (x : Int) : WD w ((w.alloc (.cells #[.int .i64 M, .int .i64 X] 63)).alloc (.cells #[.int .i64 c, .bool g, .string S, .int .i64 x] 23)) M X c g S x := by
  obtain ⟨h1, h2, h3⟩ := bk_two w #[.int .i64 M, .int .i64 X] #[.int .i64 c, .bool g, .string S, .int .i64 x] 63 23
  exact ⟨h1, h2, h3⟩
theorem WD.below (h : WD w V M X c g S x) (b : Below V.heap.size V V') : WD w V' M X c g S x := ⟨h.a.below b, h.b.below b, on h.bl b⟩
theorem WD.drew (h : WD w V M X c g S x) : WD w V.drew M X c g S x := h.below (Below.refl _ _).drew
theorem WD.far2 (h : WD w V M X c g S x) {q : Nat} (hq : w.heap.size + 1 < q) (u v : Value) : WD w ((V.setCell ⟨q, 2, none⟩ u).setCell ⟨q, 3, none⟩ v) M X c g S x :=
  ⟨(h.a.far (a := (⟨q, 2, none⟩ : Addr)) u (by show w.heap.size ≠ q; omega)).far (a := (⟨q, 3, none⟩ : Addr)) v (by show w.heap.size ≠ q; omega),
    (h.b.far (a := (⟨q, 2, none⟩ : Addr)) u (by show w.heap.size + 1 ≠ q; omega)).far (a := (⟨q, 3, none⟩ : Addr)) v (by show w.heap.size + 1 ≠ q; omega),
    (h.bl.setCell (show w.heap.size ≤ q by omega) u).setCell (show w.heap.size ≤ q by omega) v⟩
/-- the quotient in its box, beside them -/
structure WQ (w V : World) (M X c : Int) (g : Bool) (S : ByteArray) (x : Int) (q : Nat) (A : Option Addr) (n c1 N : Nat) (A' : Option Addr) (n' c' D : Nat) : Prop where
  z : WD w V M X c g S x
  k : Bk V q 95 #[.int .i64 M, .int .i64 X, .slice A n c1, .slice A' n' c']
  a : SI V .u64 A n c1 (digs U N)
  b : SI V .u64 A' n' c' (digs U D)
theorem WQ.below {q : Nat} {A : Option Addr} {n c1 N : Nat} {A' : Option Addr} {n' c' D : Nat} (h : WQ w V M X c g S x q A n c1 N A' n' c' D) (b : Below V.heap.size V V') : WQ w V' M X c g S x q A n c1 N A' n' c' D := ⟨h.z.below b, h.k.below b, h.a.below b, h.b.below b⟩
theorem WQ.drew {q : Nat} {A : Option Addr} {n c1 N : Nat} {A' : Option Addr} {n' c' D : Nat} (h : WQ w V M X c g S x q A n c1 N A' n' c' D) : WQ w V.drew M X c g S x q A n c1 N A' n' c' D := h.below (Below.refl _ _).drew
theorem WQ.keep {q : Nat} {A : Option Addr} {n c1 N : Nat} {A' : Option Addr} {n' c' D : Nat} (h : WQ w V M X c g S x q A n c1 N A' n' c' D) : V.cell? ⟨w.heap.size, 0, none⟩ = some (.int .i64 M) ∧ V.cell? ⟨w.heap.size, 1, none⟩ = some (.int .i64 X) ∧ V.cell? ⟨w.heap.size + 1, 1, none⟩ = some (.bool g) ∧
    V.cell? ⟨q, 0, none⟩ = some (.int .i64 M) ∧ V.cell? ⟨q, 1, none⟩ = some (.int .i64 X) ∧ V.cell? ⟨q, 2, none⟩ = some (.slice A n c1) ∧ V.cell? ⟨q, 3, none⟩ = some (.slice A' n' c') :=
  ⟨h.z.a.at_ 0 rfl, h.z.a.at_ 1 rfl, h.z.b.at_ 1 rfl, h.k.at_ 0 rfl, h.k.at_ 1 rfl, h.k.at_ 2 rfl, h.k.at_ 3 rfl⟩
theorem WQ.put {q : Nat} {A0 A0' : Value} {A : Option Addr} {n c1 N : Nat} {A' : Option Addr} {n' c' D : Nat} (z : WD w V M X c g S x) (k : Bk V q 95 #[.int .i64 M, .int .i64 X, A0, A0']) (hq : w.heap.size + 1 < q)
    (a : SI V .u64 A n c1 (digs U N)) (b : SI V .u64 A' n' c' (digs U D)) (ha : ∀ b o s, A = some ⟨b, o, s⟩ → b ≠ q) (hb : ∀ b o s, A' = some ⟨b, o, s⟩ → b ≠ q) :
    WQ w ((V.setCell ⟨q, 2, none⟩ (.slice A n c1)).setCell ⟨q, 3, none⟩ (.slice A' n' c')) M X c g S x q A n c1 N A' n' c' D :=
  ⟨z.far2 hq _ _, Bk.cast ((k.set 2 _).set 3 _) rfl, Wh.si_setFar (Wh.si_setFar a ha _) ha _, Wh.si_setFar (Wh.si_setFar b hb _) hb _⟩
theorem WD.keep (h : WD w V M X c g S x) : V.cell? ⟨w.heap.size, 0, none⟩ = some (.int .i64 M) ∧ V.cell? ⟨w.heap.size, 1, none⟩ = some (.int .i64 X) ∧ V.cell? ⟨w.heap.size + 1, 0, none⟩ = some (.int .i64 c) ∧ V.cell? ⟨w.heap.size + 1, 1, none⟩ = some (.bool g) ∧ V.cell? ⟨w.heap.size + 1, 2, none⟩ = some (.string S) ∧ V.cell? ⟨w.heap.size + 1, 3, none⟩ = some (.int .i64 x) :=
  ⟨h.a.at_ 0 rfl, h.a.at_ 1 rfl, h.b.at_ 0 rfl, h.b.at_ 1 rfl, h.b.at_ 2 rfl, h.b.at_ 3 rfl⟩
end
def sg_w (g : Bool) : Nat := if g then 9223372036854775808 else 0
noncomputable def tV_w (c : Int) (g : Bool) (l : List UInt8) (x : Int) : Nat :=
  if mayB c g l x = false then 0 else if c = 2 then 9221120237041090561 else if c = 1 then sg_w g ||| 9218868437227405312 else if l = [] then sg_w g else sg_w g ||| min (nb 52 1074 (nv 0 l) x) 9218868437227405312
theorem sg_int_w (g : Bool) : (if g then (9223372036854775808 : Int) else 0) = ((sg_w g : Nat) : Int) := by cases g <;> rfl
theorem sg_lt_w (g : Bool) : sg_w g < 18446744073709551616 := by cases g <;> decide
theorem sign_n_w (g : Bool) (w : World) : Calls Tryz.prog 68 #[.agg #[.int .i64 52, .int .i64 11], .bool g] w fun e w' => e = .returned (.int .u64 (sg_w g : Nat)) ∧ Below w.heap.size w w' := by
  rw [← sg_int_w]
  exact sign_w g w
set_option maxHeartbeats 8000000 in
set_option maxRecDepth 100000 in
theorem to_err_w (c : Int) (g : Bool) (S : ByteArray) (x : Int) (w : World)
    (HM : ∀ w1, Calls Tryz.prog 66 #[.agg #[.int .i64 c, .bool g, .string S, .int .i64 x]] w1 fun e w' => e = .returned (.bool false) ∧ Below w1.heap.size w1 w') :
    Calls Tryz.prog 41 #[.agg #[.int .i64 52, .int .i64 11], .agg #[.int .i64 c, .bool g, .string S, .int .i64 x]] w fun e w' => e = .returned (.tuple #[.int .u64 0, .int .i64 40]) ∧ Below w.heap.size w w' := by
  have HB := Lib.hid (WD.start w 52 11 c g S x)
  have HM' := Lib.hid HM
  clear HM
  go_enter Tryz.func41, Tryz.ntmps41
  go_wp2_with (go_at_call 66; (with_reducible refine (HM'.out _).mono ?_); rintro e w1 ⟨rfl, b1⟩)
  go_ret2
  exact ⟨rfl, on HB.out.bl b1⟩
set_option maxHeartbeats 8000000 in
set_option maxRecDepth 100000 in
theorem to_nan_w (g : Bool) (S : ByteArray) (x : Int) (w : World)
    (HM : ∀ w1, Calls Tryz.prog 66 #[.agg #[.int .i64 2, .bool g, .string S, .int .i64 x]] w1 fun e w' => e = .returned (.bool true) ∧ Below w1.heap.size w1 w') :
    Calls Tryz.prog 41 #[.agg #[.int .i64 52, .int .i64 11], .agg #[.int .i64 2, .bool g, .string S, .int .i64 x]] w fun e w' => e = .returned (.tuple #[.int .u64 9221120237041090561, .int .i64 0]) ∧ Below w.heap.size w w' := by
  have HB := Lib.hid (WD.start w 52 11 2 g S x)
  have HM' := Lib.hid HM
  clear HM
  go_enter Tryz.func41, Tryz.ntmps41
  go_wp2_with (go_at_call 66; (with_reducible refine (HM'.out _).mono ?_); rintro e w1 ⟨rfl, b1⟩; have z1 := HB.out.below b1; have k1 := z1.keep)
  have d1 := z1.drew
  have e51 : IntKind.i64.wrap (52 - 1) = (52 - 1) := by decide
  rw [show ((52 : Int) - 1) = 51 by decide] at e51
  clear k1
  go_region_held3 (fun w' => w'.cell? ⟨w.heap.size, 0, none⟩ = some (.int .i64 52) ∧ w'.cell? ⟨w.heap.size, 1, none⟩ = some (.int .i64 11) ∧ w'.cell? ⟨w.heap.size + 1, 0, none⟩ = some (.int .i64 2) ∧ w'.cell? ⟨w.heap.size + 1, 1, none⟩ = some (.bool g) ∧ w'.cell? ⟨w.heap.size + 1, 2, none⟩ = some (.string S) ∧ w'.cell? ⟨w.heap.size + 1, 3, none⟩ = some (.int .i64 x))
    (first | (with_reducible exact d1.keep) | (with_reducible exact d2.keep))
    (first | (go_at_call 67; (with_reducible refine (top_w _).mono ?_); rintro e v2 ⟨rfl, bb2⟩; have d2 := d1.below bb2))
  all_goals
    go_wp2
    go_ret2
    exact ⟨rfl, d2.bl⟩
set_option maxHeartbeats 8000000 in
set_option maxRecDepth 100000 in
theorem to_inf_w (g : Bool) (S : ByteArray) (x : Int) (w : World)
    (HM : ∀ w1, Calls Tryz.prog 66 #[.agg #[.int .i64 1, .bool g, .string S, .int .i64 x]] w1 fun e w' => e = .returned (.bool true) ∧ Below w1.heap.size w1 w') :
    Calls Tryz.prog 41 #[.agg #[.int .i64 52, .int .i64 11], .agg #[.int .i64 1, .bool g, .string S, .int .i64 x]] w fun e w' => e = .returned (.tuple #[.int .u64 ((sg_w g ||| 9218868437227405312 : Nat) : Int), .int .i64 0]) ∧ Below w.heap.size w w' := by
  have HB := Lib.hid (WD.start w 52 11 1 g S x)
  have HM' := Lib.hid HM
  have HO := Lib.hid (show Go.bits .or .u64 ((sg_w g : Nat) : Int) (9218868437227405312 : Int) = ((sg_w g ||| 9218868437227405312 : Nat) : Int) from Sh.or_nat (sg_w g) 9218868437227405312 (sg_lt_w g) (by decide))
  have HS := Lib.hid (sign_n_w g)
  clear HM
  generalize sg_w g ||| 9218868437227405312 = r at *
  generalize sg_w g = q at *
  go_enter Tryz.func41, Tryz.ntmps41
  go_wp2_with (go_at_call 66; (with_reducible refine (HM'.out _).mono ?_); rintro e w1 ⟨rfl, b1⟩; have z1 := HB.out.below b1; have k1 := z1.keep)
  have d1 := z1.drew
  clear k1
  go_region_held3 (fun w' => w'.cell? ⟨w.heap.size, 0, none⟩ = some (.int .i64 52) ∧ w'.cell? ⟨w.heap.size, 1, none⟩ = some (.int .i64 11) ∧ w'.cell? ⟨w.heap.size + 1, 0, none⟩ = some (.int .i64 1) ∧ w'.cell? ⟨w.heap.size + 1, 1, none⟩ = some (.bool g) ∧ w'.cell? ⟨w.heap.size + 1, 2, none⟩ = some (.string S) ∧ w'.cell? ⟨w.heap.size + 1, 3, none⟩ = some (.int .i64 x))
    (first | (with_reducible exact d1.keep) | (with_reducible exact d2.keep) | (with_reducible exact d3.keep))
    (first
      | (go_at_call 67; (with_reducible refine (top_w _).mono ?_); rintro e v2 ⟨rfl, bb2⟩; first | (have d3 := d2.below bb2) | (have d2 := d1.below bb2))
      | (go_at_call 68; (with_reducible refine (HS.out _).mono ?_); rintro e v2 ⟨rfl, bb2⟩; first | (have d3 := d2.below bb2) | (have d2 := d1.below bb2)))
  all_goals
    have ho := HO.out
    go_wp2
    go_ret2
    exact ⟨congrArg (fun z => Ending.returned (Value.tuple #[Value.int .u64 z, .int .i64 0])) ho, d3.bl⟩
set_option maxHeartbeats 8000000 in
set_option maxRecDepth 100000 in
theorem to_nil_w (g : Bool) (S : ByteArray) (x : Int) (w : World) (e1 : S.toList.isEmpty = true) (e2 : (S.toList == []) = true)
    (HM : ∀ w1, Calls Tryz.prog 66 #[.agg #[.int .i64 0, .bool g, .string S, .int .i64 x]] w1 fun e w' => e = .returned (.bool true) ∧ Below w1.heap.size w1 w') :
    Calls Tryz.prog 41 #[.agg #[.int .i64 52, .int .i64 11], .agg #[.int .i64 0, .bool g, .string S, .int .i64 x]] w fun e w' => e = .returned (.tuple #[.int .u64 ((sg_w g : Nat) : Int), .int .i64 0]) ∧ Below w.heap.size w w' := by
  have HB := Lib.hid (WD.start w 52 11 0 g S x)
  have HM' := Lib.hid HM
  have HS := Lib.hid (sign_n_w g)
  clear HM
  generalize sg_w g = q at *
  go_enter Tryz.func41, Tryz.ntmps41
  go_wp2_with (first
    | (go_at_call 66; (with_reducible refine (HM'.out _).mono ?_); rintro e w1 ⟨rfl, b1⟩; have z1 := HB.out.below b1; have k1 := z1.keep)
    | (go_at_call 68; (with_reducible refine (HS.out _).mono ?_); rintro e v2 ⟨rfl, bb2⟩; have z2 := z1.below bb2))
  go_ret2
  exact ⟨rfl, z2.bl⟩
set_option maxHeartbeats 8000000 in
set_option maxRecDepth 100000 in
theorem to_pos_w (g : Bool) (l : List UInt8) (k b : Nat) (w : World) (hF : Formed l) (hf : fits l (k : Nat)) (hb : NearD 52 1074 (nv 0 l) (k : Nat) b)
    (HM : ∀ w1, Calls Tryz.prog 66 #[.agg #[.int .i64 0, .bool g, .string ⟨l.toArray⟩, .int .i64 (k : Nat)]] w1 fun e w' => e = .returned (.bool true) ∧ Below w1.heap.size w1 w') :
    Calls Tryz.prog 41 #[.agg #[.int .i64 52, .int .i64 11], .agg #[.int .i64 0, .bool g, .string ⟨l.toArray⟩, .int .i64 (k : Nat)]] w fun e w' => e = .returned (.tuple #[.int .u64 ((sg_w g ||| min b 9218868437227405312 : Nat) : Int), .int .i64 0]) ∧ Below w.heap.size w w' := by
  have hne : l ≠ [] := hF.ne
  have e1 : (⟨l.toArray⟩ : ByteArray).toList.isEmpty = false := by rw [(emp_iff l).1, decide_eq_false hne]
  have e2 : ((⟨l.toArray⟩ : ByteArray).toList == []) = false := by rw [(emp_iff l).2, decide_eq_false hne]
  have hk : k ≤ 2000 := by have := hf.2.2; omega
  have HB := Lib.hid (WD.start w 52 11 0 g ⟨l.toArray⟩ (k : Nat))
  have HM' := Lib.hid HM
  have HS := Lib.hid (sign_n_w g)
  have HPa := Lib.hid (fun w1 => parse_formed hF (by have := hf.1; omega) w1)
  have HPo := Lib.hid (fun (y : Int) (hy : y = (k : Nat)) w1 => (show Calls Tryz.prog 69 #[.int .i64 y] w1 (Wh.Gives1 w1 (digs U (10 ^ k))) from hy ▸ Wh.pow10_calls k w1 (by omega)))
  have bD : Bt (nv 0 l) 8000 := by
    have := num_bt (k := 0) (j := 700) hF (by have := hf.1; omega)
    rw [Nat.pow_zero, Nat.mul_one] at this
    exact this.mono (by omega)
  have bP : Bt (10 ^ k) 8000 := (ten_bt (j := 700) (by omega)).mono (by omega)
  have bN : Bt (nv 0 l * 10 ^ k) 8000 := (num_bt (j := 700) hF (by have := hf.2.2; omega)).mono (by omega)
  have hP0 : 0 < nv 0 l * 10 ^ k := Nat.mul_pos hF.pos (Nat.pow_pos (by omega))
  have HMu := Lib.hid (fun (A A' : Option Addr) (n c n' c' : Nat) (w1 : World) (h : SI w1 .u64 A n c (digs U (nv 0 l))) (h' : SI w1 .u64 A' n' c' (digs U (10 ^ k))) => mul_d A A' n c n' c' (nv 0 l) (10 ^ k) w1 h h' (by rw [← h.len]; have := bD.len; omega) (by rw [← h'.len]; have := bP.len; omega))
  unfold NearD at hb
  rw [show ((k : Nat) : Int).toNat = k by omega, show (-((k : Nat) : Int)).toNat = 0 by omega, Nat.pow_zero] at hb
  have HBt := Lib.hid (fun (A A' : Option Addr) (n c n' c' : Nat) (w1 : World) (h : SI w1 .u64 A n c (digs U (nv 0 l * 10 ^ k))) (h' : SI w1 .u64 A' n' c' (digs U 1)) => bits_calls_w A A' n c n' c' (nv 0 l * 10 ^ k) 1 b w1 h h' bN ((ten_bt (k := 0) (j := 0) (by omega)).mono (by omega)) hP0 (by omega) hb)
  have hmin : min b 9218868437227405312 < 18446744073709551616 := by omega
  have HO := Lib.hid (show Go.bits .or .u64 ((sg_w g : Nat) : Int) ((min b 9218868437227405312 : Nat) : Int) = ((sg_w g ||| min b 9218868437227405312 : Nat) : Int) from Sh.or_nat (sg_w g) (min b 9218868437227405312) (sg_lt_w g) hmin)
  clear HM hb bD bP bN hP0 hmin hF hf hne
  generalize sg_w g ||| min b 9218868437227405312 = r at *
  generalize min b 9218868437227405312 = mb at *
  generalize sg_w g = q at *
  generalize nv 0 l * 10 ^ k = N at *
  generalize nv 0 l = D at *
  generalize 10 ^ k = P at *
  generalize (⟨l.toArray⟩ : ByteArray) = S at *
  go_enter Tryz.func41, Tryz.ntmps41
  go_wp2_with (first
    | (go_at_call 66; (with_reducible refine (HM'.out _).mono ?_); rintro e w1 ⟨rfl, b1⟩; have z1 := HB.out.below b1; have k1 := z1.keep)
    | (go_at_call 55; (with_reducible refine (HPa.out _).mono ?_); rintro e w2 ⟨A1, n1, c1, rfl, r1, b2⟩; have z2 := z1.below b2; have k2 := z2.keep)
    | (go_at_call 69; (with_reducible refine (HPo.out _ ?_ _).mono ?_); (omega); rintro e w3 ⟨A2, n2, c2, rfl, r2, b3⟩; have z3 := z2.below b3; have k3 := z3.keep; have r13 := r1.below b3; have a3 := alloc_below w3 (.cells #[.int .i64 52, .int .i64 11, .slice A1 n1 c1, .slice A2 n2 c2] 95); have z4 := z3.below a3; have k4 := z4.keep; have s4 := Bk.start w3 95 #[.int .i64 52, .int .i64 11, .slice A1 n1 c1, .slice A2 n2 c2]; have p4 := r13.below a3; have p5 := r2.below a3)
    | (go_at_call 70; (with_reducible refine (HMu.out A1 A2 n1 c1 n2 c2 _ p4 p5).mono ?_); rintro e w5 ⟨v5, rfl, o5, b5⟩; obtain ⟨A5, n5, c5, rfl, r5⟩ := o5.reads_n; have s5 := s4.below b5; have z5 := z4.below b5)
    | (go_at_call 71; (with_reducible refine (of_one _).mono ?_); rintro e w6 ⟨v6, rfl, o6, b6⟩; obtain ⟨A6, n6, c6, rfl, r6⟩ := o6.reads_n; have s6 := s5.below b6; have z6 := z5.below b6; have f6 := frz s6; have r56 := r5.below b6; have q6 := four s6))
  have hw3 : w.heap.size + 1 < w3.heap.size := z3.b.lt
  have g4 := a3.size
  have h34 : (w3.alloc (.cells #[.int .i64 52, .int .i64 11, .slice A1 n1 c1, .slice A2 n2 c2] 95)).heap.size = w3.heap.size + 1 := by simp
  have y0 := (WQ.put z6 s6 hw3 r56 r6 (fun b o s e => by have := ow_new o5 b o s e; omega) (fun b o s e => by have := ow_new o6 b o s e; have := b5.size; omega)).drew
  clear k1 k2 k3 k4 s4 s5 s6 z1 z2 z3 z4 z5 z6 r1 r2 r5 r6 r13 p4 p5 o5 o6 r56 f6 q6 b1 b2 b3 b5 b6 a3 g4 h34 HB HM' HPa HPo HMu
  generalize w3.heap.size = gq at *
  go_region_held3 (fun w' => w'.cell? ⟨w.heap.size, 0, none⟩ = some (.int .i64 52) ∧ w'.cell? ⟨w.heap.size, 1, none⟩ = some (.int .i64 11) ∧ w'.cell? ⟨w.heap.size + 1, 1, none⟩ = some (.bool g) ∧ w'.cell? ⟨gq, 0, none⟩ = some (.int .i64 52) ∧ w'.cell? ⟨gq, 1, none⟩ = some (.int .i64 11) ∧ w'.cell? ⟨gq, 2, none⟩ = some (.slice A5 n5 c5) ∧ w'.cell? ⟨gq, 3, none⟩ = some (.slice A6 n6 c6))
    (first | (with_reducible exact y0.keep) | (with_reducible exact y1.keep) | (with_reducible exact y2.keep))
    (first
      | (go_at_call 68; (with_reducible refine (HS.out _).mono ?_); rintro e v2 ⟨rfl, bb2⟩; first | (have y2 := y1.below bb2) | (have y1 := y0.below bb2))
      | (go_at_call 72; first
        | ((with_reducible refine (HBt.out A5 A6 n5 c5 n6 c6 _ y1.a y1.b).mono ?_); rintro e v2 ⟨rfl, bb2⟩; have y2 := y1.below bb2)
        | ((with_reducible refine (HBt.out A5 A6 n5 c5 n6 c6 _ y0.a y0.b).mono ?_); rintro e v2 ⟨rfl, bb2⟩; have y1 := y0.below bb2)))
  all_goals
    have ho := HO.out
    go_wp2
    go_ret2
    exact ⟨congrArg (fun z => Ending.returned (Value.tuple #[Value.int .u64 z, .int .i64 0])) ho, y2.z.bl⟩
set_option maxHeartbeats 8000000 in
set_option maxRecDepth 100000 in
theorem to_neg_w (g : Bool) (l : List UInt8) (k b : Nat) (w : World) (hk0 : 0 < k) (hF : Formed l) (hf : fits l (-(k : Int))) (hb : NearD 52 1074 (nv 0 l) (-(k : Int)) b)
    (HM : ∀ w1, Calls Tryz.prog 66 #[.agg #[.int .i64 0, .bool g, .string ⟨l.toArray⟩, .int .i64 (-(k : Int))]] w1 fun e w' => e = .returned (.bool true) ∧ Below w1.heap.size w1 w') :
    Calls Tryz.prog 41 #[.agg #[.int .i64 52, .int .i64 11], .agg #[.int .i64 0, .bool g, .string ⟨l.toArray⟩, .int .i64 (-(k : Int))]] w fun e w' => e = .returned (.tuple #[.int .u64 ((sg_w g ||| min b 9218868437227405312 : Nat) : Int), .int .i64 0]) ∧ Below w.heap.size w w' := by
  have hne : l ≠ [] := hF.ne
  have e1 : (⟨l.toArray⟩ : ByteArray).toList.isEmpty = false := by rw [(emp_iff l).1, decide_eq_false hne]
  have e2 : ((⟨l.toArray⟩ : ByteArray).toList == []) = false := by rw [(emp_iff l).2, decide_eq_false hne]
  have hk : k ≤ 3000 := by have := hf.2.1; have := hf.1; omega
  have HB := Lib.hid (WD.start w 52 11 0 g ⟨l.toArray⟩ (-(k : Int)))
  have HM' := Lib.hid HM
  have HS := Lib.hid (sign_n_w g)
  have HPa := Lib.hid (fun w1 => parse_formed hF (by have := hf.1; omega) w1)
  have HPo := Lib.hid (fun (y : Int) (hy : y = (k : Nat)) w1 => (show Calls Tryz.prog 69 #[.int .i64 y] w1 (Wh.Gives1 w1 (digs U (10 ^ k))) from hy ▸ Wh.pow10_calls k w1 (by omega)))
  have bD : Bt (nv 0 l) 8000 := by
    have := num_bt (k := 0) (j := 700) hF (by have := hf.1; omega)
    rw [Nat.pow_zero, Nat.mul_one] at this
    exact this.mono (by omega)
  have bP : Bt (10 ^ k) 11000 := (ten_bt (j := 1000) (by omega)).mono (by omega)
  have hD0 := hF.pos
  have hP0 : 0 < 10 ^ k := Nat.pow_pos (by omega)
  unfold NearD at hb
  rw [show (-(k : Int)).toNat = 0 by omega, show (- -(k : Int)).toNat = k by omega, Nat.pow_zero, Nat.mul_one] at hb
  have HBt := Lib.hid (fun (A A' : Option Addr) (n c n' c' : Nat) (w1 : World) (h : SI w1 .u64 A n c (digs U (nv 0 l))) (h' : SI w1 .u64 A' n' c' (digs U (10 ^ k))) => bits_calls_w A A' n c n' c' (nv 0 l) (10 ^ k) b w1 h h' bD bP hD0 hP0 hb)
  have hmin : min b 9218868437227405312 < 18446744073709551616 := by omega
  have HO := Lib.hid (show Go.bits .or .u64 ((sg_w g : Nat) : Int) ((min b 9218868437227405312 : Nat) : Int) = ((sg_w g ||| min b 9218868437227405312 : Nat) : Int) from Sh.or_nat (sg_w g) (min b 9218868437227405312) (sg_lt_w g) hmin)
  clear HM hb bD bP hD0 hP0 hmin hF hf hne
  generalize sg_w g ||| min b 9218868437227405312 = r at *
  generalize min b 9218868437227405312 = mb at *
  generalize sg_w g = q at *
  generalize nv 0 l = D at *
  generalize 10 ^ k = P at *
  generalize (⟨l.toArray⟩ : ByteArray) = S at *
  go_enter Tryz.func41, Tryz.ntmps41
  go_wp2_with (first
    | (go_at_call 66; (with_reducible refine (HM'.out _).mono ?_); rintro e w1 ⟨rfl, b1⟩; have z1 := HB.out.below b1; have k1 := z1.keep)
    | (go_at_call 55; (with_reducible refine (HPa.out _).mono ?_); rintro e w2 ⟨A1, n1, c1, rfl, r1, b2⟩; have z2 := z1.below b2; have k2 := z2.keep)
    | (go_at_call 69; (with_reducible refine (HPo.out _ ?_ _).mono ?_); (omega); rintro e w3 ⟨A2, n2, c2, rfl, r2, b3⟩; have z3 := z2.below b3; have k3 := z3.keep; have r13 := r1.below b3; have a3 := alloc_below w3 (.cells #[.int .i64 52, .int .i64 11, .slice A1 n1 c1, .slice A2 n2 c2] 95); have z4 := z3.below a3; have k4 := z4.keep; have s4 := Bk.start w3 95 #[.int .i64 52, .int .i64 11, .slice A1 n1 c1, .slice A2 n2 c2]; have p4 := r13.below a3; have p5 := r2.below a3))
  have hw3 : w.heap.size + 1 < w3.heap.size := z3.b.lt
  have y0 := (WQ.mk z4 s4 p4 p5).drew
  clear k1 k2 k3 k4 s4 z1 z2 z3 z4 r1 r2 r13 p4 p5 b1 b2 b3 a3 HB HM' HPa HPo
  generalize w3.heap.size = gq at *
  go_region_held3 (fun w' => w'.cell? ⟨w.heap.size, 0, none⟩ = some (.int .i64 52) ∧ w'.cell? ⟨w.heap.size, 1, none⟩ = some (.int .i64 11) ∧ w'.cell? ⟨w.heap.size + 1, 1, none⟩ = some (.bool g) ∧ w'.cell? ⟨gq, 0, none⟩ = some (.int .i64 52) ∧ w'.cell? ⟨gq, 1, none⟩ = some (.int .i64 11) ∧ w'.cell? ⟨gq, 2, none⟩ = some (.slice A1 n1 c1) ∧ w'.cell? ⟨gq, 3, none⟩ = some (.slice A2 n2 c2))
    (first | (with_reducible exact y0.keep) | (with_reducible exact y1.keep) | (with_reducible exact y2.keep))
    (first
      | (go_at_call 68; (with_reducible refine (HS.out _).mono ?_); rintro e v2 ⟨rfl, bb2⟩; first | (have y2 := y1.below bb2) | (have y1 := y0.below bb2))
      | (go_at_call 72; first
        | ((with_reducible refine (HBt.out A1 A2 n1 c1 n2 c2 _ y1.a y1.b).mono ?_); rintro e v2 ⟨rfl, bb2⟩; have y2 := y1.below bb2)
        | ((with_reducible refine (HBt.out A1 A2 n1 c1 n2 c2 _ y0.a y0.b).mono ?_); rintro e v2 ⟨rfl, bb2⟩; have y1 := y0.below bb2)))
  all_goals
    have ho := HO.out
    go_wp2
    go_ret2
    exact ⟨congrArg (fun z => Ending.returned (Value.tuple #[Value.int .u64 z, .int .i64 0])) ho, y2.z.bl⟩
theorem to_calls_w (c : Int) (g : Bool) (l : List UInt8) (x : Int) (w : World) (hl : l.length ≤ 9223372036854775807) :
    Calls Tryz.prog 41 #[.agg #[.int .i64 52, .int .i64 11], .agg (dec c g l x)] w fun e w' => e = .returned (.tuple #[.int .u64 ((tV_w c g l x : Nat) : Int), .int .i64 (tE c g l x)]) ∧ Below w.heap.size w w' := by
  have HM := fun w1 => nmay_calls c g l x w1 hl
  unfold tV_w tE
  cases hm : mayB c g l x
  · rw [hm] at HM
    exact to_err_w c g ⟨l.toArray⟩ x w HM
  · rw [hm] at HM
    rw [if_neg (by decide), if_pos rfl]
    by_cases h2 : c = 2
    · subst h2
      exact to_nan_w g ⟨l.toArray⟩ x w HM
    rw [if_neg h2]
    by_cases h1 : c = 1
    · subst h1
      exact to_inf_w g ⟨l.toArray⟩ x w HM
    rw [if_neg h1]
    have hmm := (Rd.mayB_iff ..).1 hm
    by_cases h0 : l = []
    · rw [if_pos h0]
      obtain rfl : c = 0 := by
        rcases hmm with ⟨_, _, h⟩ | ⟨h, _, _⟩
        · omega
        · exact h
      exact to_nil_w g ⟨l.toArray⟩ x w (by rw [(emp_iff l).1, decide_eq_true h0]) (by rw [(emp_iff l).2, decide_eq_true h0]) HM
    · rw [if_neg h0]
      obtain ⟨rfl, hF, hf⟩ : c = 0 ∧ Formed l ∧ fits l x := by
        rcases hmm with ⟨h, _⟩ | h
        · exact absurd h h0
        · exact h
      have hb := nb_spec (M := 52) (by omega) 1074 (nv 0 l) x
      by_cases hx : 0 ≤ x
      · obtain ⟨k, rfl⟩ : ∃ k : Nat, x = (k : Nat) := ⟨x.toNat, by omega⟩
        exact to_pos_w g l k _ w hF hf hb HM
      · obtain ⟨k, rfl⟩ : ∃ k : Nat, x = -(k : Int) := ⟨(-x).toNat, by omega⟩
        exact to_neg_w g l k _ w (by omega) hF hf hb HM
def sg_n (g : Bool) : Nat := if g then 2147483648 else 0
noncomputable def tV_n (c : Int) (g : Bool) (l : List UInt8) (x : Int) : Nat :=
  if mayB c g l x = false then 0 else if c = 2 then 2143289345 else if c = 1 then sg_n g ||| 2139095040 else if l = [] then sg_n g else sg_n g ||| min (nb 23 149 (nv 0 l) x) 2139095040
theorem sg_int_n (g : Bool) : (if g then (2147483648 : Int) else 0) = ((sg_n g : Nat) : Int) := by cases g <;> rfl
theorem sg_lt_n (g : Bool) : sg_n g < 18446744073709551616 := by cases g <;> decide
theorem sign_n_n (g : Bool) (w : World) : Calls Tryz.prog 68 #[.agg #[.int .i64 23, .int .i64 8], .bool g] w fun e w' => e = .returned (.int .u64 (sg_n g : Nat)) ∧ Below w.heap.size w w' := by
  rw [← sg_int_n]
  exact sign_n g w
set_option maxHeartbeats 8000000 in
set_option maxRecDepth 100000 in
theorem to_err_n (c : Int) (g : Bool) (S : ByteArray) (x : Int) (w : World)
    (HM : ∀ w1, Calls Tryz.prog 66 #[.agg #[.int .i64 c, .bool g, .string S, .int .i64 x]] w1 fun e w' => e = .returned (.bool false) ∧ Below w1.heap.size w1 w') :
    Calls Tryz.prog 41 #[.agg #[.int .i64 23, .int .i64 8], .agg #[.int .i64 c, .bool g, .string S, .int .i64 x]] w fun e w' => e = .returned (.tuple #[.int .u64 0, .int .i64 40]) ∧ Below w.heap.size w w' := by
  have HB := Lib.hid (WD.start w 23 8 c g S x)
  have HM' := Lib.hid HM
  clear HM
  go_enter Tryz.func41, Tryz.ntmps41
  go_wp2_with (go_at_call 66; (with_reducible refine (HM'.out _).mono ?_); rintro e w1 ⟨rfl, b1⟩)
  go_ret2
  exact ⟨rfl, on HB.out.bl b1⟩
set_option maxHeartbeats 8000000 in
set_option maxRecDepth 100000 in
theorem to_nan_n (g : Bool) (S : ByteArray) (x : Int) (w : World)
    (HM : ∀ w1, Calls Tryz.prog 66 #[.agg #[.int .i64 2, .bool g, .string S, .int .i64 x]] w1 fun e w' => e = .returned (.bool true) ∧ Below w1.heap.size w1 w') :
    Calls Tryz.prog 41 #[.agg #[.int .i64 23, .int .i64 8], .agg #[.int .i64 2, .bool g, .string S, .int .i64 x]] w fun e w' => e = .returned (.tuple #[.int .u64 2143289345, .int .i64 0]) ∧ Below w.heap.size w w' := by
  have HB := Lib.hid (WD.start w 23 8 2 g S x)
  have HM' := Lib.hid HM
  clear HM
  go_enter Tryz.func41, Tryz.ntmps41
  go_wp2_with (go_at_call 66; (with_reducible refine (HM'.out _).mono ?_); rintro e w1 ⟨rfl, b1⟩; have z1 := HB.out.below b1; have k1 := z1.keep)
  have d1 := z1.drew
  have e51 : IntKind.i64.wrap (23 - 1) = (23 - 1) := by decide
  rw [show ((23 : Int) - 1) = 22 by decide] at e51
  clear k1
  go_region_held3 (fun w' => w'.cell? ⟨w.heap.size, 0, none⟩ = some (.int .i64 23) ∧ w'.cell? ⟨w.heap.size, 1, none⟩ = some (.int .i64 8) ∧ w'.cell? ⟨w.heap.size + 1, 0, none⟩ = some (.int .i64 2) ∧ w'.cell? ⟨w.heap.size + 1, 1, none⟩ = some (.bool g) ∧ w'.cell? ⟨w.heap.size + 1, 2, none⟩ = some (.string S) ∧ w'.cell? ⟨w.heap.size + 1, 3, none⟩ = some (.int .i64 x))
    (first | (with_reducible exact d1.keep) | (with_reducible exact d2.keep))
    (first | (go_at_call 67; (with_reducible refine (top_n _).mono ?_); rintro e v2 ⟨rfl, bb2⟩; have d2 := d1.below bb2))
  all_goals
    go_wp2
    go_ret2
    exact ⟨rfl, d2.bl⟩
set_option maxHeartbeats 8000000 in
set_option maxRecDepth 100000 in
theorem to_inf_n (g : Bool) (S : ByteArray) (x : Int) (w : World)
    (HM : ∀ w1, Calls Tryz.prog 66 #[.agg #[.int .i64 1, .bool g, .string S, .int .i64 x]] w1 fun e w' => e = .returned (.bool true) ∧ Below w1.heap.size w1 w') :
    Calls Tryz.prog 41 #[.agg #[.int .i64 23, .int .i64 8], .agg #[.int .i64 1, .bool g, .string S, .int .i64 x]] w fun e w' => e = .returned (.tuple #[.int .u64 ((sg_n g ||| 2139095040 : Nat) : Int), .int .i64 0]) ∧ Below w.heap.size w w' := by
  have HB := Lib.hid (WD.start w 23 8 1 g S x)
  have HM' := Lib.hid HM
  have HO := Lib.hid (show Go.bits .or .u64 ((sg_n g : Nat) : Int) (2139095040 : Int) = ((sg_n g ||| 2139095040 : Nat) : Int) from Sh.or_nat (sg_n g) 2139095040 (sg_lt_n g) (by decide))
  have HS := Lib.hid (sign_n_n g)
  clear HM
  generalize sg_n g ||| 2139095040 = r at *
  generalize sg_n g = q at *
  go_enter Tryz.func41, Tryz.ntmps41
  go_wp2_with (go_at_call 66; (with_reducible refine (HM'.out _).mono ?_); rintro e w1 ⟨rfl, b1⟩; have z1 := HB.out.below b1; have k1 := z1.keep)
  have d1 := z1.drew
  clear k1
  go_region_held3 (fun w' => w'.cell? ⟨w.heap.size, 0, none⟩ = some (.int .i64 23) ∧ w'.cell? ⟨w.heap.size, 1, none⟩ = some (.int .i64 8) ∧ w'.cell? ⟨w.heap.size + 1, 0, none⟩ = some (.int .i64 1) ∧ w'.cell? ⟨w.heap.size + 1, 1, none⟩ = some (.bool g) ∧ w'.cell? ⟨w.heap.size + 1, 2, none⟩ = some (.string S) ∧ w'.cell? ⟨w.heap.size + 1, 3, none⟩ = some (.int .i64 x))
    (first | (with_reducible exact d1.keep) | (with_reducible exact d2.keep) | (with_reducible exact d3.keep))
    (first
      | (go_at_call 67; (with_reducible refine (top_n _).mono ?_); rintro e v2 ⟨rfl, bb2⟩; first | (have d3 := d2.below bb2) | (have d2 := d1.below bb2))
      | (go_at_call 68; (with_reducible refine (HS.out _).mono ?_); rintro e v2 ⟨rfl, bb2⟩; first | (have d3 := d2.below bb2) | (have d2 := d1.below bb2)))
  all_goals
    have ho := HO.out
    go_wp2
    go_ret2
    exact ⟨congrArg (fun z => Ending.returned (Value.tuple #[Value.int .u64 z, .int .i64 0])) ho, d3.bl⟩
set_option maxHeartbeats 8000000 in
set_option maxRecDepth 100000 in
theorem to_nil_n (g : Bool) (S : ByteArray) (x : Int) (w : World) (e1 : S.toList.isEmpty = true) (e2 : (S.toList == []) = true)
    (HM : ∀ w1, Calls Tryz.prog 66 #[.agg #[.int .i64 0, .bool g, .string S, .int .i64 x]] w1 fun e w' => e = .returned (.bool true) ∧ Below w1.heap.size w1 w') :
    Calls Tryz.prog 41 #[.agg #[.int .i64 23, .int .i64 8], .agg #[.int .i64 0, .bool g, .string S, .int .i64 x]] w fun e w' => e = .returned (.tuple #[.int .u64 ((sg_n g : Nat) : Int), .int .i64 0]) ∧ Below w.heap.size w w' := by
  have HB := Lib.hid (WD.start w 23 8 0 g S x)
  have HM' := Lib.hid HM
  have HS := Lib.hid (sign_n_n g)
  clear HM
  generalize sg_n g = q at *
  go_enter Tryz.func41, Tryz.ntmps41
  go_wp2_with (first
    | (go_at_call 66; (with_reducible refine (HM'.out _).mono ?_); rintro e w1 ⟨rfl, b1⟩; have z1 := HB.out.below b1; have k1 := z1.keep)
    | (go_at_call 68; (with_reducible refine (HS.out _).mono ?_); rintro e v2 ⟨rfl, bb2⟩; have z2 := z1.below bb2))
  go_ret2
  exact ⟨rfl, z2.bl⟩
set_option maxHeartbeats 8000000 in
set_option maxRecDepth 100000 in
theorem to_pos_n (g : Bool) (l : List UInt8) (k b : Nat) (w : World) (hF : Formed l) (hf : fits l (k : Nat)) (hb : NearD 23 149 (nv 0 l) (k : Nat) b)
    (HM : ∀ w1, Calls Tryz.prog 66 #[.agg #[.int .i64 0, .bool g, .string ⟨l.toArray⟩, .int .i64 (k : Nat)]] w1 fun e w' => e = .returned (.bool true) ∧ Below w1.heap.size w1 w') :
    Calls Tryz.prog 41 #[.agg #[.int .i64 23, .int .i64 8], .agg #[.int .i64 0, .bool g, .string ⟨l.toArray⟩, .int .i64 (k : Nat)]] w fun e w' => e = .returned (.tuple #[.int .u64 ((sg_n g ||| min b 2139095040 : Nat) : Int), .int .i64 0]) ∧ Below w.heap.size w w' := by
  have hne : l ≠ [] := hF.ne
  have e1 : (⟨l.toArray⟩ : ByteArray).toList.isEmpty = false := by rw [(emp_iff l).1, decide_eq_false hne]
  have e2 : ((⟨l.toArray⟩ : ByteArray).toList == []) = false := by rw [(emp_iff l).2, decide_eq_false hne]
  have hk : k ≤ 2000 := by have := hf.2.2; omega
  have HB := Lib.hid (WD.start w 23 8 0 g ⟨l.toArray⟩ (k : Nat))
  have HM' := Lib.hid HM
  have HS := Lib.hid (sign_n_n g)
  have HPa := Lib.hid (fun w1 => parse_formed hF (by have := hf.1; omega) w1)
  have HPo := Lib.hid (fun (y : Int) (hy : y = (k : Nat)) w1 => (show Calls Tryz.prog 69 #[.int .i64 y] w1 (Wh.Gives1 w1 (digs U (10 ^ k))) from hy ▸ Wh.pow10_calls k w1 (by omega)))
  have bD : Bt (nv 0 l) 8000 := by
    have := num_bt (k := 0) (j := 700) hF (by have := hf.1; omega)
    rw [Nat.pow_zero, Nat.mul_one] at this
    exact this.mono (by omega)
  have bP : Bt (10 ^ k) 8000 := (ten_bt (j := 700) (by omega)).mono (by omega)
  have bN : Bt (nv 0 l * 10 ^ k) 8000 := (num_bt (j := 700) hF (by have := hf.2.2; omega)).mono (by omega)
  have hP0 : 0 < nv 0 l * 10 ^ k := Nat.mul_pos hF.pos (Nat.pow_pos (by omega))
  have HMu := Lib.hid (fun (A A' : Option Addr) (n c n' c' : Nat) (w1 : World) (h : SI w1 .u64 A n c (digs U (nv 0 l))) (h' : SI w1 .u64 A' n' c' (digs U (10 ^ k))) => mul_d A A' n c n' c' (nv 0 l) (10 ^ k) w1 h h' (by rw [← h.len]; have := bD.len; omega) (by rw [← h'.len]; have := bP.len; omega))
  unfold NearD at hb
  rw [show ((k : Nat) : Int).toNat = k by omega, show (-((k : Nat) : Int)).toNat = 0 by omega, Nat.pow_zero] at hb
  have HBt := Lib.hid (fun (A A' : Option Addr) (n c n' c' : Nat) (w1 : World) (h : SI w1 .u64 A n c (digs U (nv 0 l * 10 ^ k))) (h' : SI w1 .u64 A' n' c' (digs U 1)) => bits_calls_n A A' n c n' c' (nv 0 l * 10 ^ k) 1 b w1 h h' bN ((ten_bt (k := 0) (j := 0) (by omega)).mono (by omega)) hP0 (by omega) hb)
  have hmin : min b 2139095040 < 18446744073709551616 := by omega
  have HO := Lib.hid (show Go.bits .or .u64 ((sg_n g : Nat) : Int) ((min b 2139095040 : Nat) : Int) = ((sg_n g ||| min b 2139095040 : Nat) : Int) from Sh.or_nat (sg_n g) (min b 2139095040) (sg_lt_n g) hmin)
  clear HM hb bD bP bN hP0 hmin hF hf hne
  generalize sg_n g ||| min b 2139095040 = r at *
  generalize min b 2139095040 = mb at *
  generalize sg_n g = q at *
  generalize nv 0 l * 10 ^ k = N at *
  generalize nv 0 l = D at *
  generalize 10 ^ k = P at *
  generalize (⟨l.toArray⟩ : ByteArray) = S at *
  go_enter Tryz.func41, Tryz.ntmps41
  go_wp2_with (first
    | (go_at_call 66; (with_reducible refine (HM'.out _).mono ?_); rintro e w1 ⟨rfl, b1⟩; have z1 := HB.out.below b1; have k1 := z1.keep)
    | (go_at_call 55; (with_reducible refine (HPa.out _).mono ?_); rintro e w2 ⟨A1, n1, c1, rfl, r1, b2⟩; have z2 := z1.below b2; have k2 := z2.keep)
    | (go_at_call 69; (with_reducible refine (HPo.out _ ?_ _).mono ?_); (omega); rintro e w3 ⟨A2, n2, c2, rfl, r2, b3⟩; have z3 := z2.below b3; have k3 := z3.keep; have r13 := r1.below b3; have a3 := alloc_below w3 (.cells #[.int .i64 23, .int .i64 8, .slice A1 n1 c1, .slice A2 n2 c2] 95); have z4 := z3.below a3; have k4 := z4.keep; have s4 := Bk.start w3 95 #[.int .i64 23, .int .i64 8, .slice A1 n1 c1, .slice A2 n2 c2]; have p4 := r13.below a3; have p5 := r2.below a3)
    | (go_at_call 70; (with_reducible refine (HMu.out A1 A2 n1 c1 n2 c2 _ p4 p5).mono ?_); rintro e w5 ⟨v5, rfl, o5, b5⟩; obtain ⟨A5, n5, c5, rfl, r5⟩ := o5.reads_n; have s5 := s4.below b5; have z5 := z4.below b5)
    | (go_at_call 71; (with_reducible refine (of_one _).mono ?_); rintro e w6 ⟨v6, rfl, o6, b6⟩; obtain ⟨A6, n6, c6, rfl, r6⟩ := o6.reads_n; have s6 := s5.below b6; have z6 := z5.below b6; have f6 := frz s6; have r56 := r5.below b6; have q6 := four s6))
  have hw3 : w.heap.size + 1 < w3.heap.size := z3.b.lt
  have g4 := a3.size
  have h34 : (w3.alloc (.cells #[.int .i64 23, .int .i64 8, .slice A1 n1 c1, .slice A2 n2 c2] 95)).heap.size = w3.heap.size + 1 := by simp
  have y0 := (WQ.put z6 s6 hw3 r56 r6 (fun b o s e => by have := ow_new o5 b o s e; omega) (fun b o s e => by have := ow_new o6 b o s e; have := b5.size; omega)).drew
  clear k1 k2 k3 k4 s4 s5 s6 z1 z2 z3 z4 z5 z6 r1 r2 r5 r6 r13 p4 p5 o5 o6 r56 f6 q6 b1 b2 b3 b5 b6 a3 g4 h34 HB HM' HPa HPo HMu
  generalize w3.heap.size = gq at *
  go_region_held3 (fun w' => w'.cell? ⟨w.heap.size, 0, none⟩ = some (.int .i64 23) ∧ w'.cell? ⟨w.heap.size, 1, none⟩ = some (.int .i64 8) ∧ w'.cell? ⟨w.heap.size + 1, 1, none⟩ = some (.bool g) ∧ w'.cell? ⟨gq, 0, none⟩ = some (.int .i64 23) ∧ w'.cell? ⟨gq, 1, none⟩ = some (.int .i64 8) ∧ w'.cell? ⟨gq, 2, none⟩ = some (.slice A5 n5 c5) ∧ w'.cell? ⟨gq, 3, none⟩ = some (.slice A6 n6 c6))
    (first | (with_reducible exact y0.keep) | (with_reducible exact y1.keep) | (with_reducible exact y2.keep))
    (first
      | (go_at_call 68; (with_reducible refine (HS.out _).mono ?_); rintro e v2 ⟨rfl, bb2⟩; first | (have y2 := y1.below bb2) | (have y1 := y0.below bb2))
      | (go_at_call 72; first
        | ((with_reducible refine (HBt.out A5 A6 n5 c5 n6 c6 _ y1.a y1.b).mono ?_); rintro e v2 ⟨rfl, bb2⟩; have y2 := y1.below bb2)
        | ((with_reducible refine (HBt.out A5 A6 n5 c5 n6 c6 _ y0.a y0.b).mono ?_); rintro e v2 ⟨rfl, bb2⟩; have y1 := y0.below bb2)))
  all_goals
    have ho := HO.out
    go_wp2
    go_ret2
    exact ⟨congrArg (fun z => Ending.returned (Value.tuple #[Value.int .u64 z, .int .i64 0])) ho, y2.z.bl⟩
set_option maxHeartbeats 8000000 in
set_option maxRecDepth 100000 in
theorem to_neg_n (g : Bool) (l : List UInt8) (k b : Nat) (w : World) (hk0 : 0 < k) (hF : Formed l) (hf : fits l (-(k : Int))) (hb : NearD 23 149 (nv 0 l) (-(k : Int)) b)
    (HM : ∀ w1, Calls Tryz.prog 66 #[.agg #[.int .i64 0, .bool g, .string ⟨l.toArray⟩, .int .i64 (-(k : Int))]] w1 fun e w' => e = .returned (.bool true) ∧ Below w1.heap.size w1 w') :
    Calls Tryz.prog 41 #[.agg #[.int .i64 23, .int .i64 8], .agg #[.int .i64 0, .bool g, .string ⟨l.toArray⟩, .int .i64 (-(k : Int))]] w fun e w' => e = .returned (.tuple #[.int .u64 ((sg_n g ||| min b 2139095040 : Nat) : Int), .int .i64 0]) ∧ Below w.heap.size w w' := by
  have hne : l ≠ [] := hF.ne
  have e1 : (⟨l.toArray⟩ : ByteArray).toList.isEmpty = false := by rw [(emp_iff l).1, decide_eq_false hne]
  have e2 : ((⟨l.toArray⟩ : ByteArray).toList == []) = false := by rw [(emp_iff l).2, decide_eq_false hne]
  have hk : k ≤ 3000 := by have := hf.2.1; have := hf.1; omega
  have HB := Lib.hid (WD.start w 23 8 0 g ⟨l.toArray⟩ (-(k : Int)))
  have HM' := Lib.hid HM
  have HS := Lib.hid (sign_n_n g)
  have HPa := Lib.hid (fun w1 => parse_formed hF (by have := hf.1; omega) w1)
  have HPo := Lib.hid (fun (y : Int) (hy : y = (k : Nat)) w1 => (show Calls Tryz.prog 69 #[.int .i64 y] w1 (Wh.Gives1 w1 (digs U (10 ^ k))) from hy ▸ Wh.pow10_calls k w1 (by omega)))
  have bD : Bt (nv 0 l) 8000 := by
    have := num_bt (k := 0) (j := 700) hF (by have := hf.1; omega)
    rw [Nat.pow_zero, Nat.mul_one] at this
    exact this.mono (by omega)
  have bP : Bt (10 ^ k) 11000 := (ten_bt (j := 1000) (by omega)).mono (by omega)
  have hD0 := hF.pos
  have hP0 : 0 < 10 ^ k := Nat.pow_pos (by omega)
  unfold NearD at hb
  rw [show (-(k : Int)).toNat = 0 by omega, show (- -(k : Int)).toNat = k by omega, Nat.pow_zero, Nat.mul_one] at hb
  have HBt := Lib.hid (fun (A A' : Option Addr) (n c n' c' : Nat) (w1 : World) (h : SI w1 .u64 A n c (digs U (nv 0 l))) (h' : SI w1 .u64 A' n' c' (digs U (10 ^ k))) => bits_calls_n A A' n c n' c' (nv 0 l) (10 ^ k) b w1 h h' bD bP hD0 hP0 hb)
  have hmin : min b 2139095040 < 18446744073709551616 := by omega
  have HO := Lib.hid (show Go.bits .or .u64 ((sg_n g : Nat) : Int) ((min b 2139095040 : Nat) : Int) = ((sg_n g ||| min b 2139095040 : Nat) : Int) from Sh.or_nat (sg_n g) (min b 2139095040) (sg_lt_n g) hmin)
  clear HM hb bD bP hD0 hP0 hmin hF hf hne
  generalize sg_n g ||| min b 2139095040 = r at *
  generalize min b 2139095040 = mb at *
  generalize sg_n g = q at *
  generalize nv 0 l = D at *
  generalize 10 ^ k = P at *
  generalize (⟨l.toArray⟩ : ByteArray) = S at *
  go_enter Tryz.func41, Tryz.ntmps41
  go_wp2_with (first
    | (go_at_call 66; (with_reducible refine (HM'.out _).mono ?_); rintro e w1 ⟨rfl, b1⟩; have z1 := HB.out.below b1; have k1 := z1.keep)
    | (go_at_call 55; (with_reducible refine (HPa.out _).mono ?_); rintro e w2 ⟨A1, n1, c1, rfl, r1, b2⟩; have z2 := z1.below b2; have k2 := z2.keep)
    | (go_at_call 69; (with_reducible refine (HPo.out _ ?_ _).mono ?_); (omega); rintro e w3 ⟨A2, n2, c2, rfl, r2, b3⟩; have z3 := z2.below b3; have k3 := z3.keep; have r13 := r1.below b3; have a3 := alloc_below w3 (.cells #[.int .i64 23, .int .i64 8, .slice A1 n1 c1, .slice A2 n2 c2] 95); have z4 := z3.below a3; have k4 := z4.keep; have s4 := Bk.start w3 95 #[.int .i64 23, .int .i64 8, .slice A1 n1 c1, .slice A2 n2 c2]; have p4 := r13.below a3; have p5 := r2.below a3))
  have hw3 : w.heap.size + 1 < w3.heap.size := z3.b.lt
  have y0 := (WQ.mk z4 s4 p4 p5).drew
  clear k1 k2 k3 k4 s4 z1 z2 z3 z4 r1 r2 r13 p4 p5 b1 b2 b3 a3 HB HM' HPa HPo
  generalize w3.heap.size = gq at *
  go_region_held3 (fun w' => w'.cell? ⟨w.heap.size, 0, none⟩ = some (.int .i64 23) ∧ w'.cell? ⟨w.heap.size, 1, none⟩ = some (.int .i64 8) ∧ w'.cell? ⟨w.heap.size + 1, 1, none⟩ = some (.bool g) ∧ w'.cell? ⟨gq, 0, none⟩ = some (.int .i64 23) ∧ w'.cell? ⟨gq, 1, none⟩ = some (.int .i64 8) ∧ w'.cell? ⟨gq, 2, none⟩ = some (.slice A1 n1 c1) ∧ w'.cell? ⟨gq, 3, none⟩ = some (.slice A2 n2 c2))
    (first | (with_reducible exact y0.keep) | (with_reducible exact y1.keep) | (with_reducible exact y2.keep))
    (first
      | (go_at_call 68; (with_reducible refine (HS.out _).mono ?_); rintro e v2 ⟨rfl, bb2⟩; first | (have y2 := y1.below bb2) | (have y1 := y0.below bb2))
      | (go_at_call 72; first
        | ((with_reducible refine (HBt.out A1 A2 n1 c1 n2 c2 _ y1.a y1.b).mono ?_); rintro e v2 ⟨rfl, bb2⟩; have y2 := y1.below bb2)
        | ((with_reducible refine (HBt.out A1 A2 n1 c1 n2 c2 _ y0.a y0.b).mono ?_); rintro e v2 ⟨rfl, bb2⟩; have y1 := y0.below bb2)))
  all_goals
    have ho := HO.out
    go_wp2
    go_ret2
    exact ⟨congrArg (fun z => Ending.returned (Value.tuple #[Value.int .u64 z, .int .i64 0])) ho, y2.z.bl⟩
theorem to_calls_n (c : Int) (g : Bool) (l : List UInt8) (x : Int) (w : World) (hl : l.length ≤ 9223372036854775807) :
    Calls Tryz.prog 41 #[.agg #[.int .i64 23, .int .i64 8], .agg (dec c g l x)] w fun e w' => e = .returned (.tuple #[.int .u64 ((tV_n c g l x : Nat) : Int), .int .i64 (tE c g l x)]) ∧ Below w.heap.size w w' := by
  have HM := fun w1 => nmay_calls c g l x w1 hl
  unfold tV_n tE
  cases hm : mayB c g l x
  · rw [hm] at HM
    exact to_err_n c g ⟨l.toArray⟩ x w HM
  · rw [hm] at HM
    rw [if_neg (by decide), if_pos rfl]
    by_cases h2 : c = 2
    · subst h2
      exact to_nan_n g ⟨l.toArray⟩ x w HM
    rw [if_neg h2]
    by_cases h1 : c = 1
    · subst h1
      exact to_inf_n g ⟨l.toArray⟩ x w HM
    rw [if_neg h1]
    have hmm := (Rd.mayB_iff ..).1 hm
    by_cases h0 : l = []
    · rw [if_pos h0]
      obtain rfl : c = 0 := by
        rcases hmm with ⟨_, _, h⟩ | ⟨h, _, _⟩
        · omega
        · exact h
      exact to_nil_n g ⟨l.toArray⟩ x w (by rw [(emp_iff l).1, decide_eq_true h0]) (by rw [(emp_iff l).2, decide_eq_true h0]) HM
    · rw [if_neg h0]
      obtain ⟨rfl, hF, hf⟩ : c = 0 ∧ Formed l ∧ fits l x := by
        rcases hmm with ⟨h, _⟩ | h
        · exact absurd h h0
        · exact h
      have hb := nb_spec (M := 23) (by omega) 149 (nv 0 l) x
      by_cases hx : 0 ≤ x
      · obtain ⟨k, rfl⟩ : ∃ k : Nat, x = (k : Nat) := ⟨x.toNat, by omega⟩
        exact to_pos_n g l k _ w hF hf hb HM
      · obtain ⟨k, rfl⟩ : ∃ k : Nat, x = -(k : Int) := ⟨(-x).toNat, by omega⟩
        exact to_neg_n g l k _ w (by omega) hF hf hb HM
end Go.Proofs.YtfddokfnplehkaaGreatDoor.Nr
