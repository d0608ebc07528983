/- Texts of one layer, joined: Sp, Sq, Sr, Ss, St, Sv, Sw. -/
import Derived.Test.YtkanddmihmdagaaGreatDoorGF
import GoSem.Op.String
import Derived.Lib.TrimByte
set_option linter.unusedVariables false
set_option linter.unusedSimpArgs false
set_option linter.unusedSectionVars false
/- Layer 3, plain: texts of one length stand as their numbers; one more; the fewest digits: no program in sight. -/
set_option linter.unusedSimpArgs false
set_option linter.unusedVariables false
namespace Go.Proofs.YtkanddmihmdagaaGreatDoor.Sp
open Go.Lib Go.Proofs.YtkanddmihmdagaaGreatDoor.Td

theorem nv_cons0 (c : UInt8) (r : List UInt8) : nv 0 (c :: r) = (c.toNat - 48) * 10 ^ r.length + nv 0 r := by
  rw [nv_cons, nv_acc, Nat.zero_mul, Nat.zero_add]
/-- texts of one length stand as their numbers -/
theorem less_nv : ∀ (x y : List UInt8), (∀ b ∈ x, isDig b) → (∀ b ∈ y, isDig b) → x.length = y.length → Go.Op.bytesLess x y = decide (nv 0 x < nv 0 y)
  | [], [], _, _, _ => rfl
  | [], _ :: _, _, _, h => by simp at h
  | _ :: _, [], _, _, h => by simp at h
  | a :: x, b :: y, hx, hy, hl => by
    have ha := hx a (by simp)
    have hb := hy b (by simp)
    have hx' := fun c hc => hx c (List.mem_cons_of_mem _ hc)
    have hy' := fun c hc => hy c (List.mem_cons_of_mem _ hc)
    have hl' : x.length = y.length := by simpa using hl
    have lx := nv_lt hx'
    have ly := nv_lt hy'
    show (decide (a < b) || (a == b && Go.Op.bytesLess x y)) = _
    rw [less_nv x y hx' hy' hl', nv_cons0, nv_cons0, ← hl']
    rw [← hl'] at ly
    unfold isDig at ha hb
    generalize 10 ^ x.length = T at *
    have e1 : decide (a < b) = decide (a.toNat < b.toNat) := rfl
    have e2 : (a == b) = decide (a.toNat = b.toNat) := by
      by_cases h : a = b
      · subst h; simp
      · have : a.toNat ≠ b.toNat := fun e => h (UInt8.toNat_inj.1 e)
        simp [h, this]
    rw [e1, e2]
    obtain ⟨p, hp⟩ : ∃ p, a.toNat - 48 = p := ⟨_, rfl⟩
    obtain ⟨q, hq⟩ : ∃ q, b.toNat - 48 = q := ⟨_, rfl⟩
    rw [hp, hq, show a.toNat = 48 + p by omega, show b.toNat = 48 + q by omega]
    rcases Nat.lt_trichotomy p q with h | h | h
    · have : (p + 1) * T ≤ q * T := Nat.mul_le_mul_right _ h
      rw [Nat.add_mul] at this
      rw [decide_eq_true (show 48 + p < 48 + q by omega), decide_eq_true (show p * T + nv 0 x < q * T + nv 0 y by omega)]
      rfl
    · subst h
      simp
    · have : (q + 1) * T ≤ p * T := Nat.mul_le_mul_right _ h
      rw [Nat.add_mul] at this
      rw [decide_eq_false (show ¬ 48 + p < 48 + q by omega), decide_eq_false (show ¬ 48 + p = 48 + q by omega), decide_eq_false (show ¬ p * T + nv 0 x < q * T + nv 0 y by omega)]
      rfl
theorem dd_isDig : ∀ k m, ∀ b ∈ dd k m, isDig b
  | 0, _, b, h => by simp [dd] at h
  | k + 1, m, b, h => by
    rw [dd, List.mem_append, List.mem_singleton] at h
    rcases h with h | rfl
    · exact dd_isDig k _ b h
    · exact db_isDig (Nat.mod_lt _ (by omega))
theorem nv_dd : ∀ k m, nv 0 (dd k m) = m % 10 ^ k
  | 0, m => by rw [dd, nv_nil, Nat.pow_zero, Nat.mod_one]
  | k + 1, m => by
    rw [dd, nv_append, nv_cons, nv_nil, nv_dd k, db_nat (Nat.mod_lt _ (by omega)), Nat.pow_succ, Nat.mul_comm (10 ^ k) 10, Nat.mod_mul]
    omega
theorem nv_dd' {k m : Nat} (h : m < 10 ^ k) : nv 0 (dd k m) = m := by rw [nv_dd, Nat.mod_eq_of_lt h]
theorem less_dd {k x y : Nat} (hx : x < 10 ^ k) (hy : y < 10 ^ k) : Go.Op.bytesLess (dd k x) (dd k y) = decide (x < y) := by
  rw [less_nv _ _ (dd_isDig _ _) (dd_isDig _ _) (by rw [dd_len, dd_len]), nv_dd' hx, nv_dd' hy]
theorem eq_dd {k x y : Nat} (hx : x < 10 ^ k) (hy : y < 10 ^ k) : (dd k x == dd k y) = decide (x = y) := by
  by_cases h : x = y
  · subst h; simp
  · have : dd k x ≠ dd k y := fun e => h (by rw [← nv_dd' hx, ← nv_dd' hy, e])
    simp [h, this]
/-- the first digits, with noughts behind -/
theorem dd_noughts (n k v : Nat) : dd n v ++ List.replicate k 48 = dd (n + k) (v * 10 ^ k) := by
  rw [dd_add, Nat.mul_div_cancel _ (Nat.pow_pos (by omega)), ← dd_mod k (v * 10 ^ k), Nat.mul_mod_left, dd_zero]
theorem dd_take (n k m : Nat) : (dd (n + k) m).take n = dd n (m / 10 ^ k) := by
  rw [dd_add]
  have := dd_len n (m / 10 ^ k)
  rw [List.take_append_of_le_length (by omega), List.take_of_length_le (by omega)]
theorem dd_drop (n k m : Nat) : (dd (n + k) m).drop n = dd k m := by
  rw [dd_add]
  have := dd_len n (m / 10 ^ k)
  rw [List.drop_append_of_le_length (by omega), List.drop_of_length_le (by omega), List.nil_append]
/-- five and noughts -/
theorem dd_five (k : Nat) : (53 : UInt8) :: List.replicate k 48 = dd (k + 1) (5 * 10 ^ k) := by
  rw [Nat.add_comm, ← dd_noughts 1 k 5]
  rfl
/-- a nine more: noughts behind -/
theorem dd_nines (n k v : Nat) (h : v % 10 ^ (k + 1) = 10 ^ (k + 1) - 1) : v / 10 ^ k % 10 = 9 := by
  have hp : 0 < 10 ^ k := Nat.pow_pos (by omega)
  rw [Nat.pow_succ, Nat.mod_mul] at h
  have h1 := Nat.mod_lt v hp
  have h2 := Nat.mod_lt (v / 10 ^ k) (show 10 > 0 by omega)
  generalize v / 10 ^ k % 10 = d at *
  generalize v % 10 ^ k = r at *
  generalize 10 ^ k = T at *
  by_cases h9 : d = 9
  · exact h9
  · have : T * d ≤ T * 8 := Nat.mul_le_mul_left _ (by omega)
    omega

/-- is it within reach? -/
def win (ends : Bool) (l h x : Nat) : Bool := if ends then decide (l ≤ x) && decide (x ≤ h) else decide (l < x) && decide (x < h)
/-- what one length of digits gives -/
def hit (l m h : Nat) (ends : Bool) (t : Nat) : Option Nat :=
  if win ends l h (m / t * t + t) && ((decide (t < 2 * (m % t)) || decide (2 * (m % t) = t) && decide (m / t % 2 = 1)) || !win ends l h (m / t * t)) then some (m / t * t + t)
  else if win ends l h (m / t * t) then some (m / t * t) else none
/-- the fewest digits: by lengths -/
def few (l m h : Nat) (ends : Bool) : Nat → Nat
  | 0 => m
  | k + 1 => (hit l m h ends (10 ^ (k + 1))).getD (few l m h ends k)
theorem few_none {l m h k : Nat} {ends : Bool} (e : hit l m h ends (10 ^ (k + 1)) = none) : few l m h ends (k + 1) = few l m h ends k := by rw [few, e]; rfl
theorem few_some {l m h k x : Nat} {ends : Bool} (e : hit l m h ends (10 ^ (k + 1)) = some x) : few l m h ends (k + 1) = x := by rw [few, e]; rfl
theorem hit_win {l m h t x : Nat} {ends : Bool} (e : hit l m h ends t = some x) : win ends l h x = true ∧ t ∣ x := by
  unfold hit at e
  split at e
  · next hc =>
    injection e with e
    subst e
    rw [Bool.and_eq_true] at hc
    exact ⟨hc.1, Nat.dvd_add (Nat.dvd_mul_left _ _) (Nat.dvd_refl _)⟩
  · split at e
    · next hc =>
      injection e with e
      subst e
      exact ⟨hc, Nat.dvd_mul_left _ _⟩
    · cases e
/-- what is told lies within reach -/
theorem few_win {l m h : Nat} {ends : Bool} (hl : l < m) (hh : m < h) : ∀ k, win ends l h (few l m h ends k) = true
  | 0 => by unfold win few; cases ends <;> simp <;> omega
  | k + 1 => by
    cases e : hit l m h ends (10 ^ (k + 1)) with
    | none => rw [few_none e]; exact few_win hl hh k
    | some x => rw [few_some e]; exact (hit_win e).1
/-- a multiple within reach: then it hits -/
theorem hit_of {l m h t x : Nat} {ends : Bool} (ht : 0 < t) (hl : l < m) (hh : m < h) (hx : t ∣ x) (hw : win ends l h x = true) : ∃ y, hit l m h ends t = some y := by
  have hb : win ends l h (m / t * t) = true ∨ win ends l h (m / t * t + t) = true := by
    obtain ⟨j, rfl⟩ := hx
    have h1 := Nat.div_add_mod m t
    have h2 := Nat.mod_lt m ht
    rw [Nat.mul_comm] at h1
    rcases Nat.lt_or_ge (m / t) j with hj | hj
    · right
      have : (m / t + 1) * t ≤ j * t := Nat.mul_le_mul_right _ hj
      rw [Nat.add_mul, Nat.one_mul, Nat.mul_comm j] at this
      unfold win at *
      cases ends <;> simp at * <;> omega
    · left
      have : j * t ≤ m / t * t := Nat.mul_le_mul_right _ hj
      rw [Nat.mul_comm j] at this
      unfold win at *
      cases ends <;> simp at * <;> omega
  unfold hit
  rcases hb with hb | hb
  · split
    · exact ⟨_, rfl⟩
    · exact ⟨_, rfl⟩
  · by_cases hb' : win ends l h (m / t * t) = true
    · split
      · exact ⟨_, rfl⟩
      · exact ⟨_, rfl⟩
    · rw [hb, Bool.eq_false_iff.2 hb']
      simp
end Go.Proofs.YtkanddmihmdagaaGreatDoor.Sp

/- Layer 3, plain: noughts behind, a number's one form; how many digits the fewest are: no program in sight. -/
set_option linter.unusedSimpArgs false
set_option linter.unusedVariables false
namespace Go.Proofs.YtkanddmihmdagaaGreatDoor.Sp
open Go.Lib Go.Proofs.YtkanddmihmdagaaGreatDoor.Td

theorem p10 (k : Nat) : 0 < 10 ^ k := Nat.pow_pos (by omega)
/-- how many noughts stand behind -/
def tz (a : Nat) : Nat := if h : a ≠ 0 ∧ a % 10 = 0 then tz (a / 10) + 1 else 0
termination_by a
decreasing_by omega
theorem tz_step {a : Nat} (h0 : a ≠ 0) (h : a % 10 = 0) : tz a = tz (a / 10) + 1 := by rw [tz, dif_pos ⟨h0, h⟩]
theorem tz_stop {a : Nat} (h : a % 10 ≠ 0) : tz a = 0 := by rw [tz, dif_neg (fun e => h e.2)]
theorem tz_spec (a : Nat) : a ≠ 0 → ∃ b, a = b * 10 ^ tz a ∧ b % 10 ≠ 0 := by
  induction a using Nat.strongRecOn with
  | _ a ih =>
    intro h0
    by_cases h : a % 10 = 0
    · obtain ⟨b, e, hb⟩ := ih (a / 10) (by omega) (by omega)
      refine ⟨b, ?_, hb⟩
      rw [tz_step h0 h, Nat.pow_succ, ← Nat.mul_assoc, ← e]
      omega
    · exact ⟨a, by rw [tz_stop h]; omega, h⟩
theorem tz_mul (b k : Nat) (h : b ≠ 0) : tz (b * 10 ^ k) = tz b + k := by
  induction k with
  | zero => rw [Nat.pow_zero, Nat.mul_one, Nat.add_zero]
  | succ k ih =>
    have hne : b * 10 ^ (k + 1) ≠ 0 := Nat.mul_ne_zero h (Nat.ne_of_gt (p10 _))
    have e : b * 10 ^ (k + 1) = b * 10 ^ k * 10 := by rw [Nat.pow_succ, Nat.mul_assoc]
    rw [tz_step hne (by rw [e]; exact Nat.mul_mod_left _ _), show b * 10 ^ (k + 1) / 10 = b * 10 ^ k by rw [e]; exact Nat.mul_div_cancel _ (by omega), ih]
    omega
theorem tz_of {b k : Nat} (h : b % 10 ≠ 0) : tz (b * 10 ^ k) = k := by rw [tz_mul b k (fun e => h (by rw [e])), tz_stop h, Nat.zero_add]
theorem tz_ge {a k : Nat} (h0 : a ≠ 0) (h : 10 ^ k ∣ a) : k ≤ tz a := by
  obtain ⟨b, rfl⟩ := h
  rw [Nat.mul_comm, tz_mul b k (fun e => h0 (by rw [e, Nat.mul_zero]))]
  omega
theorem dec_mul_pow (b k : Nat) (h : b ≠ 0) : decDigits (b * 10 ^ k) = decDigits b ++ List.replicate k 48 := by
  induction k with
  | zero => rw [Nat.pow_zero, Nat.mul_one]; simp
  | succ k ih =>
    have e : b * 10 ^ (k + 1) = b * 10 ^ k * 10 := by rw [Nat.pow_succ, Nat.mul_assoc]
    have hp : 0 < b * 10 ^ k := Nat.mul_pos (by omega) (p10 _)
    rw [e, dec_big (by omega), Nat.mul_div_cancel _ (by omega), Nat.mul_mod_left, ih, List.append_assoc, List.replicate_succ']
    rfl
theorem dec_last {b : Nat} (h : b % 10 ≠ 0) : ∃ r c, decDigits b = r ++ [c] ∧ (c == 48) = false := by
  by_cases hb : b < 10
  · exact ⟨[], db b, by rw [dec_small hb]; rfl, db_ne hb (by omega)⟩
  · exact ⟨decDigits (b / 10), db (b % 10), dec_big hb, db_ne (Nat.mod_lt _ (by omega)) h⟩
/-- a number's digits without the noughts behind -/
theorem trim_dec {b k : Nat} (h : b % 10 ≠ 0) : trimRightB (decDigits (b * 10 ^ k)) 48 = decDigits b := by
  have h0 : b ≠ 0 := fun e => h (by rw [e])
  obtain ⟨r, c, e, hc⟩ := dec_last h
  unfold trimRightB
  rw [dec_mul_pow b k h0, List.reverse_append, List.reverse_replicate, drop_noughts, e, List.reverse_append, List.reverse_singleton, List.singleton_append, List.dropWhile_cons_of_neg (by simp [hc])]
  simp
/-- the digits of a number's one form, and its exponent -/
def cd (a : Nat) : List UInt8 := if a = 0 then [] else decDigits (a / 10 ^ tz a)
def ce (a : Nat) (n : Int) : Int := if a = 0 then 0 else n + (tz a : Int)
theorem cd_zero : cd 0 = [] := rfl
theorem ce_zero (n : Int) : ce 0 n = 0 := rfl
theorem cd_of {b k : Nat} (h : b % 10 ≠ 0) : cd (b * 10 ^ k) = decDigits b := by
  have h0 : b ≠ 0 := fun e => h (by rw [e])
  unfold cd
  rw [if_neg (Nat.mul_ne_zero h0 (Nat.ne_of_gt (p10 _))), tz_of h, Nat.mul_div_cancel _ (p10 _)]
theorem ce_of {b k : Nat} (h : b % 10 ≠ 0) (n : Int) : ce (b * 10 ^ k) n = n + k := by
  have h0 : b ≠ 0 := fun e => h (by rw [e])
  unfold ce
  rw [if_neg (Nat.mul_ne_zero h0 (Nat.ne_of_gt (p10 _))), tz_of h]
/-- one number at two units has one form -/
theorem cd_mul (a k : Nat) : cd (a * 10 ^ k) = cd a := by
  by_cases h : a = 0
  · subst h; rw [Nat.zero_mul]
  · obtain ⟨b, e, hb⟩ := tz_spec a h
    generalize tz a = j at e
    subst e
    rw [Nat.mul_assoc, ← Nat.pow_add, cd_of hb, cd_of hb]
theorem ce_mul (a k : Nat) (n : Int) : ce (a * 10 ^ k) n = ce a (n + k) := by
  by_cases h : a = 0
  · subst h; rw [Nat.zero_mul, ce_zero, ce_zero]
  · obtain ⟨b, e, hb⟩ := tz_spec a h
    generalize tz a = j at e
    subst e
    rw [Nat.mul_assoc, ← Nat.pow_add, ce_of hb, ce_of hb]
    omega
/-- what 'made' does with a text that may have noughts ahead -/
theorem trims {k a : Nat} (h : a < 10 ^ k) : trimRightB (trimLeftB (dd k a) 48) 48 = cd a ∧ (a ≠ 0 → ((trimLeftB (dd k a) 48).length : Int) = (cd a).length + (tz a : Int)) := by
  have e : trimLeftB (dd k a) 48 = if a = 0 then [] else decDigits a := strip_dd h
  rw [e]
  by_cases h0 : a = 0
  · subst h0; exact ⟨rfl, fun h => absurd rfl h⟩
  · rw [if_neg h0]
    obtain ⟨b, e, hb⟩ := tz_spec a h0
    have hb0 : b ≠ 0 := fun e => hb (by rw [e])
    generalize tz a = j at e
    subst e
    refine ⟨by rw [trim_dec hb, cd_of hb], fun _ => ?_⟩
    rw [cd_of hb, dec_mul_pow b j hb0, List.length_append, List.length_replicate]
    omega
theorem cd_nil {a : Nat} : cd a = [] ↔ a = 0 := by
  unfold cd
  by_cases h : a = 0
  · simp [h]
  · rw [if_neg h]
    have := dec_len_pos (a / 10 ^ tz a)
    constructor
    · intro e; rw [e] at this; simp at this
    · intro e; exact absurd e h
theorem dec_len_le {a k : Nat} (h : a < 10 ^ k) (hk : 0 < k) : (decDigits a).length ≤ k := (pad_dd k a h hk).1
/-- how long a form is -/
theorem cd_len {a k D : Nat} (hd : 10 ^ k ∣ a) (hk : k < D) (ha : a ≤ 10 ^ D) : (cd a).length ≤ D - k := by
  unfold cd
  by_cases h0 : a = 0
  · rw [if_pos h0]; simp
  · rw [if_neg h0]
    have ht := tz_ge h0 hd
    refine dec_len_le ?_ (by omega)
    by_cases he : a = 10 ^ D
    · subst he
      have e1 : tz (10 ^ D) = D := by have := tz_of (b := 1) (k := D) (by decide); rwa [Nat.one_mul] at this
      rw [e1, Nat.div_self (p10 _)]
      exact Nat.one_lt_pow (by omega) (by omega)
    · rw [Nat.div_lt_iff_lt_mul (p10 _)]
      refine Nat.lt_of_lt_of_le (Nat.lt_of_le_of_ne ha he) ?_
      rw [← Nat.pow_add]
      exact Nat.pow_le_pow_right (by omega) (by omega)
/-- the nearest multiple lies within, where half a step does not reach out -/
theorem near_hit {l m h t : Nat} {ends : Bool} (ht : 0 < t) (h1 : t < 2 * (m - l)) (h2 : t < 2 * (h - m)) : ∃ x, t ∣ x ∧ win ends l h x = true := by
  have e1 := Nat.div_add_mod m t
  have e2 := Nat.mod_lt m ht
  rw [Nat.mul_comm] at e1
  by_cases hr : 2 * (m % t) ≤ t
  · refine ⟨m / t * t, Nat.dvd_mul_left _ _, ?_⟩
    unfold win
    cases ends <;> simp <;> omega
  · refine ⟨m / t * t + t, Nat.dvd_add (Nat.dvd_mul_left _ _) (Nat.dvd_refl _), ?_⟩
    unfold win
    cases ends <;> simp <;> omega
/-- a multiple of a power within reach: what is told is one too -/
theorem few_dvd {l m h x : Nat} {ends : Bool} (hl : l < m) (hh : m < h) {k : Nat} (hx : 10 ^ k ∣ x) (hw : win ends l h x = true) : ∀ K, k ≤ K → 10 ^ k ∣ few l m h ends K
  | 0, hk => by
    obtain rfl : k = 0 := by omega
    exact Nat.one_dvd _
  | K + 1, hk => by
    cases e : hit l m h ends (10 ^ (K + 1)) with
    | some y =>
      rw [few_some e]
      exact Nat.dvd_trans (Nat.pow_dvd_pow 10 hk) (hit_win e).2
    | none =>
      rw [few_none e]
      rcases Nat.lt_or_ge K k with hlt | hge
      · obtain rfl : k = K + 1 := by omega
        obtain ⟨y, ey⟩ := hit_of (p10 _) hl hh hx hw
        rw [e] at ey
        cases ey
      · exact few_dvd hl hh hx hw K hge
/-- what is told is no more than the power above -/
theorem hit_le {l m h t x D : Nat} {ends : Bool} (e : hit l m h ends t = some x) (ht : t ∣ 10 ^ D) (hm : m < 10 ^ D) (h0 : 0 < t) : x ≤ 10 ^ D := by
  have h1 : m / t * t + t ≤ 10 ^ D := by
    obtain ⟨j, hj⟩ := ht
    rw [hj] at hm ⊢
    have : m / t < j := by rw [Nat.div_lt_iff_lt_mul h0, Nat.mul_comm]; exact hm
    have : (m / t + 1) * t ≤ j * t := Nat.mul_le_mul_right _ this
    rw [Nat.add_mul, Nat.one_mul, Nat.mul_comm j] at this
    exact this
  unfold hit at e
  split at e
  · injection e with e; omega
  · split at e
    · injection e with e; omega
    · cases e
theorem few_le {l m h D : Nat} {ends : Bool} (hm : m < 10 ^ D) : ∀ K, K ≤ D → few l m h ends K ≤ 10 ^ D
  | 0, _ => Nat.le_of_lt hm
  | K + 1, hk => by
    cases e : hit l m h ends (10 ^ (K + 1)) with
    | some y => rw [few_some e]; exact hit_le e (Nat.pow_dvd_pow 10 hk) hm (p10 _)
    | none => rw [few_none e]; exact few_le hm K (by omega)
/-- THE FEWEST ARE AT MOST s DIGITS, where at s digits half a step does not reach out -/
theorem few_len {l m h D s : Nat} {ends : Bool} (hl : l < m) (hh : m < h) (hs : 0 < s) (hm : m < 10 ^ D) (hD : 0 < D) (hr : s < D → 10 ^ (D - s) < 2 * (m - l) ∧ 10 ^ (D - s) < 2 * (h - m)) : (cd (few l m h ends (D - 1))).length ≤ s := by
  have hle : few l m h ends (D - 1) ≤ 10 ^ D := few_le hm _ (by omega)
  rcases Nat.lt_or_ge s D with h1 | h1
  · obtain ⟨r1, r2⟩ := hr h1
    obtain ⟨x, hx, hw⟩ := near_hit (ends := ends) (p10 _) r1 r2
    have := cd_len (few_dvd hl hh hx hw (D - 1) (by omega)) (by omega) hle
    omega
  · have := cd_len (k := 0) (Nat.one_dvd _) hD hle
    omega
end Go.Proofs.YtkanddmihmdagaaGreatDoor.Sp

/- Layer 3, plain: floats' amounts: how they stand, their reach, and the fewest digits within it: no program in sight. -/
set_option linter.unusedSimpArgs false
set_option linter.unusedVariables false
namespace Go.Proofs.YtkanddmihmdagaaGreatDoor.Sp
open Go.Lib Go.Proofs.YtkanddmihmdagaaGreatDoor.Td

theorem p2 (k : Nat) : 0 < 2 ^ k := Nat.pow_pos (by omega)
/-- the whole amount that bits (without the sign) say, M of them the fraction's -/
def am (M b : Nat) : Nat := if b / 2 ^ M = 0 then b % 2 ^ M else b % 2 ^ M + 2 ^ M
/-- the amount in the least units -/
def sc (M b : Nat) : Nat := am M b * 2 ^ (b / 2 ^ M - 1)
theorem sc_succ (M b : Nat) : sc M (b + 1) = sc M b + 2 ^ (b / 2 ^ M - 1) := by
  unfold sc am
  have e1 := Nat.div_add_mod b (2 ^ M)
  have e2 := Nat.mod_lt b (p2 M)
  have e3 := p2 M
  generalize 2 ^ M = P at *
  by_cases h : b % P + 1 < P
  · have h1 : (b + 1) / P = b / P := by
      have hb : b + 1 = P * (b / P) + (b % P + 1) := by omega
      rw [hb, Nat.mul_add_div e3, Nat.div_eq_of_lt h, Nat.add_zero]
    have h2 : (b + 1) % P = b % P + 1 := by
      have hb : b + 1 = P * (b / P) + (b % P + 1) := by omega
      rw [hb, Nat.mul_add_mod, Nat.mod_eq_of_lt h]
    rw [h1, h2]
    split
    · next hx => rw [hx]; simp
    · rw [show b % P + 1 + P = b % P + P + 1 by omega, Nat.add_mul, Nat.one_mul]
  · have h0 : b % P + 1 = P := by omega
    have hb : b + 1 = P * (b / P + 1) := by rw [Nat.mul_add]; omega
    have h1 : (b + 1) / P = b / P + 1 := by rw [hb, Nat.mul_div_cancel_left _ e3]
    have h2 : (b + 1) % P = 0 := by rw [hb, Nat.mul_mod_right]
    rw [h1, h2, if_neg (Nat.succ_ne_zero _), Nat.zero_add, Nat.add_sub_cancel]
    split
    · next hx => rw [hx]; simp; omega
    · next hx =>
      obtain ⟨y, hy⟩ : ∃ y, b / P = y + 1 := Nat.exists_eq_succ_of_ne_zero hx
      rw [hy, Nat.add_sub_cancel, Nat.pow_succ, ← Nat.mul_assoc, show P * 2 ^ y * 2 = (P + P) * 2 ^ y by rw [Nat.add_mul]; omega, show P + P = b % P + P + 1 by omega, Nat.add_mul _ 1, Nat.one_mul]
theorem sc_mono (M : Nat) {a b : Nat} (h : a ≤ b) : sc M a ≤ sc M b := by
  induction h with
  | refl => exact Nat.le_refl _
  | step _ ih => rw [Nat.succ_eq_add_one, sc_succ]; exact Nat.le_trans ih (Nat.le_add_right _ _)
theorem sc_lt (M : Nat) {a b : Nat} (h : a < b) : sc M a < sc M b := by
  have h1 := sc_mono M (show a + 1 ≤ b from h)
  have h2 := p2 (a / 2 ^ M - 1)
  rw [sc_succ] at h1
  omega
theorem sc_zero (M : Nat) : sc M 0 = 0 := by unfold sc am; simp
theorem sc_pos (M : Nat) {b : Nat} (h : 0 < b) : 0 < sc M b := by have := sc_lt M h; omega
theorem am_pos (M : Nat) {b : Nat} (h : 0 < b) : 0 < am M b := by
  have := sc_pos M h
  unfold sc at this
  exact Nat.pos_of_mul_pos_right this
theorem am_par {M b : Nat} (hM : 0 < M) : am M b % 2 = b % 2 := by
  obtain ⟨k, rfl⟩ : ∃ k, M = k + 1 := ⟨M - 1, by omega⟩
  have e : b % 2 ^ (k + 1) % 2 = b % 2 := by rw [Nat.pow_succ]; exact Nat.mod_mul_left_mod b (2 ^ k) 2
  unfold am
  split
  · exact e
  · rw [Nat.pow_succ] at e ⊢; omega
/-- the ends of the reach, in quarters of the least units -/
def lo (M b : Nat) : Nat := 2 * (sc M b + sc M (b - 1))
def hi (M b : Nat) : Nat := 2 * (sc M b + sc M (b + 1))
/-- is the next lesser one nearer? -/
def nr (M b : Nat) : Nat := if am M b = 2 ^ M ∧ 1 < b / 2 ^ M then 1 else 2
theorem hi_eq (M b : Nat) : hi M b = (4 * am M b + 2) * 2 ^ (b / 2 ^ M - 1) := by
  unfold hi
  rw [sc_succ]
  unfold sc
  rw [Nat.add_mul, Nat.mul_assoc]
  omega
theorem lo_eq (M b : Nat) (h : 0 < b) : lo M b = (4 * am M b - nr M b) * 2 ^ (b / 2 ^ M - 1) := by
  have hs := sc_succ M (b - 1)
  rw [show b - 1 + 1 = b by omega] at hs
  have ha := am_pos M h
  have hlo : lo M b + 2 * 2 ^ ((b - 1) / 2 ^ M - 1) = 4 * sc M b := by unfold lo; omega
  have key : 2 * 2 ^ ((b - 1) / 2 ^ M - 1) = nr M b * 2 ^ (b / 2 ^ M - 1) := by
    have e1 := Nat.div_add_mod b (2 ^ M)
    have e2 := Nat.mod_lt b (p2 M)
    have e3 := p2 M
    unfold nr
    by_cases hb : b % 2 ^ M = 0
    · have hx : 0 < b / 2 ^ M := by
        rcases Nat.eq_zero_or_pos (b / 2 ^ M) with z | z
        · rw [z, hb] at e1; omega
        · exact z
      have h1 : (b - 1) / 2 ^ M = b / 2 ^ M - 1 := by
        obtain ⟨y, hy⟩ : ∃ y, b / 2 ^ M = y + 1 := ⟨b / 2 ^ M - 1, by omega⟩
        rw [hy, Nat.mul_add] at e1
        have hb1 : b - 1 = 2 ^ M * y + (2 ^ M - 1) := by omega
        rw [hb1, Nat.mul_add_div e3, Nat.div_eq_of_lt (by omega), hy]
        omega
      have ham : am M b = 2 ^ M := by unfold am; rw [if_neg (by omega), hb, Nat.zero_add]
      rw [h1]
      by_cases hx1 : 1 < b / 2 ^ M
      · rw [if_pos ⟨ham, hx1⟩, Nat.one_mul]
        obtain ⟨y, hy⟩ : ∃ y, b / 2 ^ M = y + 2 := ⟨b / 2 ^ M - 2, by omega⟩
        rw [hy, show y + 2 - 1 - 1 = y by omega, show y + 2 - 1 = y + 1 by omega, Nat.pow_succ]
        omega
      · rw [if_neg (fun e => hx1 e.2), show b / 2 ^ M = 1 by omega]
    · have h1 : (b - 1) / 2 ^ M = b / 2 ^ M := by
        have hb1 : b - 1 = 2 ^ M * (b / 2 ^ M) + (b % 2 ^ M - 1) := by omega
        rw [hb1, Nat.mul_add_div e3, Nat.div_eq_of_lt (show b % 2 ^ M - 1 < 2 ^ M by omega), Nat.add_zero]
      have ham : ¬ (am M b = 2 ^ M ∧ 1 < b / 2 ^ M) := by
        rintro ⟨e, hx⟩
        unfold am at e
        rw [if_neg (by omega)] at e
        omega
      rw [h1, if_neg ham]
  rw [Nat.sub_mul, ← key, Nat.mul_assoc]
  have : am M b * 2 ^ (b / 2 ^ M - 1) = sc M b := rfl
  rw [this]
  omega
theorem lo_lt (M : Nat) {b : Nat} (h : 0 < b) : lo M b < 4 * sc M b := by
  have := sc_lt M (show b - 1 < b by omega)
  unfold lo
  omega
theorem hi_gt (M b : Nat) : 4 * sc M b < hi M b := by
  have := sc_lt M (show b < b + 1 by omega)
  unfold hi
  omega
/-- the reaches of two floats lie one behind the other -/
theorem hi_le_lo (M : Nat) {a b : Nat} (h : a < b) : hi M a ≤ lo M b ∧ (a + 1 < b → hi M a < lo M b) := by
  unfold hi lo
  have h1 := sc_mono M (show a + 1 ≤ b from h)
  have h2 := sc_mono M (show a ≤ b - 1 by omega)
  refine ⟨by omega, fun h3 => ?_⟩
  have := sc_lt M h3
  omega
/-- from binary to decimal: a factor and a shift -/
def sf (Z w : Nat) : Nat := if Z ≤ w then 2 ^ (w - Z) else 5 ^ (Z - w)
def un (Z w : Nat) : Nat := if Z ≤ w then Z else w
theorem sf_pos (Z w : Nat) : 0 < sf Z w := by unfold sf; split <;> exact Nat.pow_pos (by omega)
theorem sf_un (Z w : Nat) : sf Z w * 10 ^ un Z w = 2 ^ w * 5 ^ Z := by
  unfold sf un
  split
  · next h => rw [show (10 : Nat) = 2 * 5 from rfl, Nat.mul_pow, ← Nat.mul_assoc, ← Nat.pow_add, Nat.sub_add_cancel h]
  · next h =>
    rw [show (10 : Nat) = 2 * 5 from rfl, Nat.mul_pow, Nat.mul_comm (2 ^ w), ← Nat.mul_assoc, ← Nat.pow_add, Nat.sub_add_cancel (by omega), Nat.mul_comm]
theorem win_mul {l h x T : Nat} {ends : Bool} (hT : 0 < T) : win ends (l * T) (h * T) (x * T) = win ends l h x := by
  unfold win
  have a1 : ∀ a b : Nat, decide (a * T ≤ b * T) = decide (a ≤ b) := fun a b => by simp only [Nat.mul_le_mul_right_iff hT]
  have a2 : ∀ a b : Nat, decide (a * T < b * T) = decide (a < b) := fun a b => by simp only [Nat.mul_lt_mul_right hT]
  rw [a1, a1, a2, a2]
/-- the fewest digits, as a whole number of 10^-unit -/
def fF (M Z b : Nat) : Nat :=
  few ((4 * am M b - nr M b) * sf Z (b / 2 ^ M - 1)) (4 * am M b * sf Z (b / 2 ^ M - 1)) ((4 * am M b + 2) * sf Z (b / 2 ^ M - 1)) (decide (am M b % 2 = 0))
    ((decDigits (4 * am M b * sf Z (b / 2 ^ M - 1))).length - 1)
theorem nr_le (M b : Nat) : 0 < nr M b ∧ nr M b ≤ 2 := by unfold nr; split <;> omega
theorem fF_win (M Z : Nat) {b : Nat} (hM : 0 < M) (h : 0 < b) : win (decide (b % 2 = 0)) (lo M b * 5 ^ Z) (hi M b * 5 ^ Z) (fF M Z b * 10 ^ un Z (b / 2 ^ M - 1)) = true := by
  have ha := am_pos M h
  have hn := nr_le M b
  have hp := sf_pos Z (b / 2 ^ M - 1)
  have e := sf_un Z (b / 2 ^ M - 1)
  rw [lo_eq M b h, hi_eq M b, Nat.mul_assoc, ← e, ← Nat.mul_assoc, Nat.mul_assoc (4 * am M b + 2), ← e, ← Nat.mul_assoc, win_mul (p10 _), ← am_par hM]
  exact few_win (Nat.mul_lt_mul_of_pos_right (by omega) hp) (Nat.mul_lt_mul_of_pos_right (by omega) hp) _
/-- THE DIGITS STAND AS THE FLOATS DO -/
theorem fF_lt (M Z : Nat) {a b : Nat} (hM : 0 < M) (ha : 0 < a) (h : a < b) : fF M Z a * 10 ^ un Z (a / 2 ^ M - 1) < fF M Z b * 10 ^ un Z (b / 2 ^ M - 1) := by
  have w1 := fF_win M Z hM ha
  have w2 := fF_win M Z hM (Nat.lt_trans ha h)
  obtain ⟨h1, h2⟩ := hi_le_lo M h
  have h3 : hi M a * 5 ^ Z ≤ lo M b * 5 ^ Z := Nat.mul_le_mul_right _ h1
  have h4 : a + 1 < b → hi M a * 5 ^ Z < lo M b * 5 ^ Z := fun hh => Nat.mul_lt_mul_of_pos_right (h2 hh) (Nat.pow_pos (by omega))
  have hpar : a + 1 < b ∨ a % 2 = 1 ∨ b % 2 = 1 := by omega
  generalize fF M Z a * 10 ^ un Z (a / 2 ^ M - 1) = S at *
  generalize fF M Z b * 10 ^ un Z (b / 2 ^ M - 1) = T at *
  generalize hi M a * 5 ^ Z = H at *
  generalize lo M b * 5 ^ Z = L at *
  unfold win at w1 w2
  by_cases pa : a % 2 = 0 <;> by_cases pb : b % 2 = 0 <;> simp [pa, pb] at w1 w2 <;> rcases hpar with hp | hp | hp <;> first | omega | (have := h4 hp; omega)
end Go.Proofs.YtkanddmihmdagaaGreatDoor.Sp

/- Layer 3, plain: how many digits there are, and their exponents; all digits: no program in sight. -/
set_option linter.unusedSimpArgs false
set_option linter.unusedVariables false
namespace Go.Proofs.YtkanddmihmdagaaGreatDoor.Sp
open Go.Lib Go.Proofs.YtkanddmihmdagaaGreatDoor.Td

theorem am_lt (M b : Nat) : am M b < 2 ^ (M + 1) := by
  have e2 := Nat.mod_lt b (p2 M)
  unfold am
  rw [Nat.pow_succ]
  split <;> omega
theorem dec_lower {a : Nat} (h : a ≠ 0) : 10 ^ ((decDigits a).length - 1) ≤ a := by
  induction a using Nat.strongRecOn with
  | _ a ih =>
    by_cases h10 : a < 10
    · rw [dec_small h10]; simp; omega
    · have hl := dec_len_pos (a / 10)
      have := ih (a / 10) (by omega) (by omega)
      rw [dec_big h10, List.length_append, List.length_singleton, Nat.add_sub_cancel]
      obtain ⟨k, hk⟩ : ∃ k, (decDigits (a / 10)).length = k + 1 := ⟨(decDigits (a / 10)).length - 1, by omega⟩
      rw [hk, Nat.add_sub_cancel] at this
      rw [hk, Nat.pow_succ]
      omega
theorem dec_upper (a : Nat) : a < 10 ^ (decDigits a).length := by
  have := nv_lt (dec_isDig a)
  rwa [nv_dec] at this
/-- the fewest digits that tell a float are at most 17, or 9 -/
theorem fF_len {M Z b s : Nat} (h : 0 < b) (hs : 0 < s) (h1 : 2 ^ (M + 1) < 10 ^ (s - 1)) : (cd (fF M Z b)).length ≤ s := by
  have ha := am_pos M h
  have hn := nr_le M b
  have hp := sf_pos Z (b / 2 ^ M - 1)
  have hl := am_lt M b
  have hnr : nr M b = 1 → am M b = 2 ^ M := by unfold nr; split <;> simp_all
  unfold fF
  generalize sf Z (b / 2 ^ M - 1) = p at *
  have hm : 4 * am M b * p ≠ 0 := Nat.mul_ne_zero (by omega) (by omega)
  refine few_len (Nat.mul_lt_mul_of_pos_right (by omega) hp) (Nat.mul_lt_mul_of_pos_right (by omega) hp) hs (dec_upper _) (dec_len_pos _) (fun hD => ?_)
  have h2 := dec_lower hm
  obtain ⟨j, hj⟩ : ∃ j, (decDigits (4 * am M b * p)).length = s + j := ⟨(decDigits (4 * am M b * p)).length - s, by omega⟩
  rw [hj, show s + j - 1 = (s - 1) + j by omega, Nat.pow_add] at h2
  rw [hj, show s + j - s = j by omega, ← Nat.sub_mul, ← Nat.sub_mul, show 4 * am M b - (4 * am M b - nr M b) = nr M b by omega, show 4 * am M b + 2 - 4 * am M b = 2 by omega]
  rw [Nat.pow_succ] at h1 hl
  have hpm := p2 M
  generalize 10 ^ (s - 1) = S at *
  generalize 10 ^ j = t at *
  generalize 2 ^ M = P at *
  generalize am M b = a at *
  generalize nr M b = k at *
  have h3 : (P * 2 + 1) * t ≤ S * t := Nat.mul_le_mul_right _ h1
  have h4 : a * p ≤ (P * 2) * p := Nat.mul_le_mul_right _ (by omega)
  have h5 : P * 2 * t + t ≤ 4 * (a * p) := by rw [Nat.add_mul, Nat.one_mul] at h3; rw [Nat.mul_assoc] at h2; omega
  have h7 : t < 4 * p := by
    refine Nat.lt_of_not_le fun hc => ?_
    have : P * 2 * (4 * p) ≤ P * 2 * t := Nat.mul_le_mul_left _ hc
    rw [Nat.mul_left_comm] at this
    omega
  refine ⟨?_, by omega⟩
  rcases (show k = 1 ∨ k = 2 by omega) with rfl | rfl
  · obtain rfl := hnr rfl
    refine Nat.lt_of_not_le fun hc => ?_
    have : a * 2 * (p * 2) ≤ a * 2 * t := Nat.mul_le_mul_left _ (by omega)
    rw [Nat.mul_mul_mul_comm] at this
    omega
  · omega
/-- all digits, as a whole number of 10^-unit -/
def xF (M Z b : Nat) : Nat := am M b * sf Z (b / 2 ^ M - 1)
theorem xF_sc (M Z b : Nat) : xF M Z b * 10 ^ un Z (b / 2 ^ M - 1) = sc M b * 5 ^ Z := by
  unfold xF sc
  rw [Nat.mul_assoc, sf_un, Nat.mul_assoc]
theorem xF_lt (M Z : Nat) {a b : Nat} (h : a < b) : xF M Z a * 10 ^ un Z (a / 2 ^ M - 1) < xF M Z b * 10 ^ un Z (b / 2 ^ M - 1) := by
  rw [xF_sc, xF_sc]
  exact Nat.mul_lt_mul_of_pos_right (sc_lt M h) (Nat.pow_pos (by omega))
/-- the digits' number and the noughts behind -/
theorem nv_cd (a : Nat) : nv 0 (cd a) * 10 ^ tz a = a := by
  by_cases h : a = 0
  · subst h; rw [cd_zero, nv_nil, Nat.zero_mul]
  · obtain ⟨b, e, hb⟩ := tz_spec a h
    generalize tz a = j at *
    subst e
    rw [cd_of hb, nv_dec]
/-- a number at a unit that is not above its exponent, and at the common one -/
theorem number_at {a n Z u k : Nat} (h0 : a ≠ 0) (h : ((ce a ((n : Int) - Z)) - ((u : Int) - Z)) = k) : nv 0 (cd a) * 10 ^ k * 10 ^ u = a * 10 ^ n := by
  have e := nv_cd a
  unfold ce at h
  rw [if_neg h0] at h
  rw [Nat.mul_assoc, ← Nat.pow_add, show k + u = tz a + n by omega, Nat.pow_add, ← Nat.mul_assoc, e]
/-- how far the exponent reaches -/
theorem ce_range {a n Z T : Nat} (h0 : a ≠ 0) (h : a * 10 ^ n < 10 ^ T) : -(Z : Int) ≤ ce a ((n : Int) - Z) ∧ ce a ((n : Int) - Z) < (T : Int) - Z := by
  obtain ⟨b, e, hb⟩ := tz_spec a h0
  have hb0 : 0 < b := Nat.pos_of_ne_zero fun e => hb (by rw [e])
  unfold ce
  rw [if_neg h0]
  generalize tz a = j at *
  subst e
  refine ⟨by omega, ?_⟩
  rw [Nat.mul_assoc, ← Nat.pow_add] at h
  have h1 : 1 * 10 ^ (j + n) ≤ b * 10 ^ (j + n) := Nat.mul_le_mul_right _ hb0
  rw [Nat.one_mul] at h1
  have := (Nat.pow_lt_pow_iff_right (a := 10) (by omega)).1 (Nat.lt_of_le_of_lt h1 h)
  omega
end Go.Proofs.YtkanddmihmdagaaGreatDoor.Sp

/- Layer 3, plain: a float of the narrow width, taken as one of the wide width, never has fewer of the fewest digits: no program in sight. -/
set_option linter.unusedSimpArgs false
set_option linter.unusedVariables false
namespace Go.Proofs.YtkanddmihmdagaaGreatDoor.Sp
open Go.Lib Go.Proofs.YtkanddmihmdagaaGreatDoor.Td

theorem dec_len_eq {a k : Nat} (h1 : 10 ^ k ≤ a) (h2 : a < 10 ^ (k + 1)) : (decDigits a).length = k + 1 := by
  have ha : a ≠ 0 := by have := p10 k; omega
  have h3 := dec_lower ha
  have h4 := dec_upper a
  have h5 := dec_len_pos a
  have h6 := (Nat.pow_lt_pow_iff_right (a := 10) (by omega)).1 (Nat.lt_of_le_of_lt h1 h4)
  have h7 := (Nat.pow_lt_pow_iff_right (a := 10) (by omega)).1 (Nat.lt_of_le_of_lt h3 h2)
  omega
theorem hit_ge {l m h t x D : Nat} {ends : Bool} (e : hit l m h ends t = some x) (ht : t ∣ 10 ^ D) (hm : 10 ^ D ≤ m) (h0 : 0 < t) : 10 ^ D ≤ x := by
  have h1 : 10 ^ D ≤ m / t * t := by
    obtain ⟨j, hj⟩ := ht
    rw [hj] at hm ⊢
    have : j ≤ m / t := by rw [Nat.le_div_iff_mul_le h0, Nat.mul_comm]; exact hm
    rw [Nat.mul_comm]
    exact Nat.mul_le_mul_right _ this
  unfold hit at e
  split at e
  · injection e with e; omega
  · split at e
    · injection e with e; omega
    · cases e
theorem few_ge {l m h D : Nat} {ends : Bool} (hm : 10 ^ D ≤ m) : ∀ K, K ≤ D → 10 ^ D ≤ few l m h ends K
  | 0, _ => hm
  | K + 1, hk => by
    cases e : hit l m h ends (10 ^ (K + 1)) with
    | some y => rw [few_some e]; exact hit_ge e (Nat.pow_dvd_pow 10 hk) hm (p10 _)
    | none => rw [few_none e]; exact few_ge hm K (by omega)
/-- the middle amount, as a whole number of 10^-unit -/
def mF (M Z b : Nat) : Nat := 4 * am M b * sf Z (b / 2 ^ M - 1)
theorem mF_sc (M Z b : Nat) : mF M Z b * 10 ^ un Z (b / 2 ^ M - 1) = 4 * sc M b * 5 ^ Z := by
  unfold mF sc
  rw [Nat.mul_assoc, sf_un, ← Nat.mul_assoc, Nat.mul_assoc 4]
theorem mF_pos (M Z : Nat) {b : Nat} (h : 0 < b) : 0 < mF M Z b := by
  have := am_pos M h
  exact Nat.mul_pos (by omega) (sf_pos _ _)
theorem fF_ge {M Z b : Nat} (h : 0 < b) : 10 ^ ((decDigits (mF M Z b)).length - 1) ≤ fF M Z b := few_ge (dec_lower (Nat.ne_of_gt (mF_pos M Z h))) _ (Nat.le_refl _)
theorem fF_le {M Z b : Nat} (h : 0 < b) : fF M Z b ≤ 10 ^ (decDigits (mF M Z b)).length := few_le (dec_upper _) _ (by omega)
theorem cd_upper {a : Nat} (h : a ≠ 0) : a < 10 ^ ((cd a).length + tz a) := by
  obtain ⟨b, e, hb⟩ := tz_spec a h
  generalize tz a = j at *
  subst e
  rw [cd_of hb, Nat.pow_add]
  exact Nat.mul_lt_mul_of_pos_right (dec_upper b) (p10 _)
theorem cd_dvd (a : Nat) : 10 ^ tz a ∣ a := by
  have := nv_cd a
  exact ⟨nv 0 (cd a), by rw [Nat.mul_comm]; exact this.symm⟩
/-- two rows of digits of one amount: where they stand -/
theorem same_top {m m' u u' : Nat} (hm : 0 < m) (hm' : 0 < m') (e : m * 10 ^ u = m' * 10 ^ u') : (decDigits m).length + u = (decDigits m').length + u' := by
  have a1 := dec_lower (Nat.ne_of_gt hm)
  have a2 := dec_upper m
  have b1 := dec_lower (Nat.ne_of_gt hm')
  have b2 := dec_upper m'
  have c1 := dec_len_pos m
  have c2 := dec_len_pos m'
  have d1 := Nat.mul_le_mul_right (10 ^ u) a1
  have d2 := Nat.mul_lt_mul_of_pos_right a2 (p10 u)
  have d3 := Nat.mul_le_mul_right (10 ^ u') b1
  have d4 := Nat.mul_lt_mul_of_pos_right b2 (p10 u')
  rw [← Nat.pow_add] at d1 d2 d3 d4
  rw [e] at d1 d2
  have e1 := (Nat.pow_lt_pow_iff_right (a := 10) (by omega)).1 (Nat.lt_of_le_of_lt d1 d4)
  have e2 := (Nat.pow_lt_pow_iff_right (a := 10) (by omega)).1 (Nat.lt_of_le_of_lt d3 d2)
  omega
theorem win_in {ends ends' : Bool} {l h l' h' x : Nat} (hl : l < l') (hh : h' < h) (hw : win ends' l' h' x = true) : win ends l h x = true := by
  unfold win at *
  cases ends <;> cases ends' <;> simp at * <;> omega
/-- A NARROW FLOAT TAKEN AS A WIDE ONE NEVER HAS FEWER -/
theorem widens {M Z b M' b' E : Nat} (hM' : 0 < M') (hb : 0 < b) (hb' : 0 < b') (hm : sc M' b' = sc M b * 2 ^ E) (hlo : lo M b * 2 ^ E < lo M' b') (hhi : hi M' b' < hi M b * 2 ^ E) :
    (cd (fF M Z b)).length ≤ (cd (fF M' (Z + E) b')).length := by
  have w := fF_win M' (Z + E) hM' hb'
  have hge := fF_ge (M := M') (Z := Z + E) hb'
  have em : mF M' (Z + E) b' * 10 ^ un (Z + E) (b' / 2 ^ M' - 1) = mF M Z b * 10 ^ (un Z (b / 2 ^ M - 1) + E) := by
    rw [mF_sc, Nat.pow_add 10, ← Nat.mul_assoc, mF_sc, hm, show (10 : Nat) = 2 * 5 from rfl, Nat.mul_pow 2 5 E, Nat.pow_add 5]
    simp [Nat.mul_assoc, Nat.mul_comm, Nat.mul_left_comm]
  have top := same_top (mF_pos M' (Z + E) hb') (mF_pos M Z hb) em
  have hne : fF M' (Z + E) b' ≠ 0 := by have := p10 ((decDigits (mF M' (Z + E) b')).length - 1); omega
  have hup := cd_upper hne
  have hnv := nv_cd (fF M' (Z + E) b')
  have hs : 0 < (cd (fF M' (Z + E) b')).length := by
    rcases Nat.eq_zero_or_pos (cd (fF M' (Z + E) b')).length with z | z
    · exact absurd (cd_nil.1 (List.eq_nil_of_length_eq_zero z)) hne
    · exact z
  have c1 := dec_len_pos (mF M Z b)
  have c2 := dec_len_pos (mF M' (Z + E) b')
  generalize fF M' (Z + E) b' = F at *
  have hst := (Nat.pow_lt_pow_iff_right (a := 10) (by omega)).1 (Nat.lt_of_le_of_lt hge hup)
  generalize (cd F).length = s at *
  generalize nv 0 (cd F) = β at *
  generalize tz F = j at *
  subst hnv
  have hD := mF_pos M Z hb
  rcases Nat.lt_or_ge s (decDigits (mF M Z b)).length with hsD | hsD
  · obtain ⟨q, hq⟩ : ∃ q, j + un (Z + E) (b' / 2 ^ M' - 1) = q + (un Z (b / 2 ^ M - 1) + E) := ⟨j + un (Z + E) (b' / 2 ^ M' - 1) - (un Z (b / 2 ^ M - 1) + E), by omega⟩
    have hqD : (decDigits (mF M Z b)).length - s ≤ q := by omega
    have w2 : win (decide (am M b % 2 = 0)) ((4 * am M b - nr M b) * sf Z (b / 2 ^ M - 1)) ((4 * am M b + 2) * sf Z (b / 2 ^ M - 1)) (β * 10 ^ q) = true := by
      rw [← win_mul (T := 10 ^ (un Z (b / 2 ^ M - 1) + E)) (p10 _)]
      have k1 : ∀ c : Nat, c * sf Z (b / 2 ^ M - 1) * 10 ^ (un Z (b / 2 ^ M - 1) + E) = c * 2 ^ (b / 2 ^ M - 1) * 2 ^ E * 5 ^ (Z + E) := fun c => by
        rw [Nat.pow_add 10, ← Nat.mul_assoc, Nat.mul_assoc c, sf_un, show (10 : Nat) = 2 * 5 from rfl, Nat.mul_pow 2 5 E, Nat.pow_add 5]
        simp [Nat.mul_assoc, Nat.mul_comm, Nat.mul_left_comm]
      have k2 : β * 10 ^ q * 10 ^ (un Z (b / 2 ^ M - 1) + E) = β * 10 ^ j * 10 ^ un (Z + E) (b' / 2 ^ M' - 1) := by
        rw [Nat.mul_assoc, ← Nat.pow_add, ← hq, Nat.pow_add, ← Nat.mul_assoc]
      rw [k1, k1, ← lo_eq M b hb, ← hi_eq, k2]
      exact win_in (Nat.mul_lt_mul_of_pos_right hlo (Nat.pow_pos (by omega))) (Nat.mul_lt_mul_of_pos_right hhi (Nat.pow_pos (by omega))) w
    have hdv : 10 ^ ((decDigits (mF M Z b)).length - s) ∣ β * 10 ^ q := Nat.dvd_trans (Nat.pow_dvd_pow 10 hqD) (Nat.dvd_mul_left _ _)
    have ha := am_pos M hb
    have hn := nr_le M b
    have hp := sf_pos Z (b / 2 ^ M - 1)
    have hd2 : 10 ^ ((decDigits (mF M Z b)).length - s) ∣ fF M Z b :=
      few_dvd (Nat.mul_lt_mul_of_pos_right (by omega) hp) (Nat.mul_lt_mul_of_pos_right (by omega) hp) hdv w2 _ (show (decDigits (mF M Z b)).length - s ≤ (decDigits (mF M Z b)).length - 1 by omega)
    have := cd_len hd2 (by omega) (fF_le hb)
    omega
  · have := cd_len (k := 0) (Nat.one_dvd _) (by omega) (fF_le (Z := Z) hb)
    omega
end Go.Proofs.YtkanddmihmdagaaGreatDoor.Sp

/- Layer 3, plain: the reference's choice is the same; the digits of some floats (the laws' awake); one more; bounds: no program in sight. -/
set_option linter.unusedSimpArgs false
set_option linter.unusedVariables false
namespace Go.Proofs.YtkanddmihmdagaaGreatDoor.Sp
open Go.Lib Go.Proofs.YtkanddmihmdagaaGreatDoor.Td

/-- the document's choice is the same -/
theorem hit_ref (l m h t : Nat) (ends : Bool) :
    (if win ends l h (m / t * t) && (!win ends l h (m / t * t + t) || (decide (2 * (m % t) < t) || decide (2 * (m % t) = t) && !decide (m / t % 2 = 1))) then some (m / t * t)
      else if win ends l h (m / t * t + t) then some (m / t * t + t) else none) = hit l m h ends t := by
  unfold hit
  have e : decide (t < 2 * (m % t)) = (!decide (2 * (m % t) < t) && !decide (2 * (m % t) = t)) := by
    by_cases h1 : t < 2 * (m % t)
    · simp [h1]; omega
    · by_cases h2 : 2 * (m % t) = t
      · simp [h2]
      · have : 2 * (m % t) < t := by omega
        simp [h1, this]
  rw [e]
  have e2 : decide (2 * (m % t) < t) = true → decide (2 * (m % t) = t) = false := by simp; omega
  generalize win ends l h (m / t * t) = a
  generalize win ends l h (m / t * t + t) = b
  generalize decide (2 * (m % t) < t) = c at *
  generalize decide (2 * (m % t) = t) = d at *
  generalize decide (m / t % 2 = 1) = o
  revert e2
  cases a <;> cases b <;> cases c <;> cases d <;> cases o <;> simp
theorem fF_at {M Z b k x : Nat} (h1 : 10 ^ (k + 1) ≤ mF M Z b) (h2 : mF M Z b < 10 ^ (k + 1 + 1))
    (h3 : hit ((4 * am M b - nr M b) * sf Z (b / 2 ^ M - 1)) (4 * am M b * sf Z (b / 2 ^ M - 1)) ((4 * am M b + 2) * sf Z (b / 2 ^ M - 1)) (decide (am M b % 2 = 0)) (10 ^ (k + 1)) = some x) : fF M Z b = x := by
  have e := dec_len_eq h1 h2
  unfold fF
  unfold mF at e
  rw [e, Nat.add_sub_cancel]
  exact few_some h3
theorem form_at {a b k Z u : Nat} {l : List UInt8} {n : Int} (h : a = b * 10 ^ k) (hb : b % 10 ≠ 0) (hl : decDigits b = l) (hn : (u : Int) - Z + k = n) : cd a = l ∧ ce a ((u : Int) - Z) = n := by
  subst h
  rw [cd_of hb, ce_of hb]
  exact ⟨hl, hn⟩
theorem awake1 : cd (fF 52 1076 0x3fb999999999999a) = [49] ∧ ce (fF 52 1076 0x3fb999999999999a) ((un 1076 (0x3fb999999999999a / 2 ^ 52 - 1) : Nat) - (1076 : Nat)) = -1 :=
  form_at (b := 1) (k := 57) (fF_at (k := 56) (by decide +kernel) (by decide +kernel) (by decide +kernel)) (by decide) (dec_small (by omega)) (by decide +kernel)
theorem awake2 : cd (fF 52 1076 1) = [53] ∧ ce (fF 52 1076 1) ((un 1076 (1 / 2 ^ 52 - 1) : Nat) - (1076 : Nat)) = -324 :=
  form_at (b := 5) (k := 752) (fF_at (k := 751) (by decide +kernel) (by decide +kernel) (by decide +kernel)) (by decide) (dec_small (by omega)) (by decide +kernel)
theorem awake3 : cd (fF 23 151 0x3dcccccd) = [49] ∧ ce (fF 23 151 0x3dcccccd) ((un 151 (0x3dcccccd / 2 ^ 23 - 1) : Nat) - (151 : Nat)) = -1 :=
  form_at (b := 1) (k := 28) (fF_at (k := 27) (by decide +kernel) (by decide +kernel) (by decide +kernel)) (by decide) (dec_small (by omega)) (by decide +kernel)
theorem awake4 : cd (fF 23 151 1) = [49] ∧ ce (fF 23 151 1) ((un 151 (1 / 2 ^ 23 - 1) : Nat) - (151 : Nat)) = -45 :=
  form_at (b := 1) (k := 106) (fF_at (k := 105) (by decide +kernel) (by decide +kernel) (by decide +kernel)) (by decide) (dec_small (by omega)) (by decide +kernel)
theorem awake5 : cd (xF 52 1074 0x3fe0000000000000) = [53] ∧ ce (xF 52 1074 0x3fe0000000000000) ((un 1074 (0x3fe0000000000000 / 2 ^ 52 - 1) : Nat) - (1074 : Nat)) = -1 :=
  form_at (b := 5) (k := 52) (by decide +kernel) (by decide) (dec_small (by omega)) (by decide +kernel)
theorem awake6 : cd (xF 23 149 0x3f000000) = [53] ∧ ce (xF 23 149 0x3f000000) ((un 149 (0x3f000000 / 2 ^ 23 - 1) : Nat) - (149 : Nat)) = -1 :=
  form_at (b := 5) (k := 23) (by decide +kernel) (by decide) (dec_small (by omega)) (by decide +kernel)
/-- one more, from behind: k nines, then a digit that is none -/
theorem more_dd {n k v : Nat} (h : v % 10 ^ k = 10 ^ k - 1) : dd (n + k) (v + 1) = dd n (v / 10 ^ k + 1) ++ List.replicate k 48 := by
  have e := Nat.div_add_mod v (10 ^ k)
  have hp := p10 k
  rw [dd_noughts, Nat.add_mul, Nat.one_mul, Nat.mul_comm (v / 10 ^ k)]
  congr 1
  omega
theorem sc_lt_top {M b w : Nat} (h : b / 2 ^ M - 1 ≤ w) : sc M b < 2 ^ (M + 1 + w) := by
  unfold sc
  rw [Nat.pow_add 2 (M + 1)]
  exact Nat.lt_of_lt_of_le (Nat.mul_lt_mul_of_pos_right (am_lt M b) (p2 _)) (Nat.mul_le_mul_left _ (Nat.pow_le_pow_right (by omega) h))
/-- all digits of a wide float are at most 767 -/
theorem xF_len {b : Nat} (h : b / 2 ^ 52 < 2047) : (cd (xF 52 1074 b)).length ≤ 767 := by
  have hl := am_lt 52 b
  have hx : xF 52 1074 b ≤ 10 ^ 767 := by
    unfold xF sf
    split
    · refine Nat.le_trans (Nat.mul_le_mul (Nat.le_of_lt hl) (Nat.pow_le_pow_right (by omega) (show b / 2 ^ 52 - 1 - 1074 ≤ 971 by omega))) ?_
      decide +kernel
    · refine Nat.le_trans (Nat.mul_le_mul (Nat.le_of_lt hl) (Nat.pow_le_pow_right (by omega) (show 1074 - (b / 2 ^ 52 - 1) ≤ 1074 by omega))) ?_
      decide +kernel
  have := cd_len (k := 0) (D := 767) (Nat.one_dvd _) (by omega) hx
  omega
end Go.Proofs.YtkanddmihmdagaaGreatDoor.Sp

/- Layer 3, plain: what the laws ask of digits: their form, their exponents' bounds, numbers at one unit: no program in sight. -/
set_option linter.unusedSimpArgs false
set_option linter.unusedVariables false
namespace Go.Proofs.YtkanddmihmdagaaGreatDoor.Sp
open Go.Lib Go.Proofs.YtkanddmihmdagaaGreatDoor.Td

theorem cd_isDig (a : Nat) : ∀ c ∈ cd a, isDig c := by
  unfold cd
  split
  · intro c h; simp at h
  · exact dec_isDig _
theorem cd_ends {a : Nat} (h : a ≠ 0) : (∃ c r, cd a = c :: r ∧ (c == 48) = false) ∧ ∃ r c, cd a = r ++ [c] ∧ (c == 48) = false := by
  obtain ⟨b, e, hb⟩ := tz_spec a h
  generalize tz a = j at *
  subst e
  rw [cd_of hb]
  exact ⟨dec_head b (fun e => hb (by rw [e])), dec_last hb⟩
theorem win_le {l h x : Nat} {ends : Bool} (hw : win ends l h x = true) : x ≤ h := by
  unfold win at hw
  cases ends <;> simp at hw <;> omega
/-- how far the exponents of a wide float's fewest digits reach -/
theorem fF_exp {b : Nat} (h0 : 0 < b) (h : b / 2 ^ 52 < 2047) : -(1076 : Int) ≤ ce (fF 52 1076 b) ((un 1076 (b / 2 ^ 52 - 1) : Nat) - (1076 : Nat)) ∧ ce (fF 52 1076 b) ((un 1076 (b / 2 ^ 52 - 1) : Nat) - (1076 : Nat)) < 309 := by
  have hw : b / 2 ^ 52 - 1 ≤ 2045 := by omega
  have w := fF_win 52 1076 (by decide) h0
  have hs := sc_lt_top (M := 52) (b := b) hw
  have hn := sc_succ 52 b
  have hp := Nat.pow_le_pow_right (n := 2) (by decide) hw
  have hpp := Nat.pow_le_pow_right (n := 2) (by decide) (show 2045 ≤ 52 + 1 + 2045 by decide)
  have hh : hi 52 b ≤ 8 * 2 ^ (52 + 1 + 2045) := by
    unfold hi
    rw [hn]
    generalize 2 ^ (b / 2 ^ 52 - 1) = p at *
    generalize 2 ^ 2045 = P at *
    generalize 2 ^ (52 + 1 + 2045) = Q at *
    omega
  have hlt : fF 52 1076 b * 10 ^ un 1076 (b / 2 ^ 52 - 1) < 10 ^ 1385 := by
    have h1 : fF 52 1076 b * 10 ^ un 1076 (b / 2 ^ 52 - 1) ≤ hi 52 b * 5 ^ 1076 := by
      exact win_le w
    refine Nat.lt_of_le_of_lt (Nat.le_trans h1 (Nat.mul_le_mul_right _ hh)) ?_
    decide +kernel
  have hne : fF 52 1076 b ≠ 0 := by have := fF_ge (M := 52) (Z := 1076) h0; have := p10 ((decDigits (mF 52 1076 b)).length - 1); omega
  have := ce_range (Z := 1076) hne hlt
  clear w hh hpp hp hn hs hlt
  omega
theorem xF_pos {M Z b : Nat} (h : 0 < b) : xF M Z b ≠ 0 := Nat.mul_ne_zero (Nat.ne_of_gt (am_pos M h)) (Nat.ne_of_gt (sf_pos _ _))
theorem fF_pos {M Z b : Nat} (h : 0 < b) : fF M Z b ≠ 0 := by
  have := fF_ge (M := M) (Z := Z) h
  have := p10 ((decDigits (mF M Z b)).length - 1)
  omega
theorem xF_exp {b : Nat} (h0 : 0 < b) (h : b / 2 ^ 52 < 2047) : -(1074 : Int) ≤ ce (xF 52 1074 b) ((un 1074 (b / 2 ^ 52 - 1) : Nat) - (1074 : Nat)) ∧ ce (xF 52 1074 b) ((un 1074 (b / 2 ^ 52 - 1) : Nat) - (1074 : Nat)) < 309 := by
  have hs := sc_lt_top (M := 52) (b := b) (w := 2045) (by omega)
  have hlt : xF 52 1074 b * 10 ^ un 1074 (b / 2 ^ 52 - 1) < 10 ^ 1383 := by
    rw [xF_sc]
    refine Nat.lt_of_le_of_lt (Nat.mul_le_mul_right _ (Nat.le_of_lt hs)) ?_
    decide +kernel
  have := ce_range (Z := 1074) (xF_pos (M := 52) (Z := 1074) h0) hlt
  omega
/-- digits and an exponent say a whole number of 10^-Z -/
def Rep (Z : Nat) (l : List UInt8) (E : Int) (A : Nat) : Prop := ∃ k : Nat, (k : Int) = E + Z ∧ nv 0 l * 10 ^ k = A
theorem rep_of (a n Z x : Nat) : Rep (Z + x) (cd a) (ce a ((n : Int) - Z)) (a * 10 ^ n * 10 ^ x) := by
  by_cases h : a = 0
  · subst h
    exact ⟨Z + x, by rw [ce_zero]; omega, by rw [cd_zero, nv_nil, Nat.zero_mul, Nat.zero_mul, Nat.zero_mul]⟩
  · refine ⟨tz a + n + x, ?_, ?_⟩
    · unfold ce
      rw [if_neg h]
      omega
    · rw [Nat.pow_add, Nat.pow_add, ← Nat.mul_assoc, ← Nat.mul_assoc, nv_cd]
/-- the number at a unit between -/
theorem Rep.number {Z A k u : Nat} {l : List UInt8} {E unit : Int} (h : Rep Z l E A) (hu : (u : Int) = unit + Z) (hk : (k : Int) = E - unit) : nv 0 l * 10 ^ k * 10 ^ u = A := by
  obtain ⟨j, hj, e⟩ := h
  rw [Nat.mul_assoc, ← Nat.pow_add, show k + u = j by omega, e]
/-- numbers at one unit stand as what they say -/
theorem Rep.lt {Z A B u k j : Nat} {l m : List UInt8} {E F unit : Int} (h : Rep Z l E A) (h' : Rep Z m F B) (hu : (u : Int) = unit + Z) (hk : (k : Int) = E - unit) (hj : (j : Int) = F - unit) :
    (nv 0 l * 10 ^ k < nv 0 m * 10 ^ j ↔ A < B) := by
  rw [← h.number hu hk, ← h'.number hu hj]
  exact (Nat.mul_lt_mul_right (p10 u)).symm
/-- a wide float's digits, fewest and all, in one scale -/
theorem rep_f (b : Nat) : Rep 1076 (cd (fF 52 1076 b)) (ce (fF 52 1076 b) ((un 1076 (b / 2 ^ 52 - 1) : Nat) - (1076 : Nat))) (fF 52 1076 b * 10 ^ un 1076 (b / 2 ^ 52 - 1)) := by
  have := rep_of (fF 52 1076 b) (un 1076 (b / 2 ^ 52 - 1)) 1076 0
  rwa [Nat.pow_zero, Nat.mul_one, Nat.add_zero] at this
set_option exponentiation.threshold 2000 in
theorem rep_x (b : Nat) : Rep 1076 (cd (xF 52 1074 b)) (ce (xF 52 1074 b) ((un 1074 (b / 2 ^ 52 - 1) : Nat) - (1074 : Nat))) (4 * sc 52 b * 5 ^ 1076) := by
  have := rep_of (xF 52 1074 b) (un 1074 (b / 2 ^ 52 - 1)) 1074 2
  have k : ∀ y : Nat, y * 5 ^ 1074 * 10 ^ 2 = 4 * y * 5 ^ 1076 := fun y => by
    rw [show 5 ^ 1076 = 5 ^ 1074 * 5 ^ 2 from Nat.pow_add 5 1074 2, Nat.mul_right_comm y, Nat.mul_comm 4 y, ← Nat.mul_assoc, Nat.mul_right_comm (y * 4)]
    congr 1
    omega
  rw [xF_sc, k] at this
  exact this
/-- THE FEWEST DIGITS LIE NEARER TO THEIR FLOAT -/
theorem near {b : Nat} (h : 0 < b) : (b % 2 = 1 → 4 * sc 52 (b - 1) * 5 ^ 1076 + 4 * sc 52 b * 5 ^ 1076 < 2 * (fF 52 1076 b * 10 ^ un 1076 (b / 2 ^ 52 - 1)) ∧ 2 * (fF 52 1076 b * 10 ^ un 1076 (b / 2 ^ 52 - 1)) < 4 * sc 52 b * 5 ^ 1076 + 4 * sc 52 (b + 1) * 5 ^ 1076) ∧
    (4 * sc 52 (b - 1) * 5 ^ 1076 + 4 * sc 52 b * 5 ^ 1076 ≤ 2 * (fF 52 1076 b * 10 ^ un 1076 (b / 2 ^ 52 - 1)) ∧ 2 * (fF 52 1076 b * 10 ^ un 1076 (b / 2 ^ 52 - 1)) ≤ 4 * sc 52 b * 5 ^ 1076 + 4 * sc 52 (b + 1) * 5 ^ 1076) := by
  have w := fF_win 52 1076 (by omega) h
  unfold lo hi at w
  generalize 5 ^ 1076 = T at *
  rw [← Nat.add_mul, ← Nat.add_mul]
  have e1 : (4 * sc 52 (b - 1) + 4 * sc 52 b) * T = 2 * (2 * (sc 52 b + sc 52 (b - 1)) * T) := by rw [← Nat.mul_assoc]; congr 1; omega
  have e2 : (4 * sc 52 b + 4 * sc 52 (b + 1)) * T = 2 * (2 * (sc 52 b + sc 52 (b + 1)) * T) := by rw [← Nat.mul_assoc]; congr 1; omega
  rw [e1, e2]
  generalize 2 * (sc 52 b + sc 52 (b - 1)) * T = L at *
  generalize 2 * (sc 52 b + sc 52 (b + 1)) * T = H at *
  generalize fF 52 1076 b * 10 ^ un 1076 (b / 2 ^ 52 - 1) = S at *
  unfold win at w
  by_cases hb : b % 2 = 0 <;> simp [hb] at w <;> omega
end Go.Proofs.YtkanddmihmdagaaGreatDoor.Sp
