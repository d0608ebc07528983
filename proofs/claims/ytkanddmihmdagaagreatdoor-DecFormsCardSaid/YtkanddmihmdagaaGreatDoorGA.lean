/- Texts of one layer, joined: Dig, Word, Open. -/
import GoSem.Claim
import Derived.Test.YtkanddmihmdagaaGreatDoorProg
import Derived.WalkKit
import Derived.Lib.Hide
import Derived.IntWalk
import Derived.Outline
import Derived.Below
import Derived.Laws.OwnMore
import Derived.Deep.AppendLies
import Derived.Deep.Draws
import Derived.Maps.AppendAt
import Derived.RegionTactic
import Derived.OwnWalk
import Derived.Deep.QuietTactic
import Derived.BigQuiet
import Derived.Deep.LoopGhost
import Derived.Deep.RegionHeld3
import Derived.Deep.Slices
import Derived.ChangeArms
import Derived.SizedLaws
import Derived.OpenShut
set_option linter.unusedVariables false
set_option linter.unusedSimpArgs false
set_option linter.unusedSectionVars false
/- Numbers in digits of any base, lowest first: no program in sight. -/
namespace Go.Proofs.YtkanddmihmdagaaGreatDoor.Dig

/-- The element at a place; 0 behind the last. -/
def rd (xs : List Nat) (i : Nat) : Nat := xs.getD i 0
theorem rd_lt {xs : List Nat} {B : Nat} (h : ∀ x ∈ xs, x < B) (hB : 0 < B) (i : Nat) : rd xs i < B := by
  unfold rd
  rw [List.getD_eq_getElem?_getD]
  cases e : xs[i]? with
  | none => simpa using hB
  | some y => exact h _ (List.mem_of_getElem? e)
theorem rd_ge {xs : List Nat} {i : Nat} (h : xs.length ≤ i) : rd xs i = 0 := by
  unfold rd; rw [List.getD_eq_getElem?_getD, List.getElem?_eq_none h]; rfl
theorem rd_append_left {xs ys : List Nat} {i : Nat} (h : i < xs.length) : rd (xs ++ ys) i = rd xs i := by
  unfold rd; rw [List.getD_eq_getElem?_getD, List.getD_eq_getElem?_getD, List.getElem?_append_left h]
theorem rd_append_right {xs ys : List Nat} {i : Nat} (h : xs.length ≤ i) : rd (xs ++ ys) i = rd ys (i - xs.length) := by
  unfold rd; rw [List.getD_eq_getElem?_getD, List.getD_eq_getElem?_getD, List.getElem?_append_right h]
theorem rd_take {xs : List Nat} {i m : Nat} (h : i < m) : rd (xs.take m) i = rd xs i := by
  unfold rd; rw [List.getD_eq_getElem?_getD, List.getD_eq_getElem?_getD, List.getElem?_take_of_lt h]
theorem rd_drop (xs : List Nat) (i m : Nat) : rd (xs.drop m) i = rd xs (m + i) := by
  unfold rd; rw [List.getD_eq_getElem?_getD, List.getD_eq_getElem?_getD, List.getElem?_drop]
theorem take_succ_rd {xs : List Nat} {i : Nat} (h : i < xs.length) : xs.take (i + 1) = xs.take i ++ [rd xs i] := by
  rw [List.take_succ_eq_append_getElem h]; unfold rd; rw [List.getD_eq_getElem?_getD, List.getElem?_eq_getElem h]; rfl
theorem drop_rd {xs : List Nat} {i : Nat} (h : i < xs.length) : xs.drop i = rd xs i :: xs.drop (i + 1) := by
  rw [List.drop_eq_getElem_cons h]; unfold rd; rw [List.getD_eq_getElem?_getD, List.getElem?_eq_getElem h]; rfl
theorem rd_set {xs : List Nat} {i : Nat} (h : i < xs.length) (x j : Nat) : rd (xs.set i x) j = if i = j then x else rd xs j := by
  unfold rd; rw [List.getD_eq_getElem?_getD, List.getD_eq_getElem?_getD, List.getElem?_set]
  by_cases e : i = j
  · subst e; simp [h]
  · simp [e]
theorem rd_replicate (n j : Nat) : rd (List.replicate n 0) j = 0 := by
  unfold rd; rw [List.getD_eq_getElem?_getD, List.getElem?_replicate]; split <;> rfl
theorem rd_cons_zero (x : Nat) (xs : List Nat) : rd (x :: xs) 0 = x := rfl
theorem rd_cons_succ (x : Nat) (xs : List Nat) (i : Nat) : rd (x :: xs) (i + 1) = rd xs i := rfl

/-- The number of digits. -/
def val (B : Nat) : List Nat → Nat
  | [] => 0
  | x :: xs => x + B * val B xs
theorem val_nil (B : Nat) : val B [] = 0 := rfl
theorem val_cons (B x : Nat) (xs : List Nat) : val B (x :: xs) = x + B * val B xs := rfl
theorem val_append (B : Nat) (xs ys : List Nat) : val B (xs ++ ys) = val B xs + B ^ xs.length * val B ys := by
  induction xs with
  | nil => simp [val]
  | cons x xs ih =>
    simp only [List.cons_append, val_cons, ih, List.length_cons, Nat.pow_succ]
    rw [Nat.mul_add, Nat.add_assoc, Nat.mul_comm (B ^ xs.length) B, Nat.mul_assoc]
theorem val_snoc (B : Nat) (xs : List Nat) (x : Nat) : val B (xs ++ [x]) = val B xs + B ^ xs.length * x := by
  rw [val_append]; simp [val]
theorem val_take_succ (B : Nat) {xs : List Nat} {i : Nat} (h : i < xs.length) : val B (xs.take (i + 1)) = val B (xs.take i) + B ^ i * rd xs i := by
  rw [take_succ_rd h, val_snoc, List.length_take, Nat.min_eq_left (by omega)]
theorem val_take_drop (B : Nat) (xs : List Nat) (i : Nat) (h : i ≤ xs.length) : val B xs = val B (xs.take i) + B ^ i * val B (xs.drop i) := by
  have := val_append B (xs.take i) (xs.drop i)
  rw [List.take_append_drop, List.length_take, Nat.min_eq_left h] at this
  exact this
theorem val_lt {B : Nat} (hB : 0 < B) {xs : List Nat} (h : ∀ x ∈ xs, x < B) : val B xs < B ^ xs.length := by
  induction xs with
  | nil => simp [val]
  | cons x xs ih =>
    have h1 := h x (by simp)
    have h2 := ih (fun y hy => h y (by simp [hy]))
    simp only [val_cons, List.length_cons, Nat.pow_succ]
    have h3 : B * (val B xs + 1) ≤ B * B ^ xs.length := Nat.mul_le_mul_left B h2
    rw [Nat.mul_comm (B ^ xs.length) B]
    rw [Nat.mul_add] at h3
    omega
theorem val_replicate_zero (B n : Nat) : val B (List.replicate n 0) = 0 := by
  induction n with
  | zero => rfl
  | succ n ih => simp [List.replicate_succ, val, ih]
theorem val_zeros_append (B n : Nat) (xs : List Nat) : val B (List.replicate n 0 ++ xs) = B ^ n * val B xs := by
  rw [val_append, val_replicate_zero, List.length_replicate, Nat.zero_add]
theorem val_append_zeros (B n : Nat) (xs : List Nat) : val B (xs ++ List.replicate n 0) = val B xs := by
  rw [val_append, val_replicate_zero, Nat.mul_zero, Nat.add_zero]
theorem take_lt {B : Nat} {xs : List Nat} (h : ∀ x ∈ xs, x < B) (i : Nat) : ∀ x ∈ xs.take i, x < B := fun x hx => h x (List.mem_of_mem_take hx)
theorem drop_lt {B : Nat} {xs : List Nat} (h : ∀ x ∈ xs, x < B) (i : Nat) : ∀ x ∈ xs.drop i, x < B := fun x hx => h x (List.mem_of_mem_drop hx)
theorem append_lt {B : Nat} {xs ys : List Nat} (h : ∀ x ∈ xs, x < B) (h' : ∀ x ∈ ys, x < B) : ∀ x ∈ xs ++ ys, x < B := fun x hx => (List.mem_append.1 hx).elim (h x) (h' x)
theorem snoc_lt {B : Nat} {xs : List Nat} {y : Nat} (h : ∀ x ∈ xs, x < B) (h' : y < B) : ∀ x ∈ xs ++ [y], x < B := append_lt h (fun x hx => by rw [List.mem_singleton.1 hx]; exact h')
theorem set_lt {B : Nat} {xs : List Nat} {y i : Nat} (h : ∀ x ∈ xs, x < B) (h' : y < B) : ∀ x ∈ xs.set i y, x < B := fun x hx => (List.mem_or_eq_of_mem_set hx).elim (h x) (fun e => e ▸ h')
theorem replicate_lt {B : Nat} (hB : 0 < B) (n : Nat) : ∀ x ∈ List.replicate n 0, x < B := fun x hx => by rw [(List.mem_replicate.1 hx).2]; exact hB
theorem val_set (B : Nat) {xs : List Nat} {i : Nat} (h : i < xs.length) (x : Nat) : val B (xs.set i x) + B ^ i * rd xs i = val B xs + B ^ i * x := by
  have h1 := val_take_drop B (xs.set i x) i (by rw [List.length_set]; omega)
  have h2 := val_take_drop B xs i (by omega)
  rw [List.take_set_of_le (Nat.le_refl i), drop_rd (by rw [List.length_set]; exact h), List.drop_set_of_lt (by omega), val_cons, rd_set h, if_pos rfl] at h1
  rw [drop_rd h, val_cons] at h2
  rw [h1, h2, Nat.mul_add, Nat.mul_add]
  omega

/-- The digits of a number, without noughts on top. -/
def digs (B : Nat) (n : Nat) : List Nat :=
  if h : n = 0 ∨ B < 2 then [] else n % B :: digs B (n / B)
termination_by n
decreasing_by exact Nat.div_lt_self (by omega) (by omega)
theorem digs_zero (B : Nat) : digs B 0 = [] := by rw [digs]; simp
theorem digs_pos {B n : Nat} (hB : 2 ≤ B) (hn : n ≠ 0) : digs B n = n % B :: digs B (n / B) := by
  rw [digs, dif_neg (by omega)]
theorem val_digs {B : Nat} (hB : 2 ≤ B) (n : Nat) : val B (digs B n) = n := by
  induction n using Nat.strongRecOn with
  | _ n ih =>
    by_cases h : n = 0
    · subst h; rw [digs_zero]; rfl
    · rw [digs_pos hB h, val_cons, ih _ (Nat.div_lt_self (by omega) (by omega))]
      exact Nat.mod_add_div n B
theorem digs_lt {B : Nat} (hB : 2 ≤ B) (n : Nat) : ∀ x ∈ digs B n, x < B := by
  induction n using Nat.strongRecOn with
  | _ n ih =>
    intro x hx
    by_cases h : n = 0
    · subst h; rw [digs_zero] at hx; cases hx
    · rw [digs_pos hB h] at hx
      cases List.mem_cons.1 hx with
      | inl e => rw [e]; exact Nat.mod_lt _ (by omega)
      | inr e => exact ih _ (Nat.div_lt_self (by omega) (by omega)) x e
theorem digs_eq_nil {B : Nat} (hB : 2 ≤ B) {n : Nat} : digs B n = [] ↔ n = 0 := by
  constructor
  · intro h; have := val_digs hB n; rw [h] at this; exact this.symm
  · rintro rfl; exact digs_zero B
theorem digs_length_pos {B : Nat} (hB : 2 ≤ B) {n : Nat} (h : n ≠ 0) : 0 < (digs B n).length := by
  rw [digs_pos hB h]; simp
theorem digs_length_eq_zero {B : Nat} (hB : 2 ≤ B) {n : Nat} : (digs B n).length = 0 ↔ n = 0 := by
  rw [List.length_eq_zero_iff]; exact digs_eq_nil hB
/-- digits below B, the top one not 0: these are the number's digits. -/
theorem digs_val {B : Nat} (hB : 2 ≤ B) : ∀ {xs : List Nat}, (∀ x ∈ xs, x < B) → (xs.length ≠ 0 → rd xs (xs.length - 1) ≠ 0) → digs B (val B xs) = xs
  | [], _, _ => digs_zero B
  | x :: xs, h, ht => by
    have hx : x < B := h x (by simp)
    have h' : ∀ y ∈ xs, y < B := fun y hy => h y (by simp [hy])
    have ht' : xs.length ≠ 0 → rd xs (xs.length - 1) ≠ 0 := fun hl => by
      have := ht (by simp)
      rw [List.length_cons, Nat.add_sub_cancel] at this
      obtain ⟨k, hk⟩ : ∃ k, xs.length = k + 1 := ⟨xs.length - 1, by omega⟩
      rw [hk, rd_cons_succ] at this
      rw [hk]; exact this
    have ih := digs_val hB h' ht'
    have hne : val B (x :: xs) ≠ 0 := by
      rw [val_cons]
      cases xs with
      | nil => have := ht (by simp); simp [rd] at this; simp [val]; omega
      | cons y ys =>
        intro e
        have h0 : val B (y :: ys) = 0 := by
          rcases Nat.eq_zero_or_pos (val B (y :: ys)) with z | z
          · exact z
          · have : 0 < B * val B (y :: ys) := Nat.mul_pos (by omega) z
            omega
        rw [h0, digs_zero] at ih
        cases ih
    rw [digs_pos hB hne, val_cons, Nat.add_mul_mod_self_left, Nat.mod_eq_of_lt hx, Nat.add_mul_div_left _ _ (by omega), Nat.div_eq_of_lt hx, Nat.zero_add, ih]
theorem digs_top {B : Nat} (hB : 2 ≤ B) {n : Nat} (h : (digs B n).length ≠ 0) : rd (digs B n) ((digs B n).length - 1) ≠ 0 := by
  induction n using Nat.strongRecOn with
  | _ n ih =>
    by_cases hn : n = 0
    · subst hn; rw [digs_zero] at h; exact absurd rfl h
    · rw [digs_pos hB hn]
      by_cases hd : n / B = 0
      · rw [hd, digs_zero]
        have : n < B := by
          rcases Nat.lt_or_ge n B with z | z
          · exact z
          · have := Nat.div_pos (a := n) (b := B) z (by omega); omega
        show n % B ≠ 0
        rw [Nat.mod_eq_of_lt this]; exact hn
      · have h1 := digs_length_pos hB hd
        obtain ⟨k, hk⟩ : ∃ k, (digs B (n / B)).length = k + 1 := ⟨(digs B (n / B)).length - 1, by omega⟩
        have := ih (n / B) (Nat.div_lt_self (by omega) (by omega)) (by omega)
        rw [hk] at this
        rw [List.length_cons, hk, Nat.add_sub_cancel, rd_cons_succ]
        exact this
/-- How many digits: as many as the power of the base says. -/
theorem digs_length_le {B : Nat} (hB : 2 ≤ B) (n k : Nat) : (digs B n).length ≤ k ↔ n < B ^ k := by
  induction k generalizing n with
  | zero =>
    rw [Nat.le_zero, digs_length_eq_zero hB]; simp
  | succ k ih =>
    by_cases hn : n = 0
    · subst hn; rw [digs_zero]; simp; exact Nat.pow_pos (by omega)
    · rw [digs_pos hB hn, List.length_cons, Nat.succ_le_succ_iff, ih, Nat.pow_succ, Nat.div_lt_iff_lt_mul (by omega)]
theorem lt_pow_length {B : Nat} (hB : 2 ≤ B) (n : Nat) : n < B ^ (digs B n).length := (digs_length_le hB n _).1 (Nat.le_refl _)
theorem pow_length_le {B : Nat} (hB : 2 ≤ B) {n : Nat} (h : n ≠ 0) : B ^ ((digs B n).length - 1) ≤ n := by
  rcases Nat.lt_or_ge n (B ^ ((digs B n).length - 1)) with z | z
  · have := (digs_length_le hB n _).2 z
    have := digs_length_pos hB h
    omega
  · exact z
theorem digs_length_mono {B : Nat} (hB : 2 ≤ B) {m n : Nat} (h : m ≤ n) : (digs B m).length ≤ (digs B n).length :=
  (digs_length_le hB m _).2 (Nat.lt_of_le_of_lt h (lt_pow_length hB n))
theorem digs_one {B n : Nat} (hB : 2 ≤ B) (h : n < B) (h0 : n ≠ 0) : digs B n = [n] := by
  rw [digs_pos hB h0, Nat.mod_eq_of_lt h, Nat.div_eq_of_lt h, digs_zero]
theorem digs_inj {B : Nat} (hB : 2 ≤ B) {m n : Nat} (h : digs B m = digs B n) : m = n := by
  have := congrArg (val B) h; rwa [val_digs hB, val_digs hB] at this

/-- How many of the first m are left without noughts on top. -/
def trimN (xs : List Nat) : Nat → Nat
  | 0 => 0
  | m + 1 => if rd xs m = 0 then trimN xs m else m + 1
theorem trimN_le (xs : List Nat) : ∀ m, trimN xs m ≤ m
  | 0 => Nat.le_refl _
  | m + 1 => by
    have := trimN_le xs m
    unfold trimN; split <;> omega
theorem trimN_top (xs : List Nat) : ∀ m, trimN xs m ≠ 0 → rd xs (trimN xs m - 1) ≠ 0
  | 0, h => absurd rfl h
  | m + 1, h => by
    unfold trimN at h ⊢
    split
    · rename_i e; rw [if_pos e] at h; exact trimN_top xs m h
    · rename_i e; exact e
theorem val_trimN (B : Nat) (xs : List Nat) : ∀ m, m ≤ xs.length → val B (xs.take (trimN xs m)) = val B (xs.take m)
  | 0, _ => rfl
  | m + 1, h => by
    have ih := val_trimN B xs m (by omega)
    unfold trimN
    split
    · rename_i e; rw [ih, val_take_succ B h, e, Nat.mul_zero, Nat.add_zero]
    · rfl
theorem trim_digs {B : Nat} (hB : 2 ≤ B) {xs : List Nat} (h : ∀ x ∈ xs, x < B) : xs.take (trimN xs xs.length) = digs B (val B xs) := by
  have h1 := val_trimN B xs xs.length (Nat.le_refl _)
  rw [List.take_length] at h1
  have hl := trimN_le xs xs.length
  have h2 := digs_val hB (take_lt h (trimN xs xs.length)) (fun hn => by
    rw [List.length_take, Nat.min_eq_left hl] at hn ⊢
    rw [rd_take (by omega)]
    exact trimN_top xs _ hn)
  rw [h1] at h2
  exact h2.symm
theorem trim_len {B : Nat} (hB : 2 ≤ B) {xs : List Nat} (h : ∀ x ∈ xs, x < B) : trimN xs xs.length = (digs B (val B xs)).length := by
  rw [← trim_digs hB h, List.length_take, Nat.min_eq_left (trimN_le _ _)]
theorem trim_self {B : Nat} (hB : 2 ≤ B) (n : Nat) : trimN (digs B n) (digs B n).length = (digs B n).length := by
  rw [trim_len hB (digs_lt hB n), val_digs hB]

/-- How two numbers stand, by the digit in which they part. -/
theorem val_lt_of_top {B : Nat} (hB : 2 ≤ B) {xs ys : List Nat} (hx : ∀ x ∈ xs, x < B) (i : Nat) (hxi : i < xs.length) (hyi : i < ys.length) (h : rd xs i < rd ys i) :
    val B (xs.take (i + 1)) < val B (ys.take (i + 1)) := by
  rw [val_take_succ B hxi, val_take_succ B hyi]
  have h1 := val_lt (B := B) (by omega) (take_lt hx i)
  rw [List.length_take, Nat.min_eq_left (by omega)] at h1
  have h2 : B ^ i * (rd xs i + 1) ≤ B ^ i * rd ys i := Nat.mul_le_mul_left _ h
  rw [Nat.mul_add] at h2
  omega
/-- -1, 0, 1. -/
def cmp (a b : Nat) : Int := if a < b then -1 else if b < a then 1 else 0
theorem cmp_self (a : Nat) : cmp a a = 0 := by simp [cmp]
theorem ext_rd {xs ys : List Nat} (hl : xs.length = ys.length) (h : ∀ j, j < xs.length → rd xs j = rd ys j) : xs = ys := by
  apply List.ext_getElem hl
  intro j h1 h2
  have := h j h1
  unfold rd at this
  rw [List.getD_eq_getElem?_getD, List.getD_eq_getElem?_getD, List.getElem?_eq_getElem h1, List.getElem?_eq_getElem h2] at this
  exact this
theorem cmp_top {B : Nat} (hB : 2 ≤ B) {xs ys : List Nat} (hx : ∀ x ∈ xs, x < B) (hy : ∀ y ∈ ys, y < B) (hl : xs.length = ys.length) (i : Nat) (hi : i < xs.length)
    (he : ∀ j, i < j → j < xs.length → rd xs j = rd ys j) (hne : rd xs i ≠ rd ys i) : cmp (val B xs) (val B ys) = cmp (rd xs i) (rd ys i) := by
  have h1 := val_take_drop B xs (i + 1) (by omega)
  have h2 := val_take_drop B ys (i + 1) (by omega)
  have hd : xs.drop (i + 1) = ys.drop (i + 1) := by
    apply ext_rd (by rw [List.length_drop, List.length_drop, hl])
    intro j hj
    rw [List.length_drop] at hj
    rw [rd_drop, rd_drop]
    exact he _ (by omega) (by omega)
  rw [hd] at h1
  unfold cmp
  rcases Nat.lt_trichotomy (rd xs i) (rd ys i) with h | h | h
  · have := val_lt_of_top hB hx i hi (by omega) h
    rw [if_pos h, if_pos (by omega)]
  · exact absurd h hne
  · have := val_lt_of_top hB hy i (by omega) hi h
    rw [if_neg (Nat.lt_asymm h), if_pos h, if_neg (by omega), if_pos (by omega)]
theorem cmp_len {B : Nat} (hB : 2 ≤ B) {a b : Nat} (h : (digs B a).length ≠ (digs B b).length) : cmp a b = cmp (digs B a).length (digs B b).length := by
  unfold cmp
  rcases Nat.lt_trichotomy (digs B a).length (digs B b).length with z | z | z
  · have hab : a < b := by
      rcases Nat.lt_or_ge a b with y | y
      · exact y
      · have := digs_length_mono hB y; omega
    rw [if_pos z, if_pos hab]
  · exact absurd z h
  · have hab : b < a := by
      rcases Nat.lt_or_ge b a with y | y
      · exact y
      · have := digs_length_mono hB y; omega
    rw [if_neg (Nat.lt_asymm z), if_pos z, if_neg (Nat.lt_asymm hab), if_pos hab]
/-- The number of the first i digits; noughts behind the last. -/
def pv (B : Nat) (xs : List Nat) : Nat → Nat
  | 0 => 0
  | i + 1 => pv B xs i + B ^ i * rd xs i
theorem pv_take (B : Nat) (xs : List Nat) (i : Nat) : pv B xs i = val B (xs.take i) := by
  induction i with
  | zero => rfl
  | succ i ih =>
    rw [pv, ih]
    rcases Nat.lt_or_ge i xs.length with h | h
    · rw [val_take_succ B h]
    · rw [rd_ge h, List.take_of_length_le h, List.take_of_length_le (by omega), Nat.mul_zero, Nat.add_zero]
theorem pv_all (B : Nat) {xs : List Nat} {i : Nat} (h : xs.length ≤ i) : pv B xs i = val B xs := by rw [pv_take, List.take_of_length_le h]
theorem pv_lt {B : Nat} (hB : 0 < B) {xs : List Nat} (h : ∀ x ∈ xs, x < B) (i : Nat) : pv B xs i < B ^ i := by
  induction i with
  | zero => simp [pv]
  | succ i ih =>
    have h1 := rd_lt h hB i
    have h2 : B ^ i * (rd xs i + 1) ≤ B ^ i * B := Nat.mul_le_mul_left _ h1
    rw [pv, Nat.pow_succ]
    rw [Nat.mul_add] at h2
    omega
/-- one round of a sum -/
theorem add_round {B o p q c x y i : Nat} (h : o + B ^ i * c = p + q) : o + B ^ i * ((x + y + c) % B) + B ^ (i + 1) * ((x + y + c) / B) = (p + B ^ i * x) + (q + B ^ i * y) := by
  have e := Nat.mod_add_div (x + y + c) B
  have e' : B ^ i * ((x + y + c) % B) + B ^ (i + 1) * ((x + y + c) / B) = B ^ i * (x + y + c) := by
    rw [Nat.pow_succ, Nat.mul_assoc, ← Nat.mul_add, e]
  rw [Nat.add_assoc, e', Nat.mul_add, Nat.mul_add]
  omega
/-- one round of a difference -/
theorem sub_round {B o p q c x y i : Nat} (hx : x < B) (hy : y < B) (hc : c ≤ 1) (h : o + q = p + B ^ i * c) :
    o + B ^ i * ((x + B - y - c) % B) + (q + B ^ i * y) = (p + B ^ i * x) + B ^ (i + 1) * (if x < y + c then 1 else 0) := by
  have key : (x + B - y - c) % B + y + c = x + B * (if x < y + c then 1 else 0) := by
    split
    · rw [Nat.mod_eq_of_lt (by omega)]; omega
    · rw [show x + B - y - c = x - y - c + B by omega, Nat.add_mod_right, Nat.mod_eq_of_lt (by omega)]; omega
  have := congrArg (fun z => B ^ i * z) key
  simp only [Nat.mul_add] at this
  rw [← Nat.mul_assoc] at this
  rw [Nat.pow_succ]
  omega
/-- How many bits a number has. -/
def nbits (n : Nat) : Nat := (digs 2 n).length
theorem bits_le (n k : Nat) : nbits n ≤ k ↔ n < 2 ^ k := digs_length_le (by omega) n k
theorem bits_zero : nbits 0 = 0 := by unfold nbits; rw [digs_zero]; rfl
theorem bits_pos {n : Nat} (h : n ≠ 0) : 0 < nbits n := digs_length_pos (by omega) h
theorem pow_bits_le {n : Nat} (h : n ≠ 0) : 2 ^ (nbits n - 1) ≤ n := pow_length_le (by omega) h
theorem lt_pow_bits (n : Nat) : n < 2 ^ nbits n := lt_pow_length (by omega) n
theorem bits_of {n k : Nat} (h1 : 2 ^ k ≤ n) (h2 : n < 2 ^ (k + 1)) : nbits n = k + 1 := by
  have a := (bits_le n (k + 1)).2 h2
  have b : ¬ nbits n ≤ k := fun h => by have := (bits_le n k).1 h; omega
  omega
theorem bits_mul_pow {n : Nat} (h : n ≠ 0) (k : Nat) : nbits (n * 2 ^ k) = nbits n + k := by
  obtain ⟨j, hj⟩ : ∃ j, nbits n = j + 1 := ⟨nbits n - 1, by have := bits_pos h; omega⟩
  have h1 := pow_bits_le h
  have h2 := lt_pow_bits n
  rw [hj] at h1 h2 ⊢
  rw [Nat.add_sub_cancel] at h1
  rw [show j + 1 + k = (j + k) + 1 by omega]
  apply bits_of
  · rw [Nat.pow_add]; exact Nat.mul_le_mul_right _ h1
  · rw [show j + k + 1 = (j + 1) + k by omega, Nat.pow_add]; exact Nat.mul_lt_mul_of_pos_right h2 (Nat.pow_pos (by omega))
/-- The bits of digits of k bits each: those of the top one, and k for each below. -/
theorem bits_top {k : Nat} (hk : 0 < k) {n : Nat} (h : n ≠ 0) : nbits n = k * ((digs (2 ^ k) n).length - 1) + nbits (rd (digs (2 ^ k) n) ((digs (2 ^ k) n).length - 1)) := by
  have hB : 2 ≤ 2 ^ k := by have := Nat.pow_le_pow_right (n := 2) (by omega) hk; simpa using this
  have hl := digs_length_pos hB h
  obtain ⟨l, hl'⟩ : ∃ l, (digs (2 ^ k) n).length = l + 1 := ⟨(digs (2 ^ k) n).length - 1, by omega⟩
  have ht := digs_top hB (n := n) (by omega)
  rw [hl'] at ht ⊢
  rw [Nat.add_sub_cancel] at ht ⊢
  have hv := val_take_succ (2 ^ k) (xs := digs (2 ^ k) n) (i := l) (by omega)
  rw [← hl', List.take_length, val_digs hB] at hv
  have hlow := val_lt (B := 2 ^ k) (by omega) (take_lt (digs_lt hB n) l)
  rw [List.length_take, Nat.min_eq_left (by omega), ← Nat.pow_mul] at hlow
  rw [← Nat.pow_mul] at hv
  generalize rd (digs (2 ^ k) n) l = t at ht hv ⊢
  generalize val (2 ^ k) (List.take l (digs (2 ^ k) n)) = lo at hv hlow
  obtain ⟨j, hj⟩ : ∃ j, nbits t = j + 1 := ⟨nbits t - 1, by have := bits_pos ht; omega⟩
  have h1 := pow_bits_le ht
  have h2 := lt_pow_bits t
  rw [hj] at h1 h2 ⊢
  rw [Nat.add_sub_cancel] at h1
  rw [show k * l + (j + 1) = (k * l + j) + 1 by omega]
  apply bits_of
  · rw [hv, Nat.pow_add]
    have := Nat.mul_le_mul_left (2 ^ (k * l)) h1
    omega
  · rw [hv, show k * l + j + 1 = k * l + (j + 1) by omega, Nat.pow_add]
    have := Nat.mul_le_mul_left (2 ^ (k * l)) (Nat.succ_le_of_lt h2)
    rw [Nat.mul_succ] at this
    omega
end Go.Proofs.YtkanddmihmdagaaGreatDoor.Dig

/- Words for memory: a slice that reads as a list, a row of the call's own, append onto it. -/
namespace Go.Proofs.YtkanddmihmdagaaGreatDoor.W
open Go.RowKit Go.Proofs.YtkanddmihmdagaaGreatDoor.Dig

theorem add_at (b o n : Nat) : (⟨b, o, none⟩ : Addr).add n = ⟨b, o + n, none⟩ := by
  unfold Addr.add; split
  · simp_all
  · rfl

/-- A slice that reads as a list of cells, sz cells an element. -/
structure Sl (w : World) (sz : Nat) (A : Option Addr) (n c : Nat) (xs : List Value) : Prop where
  len : xs.length = n * sz
  le : n ≤ c
  cap : c ≤ 9223372036854775807
  get : 0 < n → ∃ b o, A = some ⟨b, o, none⟩ ∧ ∀ j u, xs[j]? = some u → w.cell? ⟨b, o + j, none⟩ = some u
/-- whole numbers as cells -/
def nums (k : IntKind) (xs : List Nat) : List Value := xs.map fun x => .int k (x : Nat)
theorem nums_length (k : IntKind) (xs : List Nat) : (nums k xs).length = xs.length := by simp [nums]
theorem nums_append (k : IntKind) (xs ys : List Nat) : nums k (xs ++ ys) = nums k xs ++ nums k ys := by simp [nums]
theorem nums_get (k : IntKind) (xs : List Nat) (j : Nat) (h : j < xs.length) : (nums k xs)[j]? = some (.int k (rd xs j : Nat)) := by
  unfold nums rd; rw [List.getElem?_map, List.getD_eq_getElem?_getD, List.getElem?_eq_getElem h]; rfl
theorem nums_take (k : IntKind) (xs : List Nat) (m : Nat) : (nums k xs).take m = nums k (xs.take m) := by simp [nums]
theorem nums_drop (k : IntKind) (xs : List Nat) (m : Nat) : (nums k xs).drop m = nums k (xs.drop m) := by simp [nums]
theorem nums_one (k : IntKind) (xs : List Nat) : ∀ u ∈ nums k xs, u.oneCell' = true := by
  intro u hu; unfold nums at hu; obtain ⟨x, _, rfl⟩ := List.mem_map.1 hu; rfl
theorem nums_set (k : IntKind) (xs : List Nat) (j x : Nat) : (nums k xs).set j (.int k (x : Nat)) = nums k (xs.set j x) := by simp [nums, List.map_set]
/-- A slice of whole numbers. -/
def SI (w : World) (k : IntKind) (A : Option Addr) (n c : Nat) (xs : List Nat) : Prop := Sl w 1 A n c (nums k xs)

section
variable {w w' : World} {sz n c B : Nat} {A : Option Addr} {xs : List Value} {k : IntKind} {l : List Nat}
theorem Sl.below (h : Sl w sz A n c xs) (hb : Below w.heap.size w w') : Sl w' sz A n c xs :=
  ⟨h.len, h.le, h.cap, fun hn => by
    obtain ⟨b, o, e, hc⟩ := h.get hn
    exact ⟨b, o, e, fun j u hu => (hb.cell (p := ⟨b, o + j, none⟩) (World.block_lt_of_cell? w _ (hc j u hu))).trans (hc j u hu)⟩⟩
theorem Sl.grown (h : Sl w sz A n c xs) {row : Option Nat} (hg : w.grownBy w' row) (hr : ∀ b o, A = some ⟨b, o, none⟩ → some b ≠ row) : Sl w' sz A n c xs :=
  ⟨h.len, h.le, h.cap, fun hn => by
    obtain ⟨b, o, e, hc⟩ := h.get hn
    exact ⟨b, o, e, fun j u hu => hg.cell (hc j u hu) (hr b o e)⟩⟩
theorem Sl.drewN (h : Sl w sz A n c xs) (m : Nat) : Sl (w.drewN m) sz A n c xs := ⟨h.len, h.le, h.cap, h.get⟩
theorem Sl.alloc (h : Sl w sz A n c xs) (o : Obj) : Sl (w.alloc o) sz A n c xs := h.below ((Below.refl _ _).alloc (Nat.le_refl _) o)
theorem SI.len (h : SI w k A n c l) : l.length = n := by have := Sl.len h; rw [nums_length] at this; omega
theorem SI.at_ (h : SI w k A n c l) {j : Nat} (hj : j < n) : ∃ b o, A = some ⟨b, o, none⟩ ∧ w.cell? ⟨b, o + j, none⟩ = some (.int k (rd l j : Nat)) := by
  obtain ⟨b, o, e, hc⟩ := Sl.get h (by omega)
  exact ⟨b, o, e, hc j _ (nums_get k l j (by rw [h.len]; exact hj))⟩
theorem SI.all_ (h : SI w k A n c l) (hn : 0 < n) : ∃ b o, A = some ⟨b, o, none⟩ ∧ ∀ j, j < n → w.cell? ⟨b, o + j, none⟩ = some (.int k (rd l j : Nat)) := by
  obtain ⟨b, o, e, hc⟩ := Sl.get h hn
  exact ⟨b, o, e, fun j hj => hc j _ (nums_get k l j (by rw [h.len]; exact hj))⟩
theorem SI.below (h : SI w k A n c l) (hb : Below w.heap.size w w') : SI w' k A n c l := Sl.below h hb
theorem SI.drewN (h : SI w k A n c l) (m : Nat) : SI (w.drewN m) k A n c l := Sl.drewN h m
theorem SI.alloc (h : SI w k A n c l) (o : Obj) : SI (w.alloc o) k A n c l := Sl.alloc h o
theorem SI.take (h : SI w k A n c l) {m : Nat} (hm : m ≤ n) : SI w k A m c (l.take m) :=
  ⟨by rw [nums_length, List.length_take, h.len]; omega, by have := Sl.le h; omega, Sl.cap h, fun hm0 => by
    obtain ⟨b, o, e, hc⟩ := Sl.get h (by omega)
    refine ⟨b, o, e, fun j u hu => hc j u ?_⟩
    rw [← nums_take] at hu
    have hj : j < m := by
      have := (List.getElem?_eq_some_iff.1 hu).1
      rw [List.length_take] at this; omega
    rw [List.getElem?_take_of_lt hj] at hu
    exact hu⟩
theorem SI.drop (h : SI w k (some ⟨B, sz, none⟩) n c l) {m : Nat} (hm : m ≤ n) : SI w k (some ⟨B, sz + m, none⟩) (n - m) (c - m) (l.drop m) :=
  ⟨by rw [nums_length, List.length_drop, h.len]; omega, by have := Sl.le h; omega, by have := Sl.cap h; omega, fun hm0 => by
    obtain ⟨b, o, e, hc⟩ := Sl.get h (by omega)
    injection e with e; injection e with e1 e2; subst e1; subst e2
    refine ⟨B, sz + m, rfl, fun j u hu => ?_⟩
    rw [← nums_drop, List.getElem?_drop] at hu
    rw [Nat.add_assoc]
    exact hc _ u hu⟩
theorem SI.nil (w : World) (k : IntKind) (A : Option Addr) (c : Nat) (hc : c ≤ 9223372036854775807) : SI w k A 0 c [] := ⟨rfl, Nat.zero_le _, hc, fun h => absurd h (by omega)⟩

/-- A row of whole numbers of the call's own. -/
def Ow (w : World) (base : Nat) (e : TypeId) (k : IntKind) (v : Value) (l : List Nat) : Prop := w.ownsRow base e 1 v l.length (nums k l)
variable {base : Nat} {e : TypeId} {v : Value}
theorem Ow.nil (w : World) (base : Nat) (e : TypeId) (k : IntKind) : Ow w base e k (.slice none 0 0) [] := ⟨by simp [nums], .inl ⟨rfl, rfl⟩⟩
theorem Ow.reads (h : Ow w base e k v l) : ∃ A c, v = .slice A l.length c ∧ SI w k A l.length c l := by
  rcases h.2 with ⟨rfl, h0⟩ | ⟨g, cap, cur, rfl, hb, hh, h1, h2, h3, h4⟩
  · exact ⟨none, 0, by rw [h0], by rw [h0, List.length_eq_zero_iff.1 h0]; exact SI.nil _ _ _ _ (by omega)⟩
  · refine ⟨_, cap, rfl, ⟨by rw [nums_length]; omega, h1, h2, fun _ => ⟨g, 0, rfl, fun j u hu => ?_⟩⟩⟩
    have := h.cells (g := g) rfl j u hu
    rwa [add_at] at this
theorem Ow.below (h : Ow w base e k v l) (hb : Below w.heap.size w w') : Ow w' base e k v l :=
  World.ownsRow.kept h ⟨hb.os, hb.tape, hb.output, hb.size, fun i hi _ => hb.block i hi⟩ (by cases v.ownBlock <;> simp : v.ownBlock = none ∨ v.ownBlock ≠ none)
theorem Ow.lower {base' : Nat} (h : Ow w base e k v l) (hb : base' ≤ base) : Ow w base' e k v l := by
  obtain ⟨h1, h2⟩ := h
  refine ⟨h1, ?_⟩
  rcases h2 with h2 | ⟨g, cap, cur, hv, hg, r⟩
  · exact .inl h2
  · exact .inr ⟨g, cap, cur, hv, by omega, r⟩
theorem Ow.base_ (h : Ow w base e k v l) (g : Nat) (hg : v.ownBlock = some g) : base ≤ g := by
  rcases h.2 with ⟨rfl, _⟩ | ⟨g', cap, cur, rfl, hb, _⟩
  · simp [Value.ownBlock] at hg
  · have : g' = g := by simpa [Value.ownBlock] using hg
    omega
theorem Ow.lt_ (h : Ow w base e k v l) (g : Nat) (hg : v.ownBlock = some g) : g < w.heap.size := by
  rcases h.2 with ⟨rfl, _⟩ | ⟨g', cap, cur, rfl, hb, hh, _⟩
  · simp [Value.ownBlock] at hg
  · have : g' = g := by simpa [Value.ownBlock] using hg
    subst this
    exact (Array.getElem?_eq_some_iff.1 hh).1
theorem Ow.alloc (h : Ow w base e k v l) (o : Obj) : Ow (w.alloc o) base e k v l := h.below ((Below.refl _ _).alloc (Nat.le_refl _) o)
theorem Ow.drewN (h : Ow w base e k v l) (m : Nat) : Ow (w.drewN m) base e k v l := h
theorem Ow.take {A : Option Addr} {n : Nat} (h : Ow w base e k (.slice A n c) l) {m : Nat} (hm : m ≤ n) : Ow w base e k (.slice A m c) (l.take m) := by
  have hl : l.length = n := by
    rcases h.2 with ⟨h0, h0'⟩ | ⟨g, cap, cur, hv, _⟩
    · injection h0 with _ h0 _; omega
    · injection hv with _ hv _; exact hv.symm
  refine ⟨by rw [nums_length]; omega, ?_⟩
  have hlm : (l.take m).length = m := by rw [List.length_take]; omega
  rw [hlm]
  rcases h.2 with ⟨h0, h0'⟩ | ⟨g, cap, cur, hv, hb, hh, h1, h2, h3, h4⟩
  · injection h0 with e1 e2 e3
    subst e1; subst e3
    have : m = 0 := by omega
    subst this
    exact .inl ⟨rfl, rfl⟩
  · injection hv with e1 e2 e3
    subst e1; subst e3
    refine .inr ⟨g, c, cur, rfl, hb, hh, by omega, h2, h3, ?_⟩
    rw [← nums_take, ← h4, List.take_take]
    congr 1; omega
end

/- append onto a row of the call's own; the source may be nil -/
section
variable {P : Program} (w : World)
theorem run_append_of_nil (base : Nat) (t ty e : TypeId) (i : TypeInfo) (size : Nat) (ht : P.underlying t = some (.slice e)) (hi : P.info? e = some i)
    (v : Value) (n : Nat) (xs : List Value) (hown : w.ownsRow base e size v n xs) (c : Nat) : (Builtin.append_ #[t, t] ty #[v, .slice none 0 c]).run P w = .ok v w := by
  rcases hown.2 with ⟨rfl, rfl⟩ | ⟨g, cap, cur, rfl, _, _, hnc, _⟩
  · simp [Builtin.append_, run_underlying ht, sizeOf, typeInfo, hi, Builtin.lenOf, Builtin.firstCells]
  · simp [Builtin.append_, run_underlying ht, sizeOf, typeInfo, hi, Builtin.lenOf, Builtin.firstCells, hnc, storeCells]
theorem run_append_sl (base : Nat) (t ty e : TypeId) (i : TypeInfo) (z : Value) (size bytes : Nat) (ht : P.underlying t = some (.slice e)) (hi : P.info? e = some i) (hz : i.zero = some z)
    (hsize : i.size = size) (hby : i.bytes = bytes) (hzs : z.cells.size = size) (hsz : 0 < size)
    (v : Value) (n : Nat) (xs : List Value) (hown : w.ownsRow base e size v n xs)
    (A : Option Addr) (m c : Nat) (news : List Value) (hr : Sl w size A m c news) (h1 : ∀ u ∈ news, u.oneCell' = true)
    (h63 : n + m ≤ maxLen) (hbytes : (n + m) * bytes ≤ 140737488355328) (hbase : base ≤ w.heap.size) :
    ∃ v' w', (Builtin.append_ #[t, t] ty #[v, .slice A m c]).run P w = .ok v' w' ∧ w'.ownsRow base e size v' (n + m) (xs ++ news) ∧ w.grownBy w' v.ownBlock ∧
      (v'.ownBlock = v.ownBlock ∨ v'.ownBlock = some w.heap.size) := by
  rcases A with _ | ad
  · have hm : m = 0 := by
      rcases Nat.eq_zero_or_pos m with h0 | h0
      · exact h0
      · obtain ⟨b, o, h, _⟩ := hr.get h0
        cases h
    subst hm
    have hn : news = [] := List.eq_nil_of_length_eq_zero (by simpa using hr.len)
    subst hn
    exact ⟨v, w, run_append_of_nil w base t ty e i size ht hi v n xs hown c, by simpa using hown, World.grownBy.refl w _, .inl rfl⟩
  · have hcells : ∀ j u, news[j]? = some u → w.cell? (ad.add j) = some u := by
      intro j u hu
      rcases Nat.eq_zero_or_pos m with h0 | h0
      · subst h0
        have hn : news = [] := List.eq_nil_of_length_eq_zero (by simpa using hr.len)
        subst hn
        simp at hu
      · obtain ⟨b, o, h, hc⟩ := hr.get h0
        injection h with h
        subst h
        rw [add_at]
        exact hc j u hu
    obtain ⟨v', w', hrun, h2, h3, _, h5⟩ := run_append_own_at (P := P) w base t ty e i z size bytes ht hi hz hsize hby hzs hsz v n xs hown ad m c news hr.len hcells h1 h63 hbytes hbase
    exact ⟨v', w', hrun, h2, h3, h5⟩
theorem wp_append_sl {o : Oper} {a : Act} {K : Act → World → Prop} {Q : Exit → Act → World → Prop} (s x : Operand) (t : TypeId)
    (ho : o.op = .call { callee := .builtin .append, args := #[s, x], argTypes := #[t, t] })
    (base : Nat) (e : TypeId) (i : TypeInfo) (z : Value) (size bytes : Nat) (ht : P.underlying t = some (.slice e)) (hi : P.info? e = some i) (hz : i.zero = some z)
    (hsize : i.size = size) (hby : i.bytes = bytes) (hzs : z.cells.size = size) (hsz : 0 < size)
    (v : Value) (n : Nat) (xs : List Value) (hs : a.eval s = v) (hown : w.ownsRow base e size v n xs)
    (A : Option Addr) (m c : Nat) (news : List Value) (hx : a.eval x = .slice A m c) (hr : Sl w size A m c news) (h1 : ∀ u ∈ news, u.oneCell' = true)
    (h63 : n + m ≤ maxLen) (hbytes : (n + m) * bytes ≤ 140737488355328) (hbase : base ≤ w.heap.size)
    (h : ∀ v' w', w'.ownsRow base e size v' (n + m) (xs ++ news) → w.grownBy w' v.ownBlock → (v'.ownBlock = v.ownBlock ∨ v'.ownBlock = some w.heap.size) → K (a.put o.dst v') w') : o.wp P a w K Q := by
  obtain ⟨v', w', hrun, h2, h3, h4⟩ := run_append_sl (P := P) w base t o.type e i z size bytes ht hi hz hsize hby hzs hsz v n xs hown A m c news hr h1 h63 hbytes hbase
  unfold Oper.wp execOp
  simp only [ho, resolve, invoke, builtin, Sem.run_bind, Sem.run_pure, Result.andThen_ok, List.map_toArray, List.map_cons, List.map_nil, hs, hx, hrun]
  exact h v' w' h2 h3 h4
/-- whole numbers appended to whole numbers of the call's own -/
theorem wpList_append_nums {ops : Array Oper} {rest : List Oper} {o : Oper} {a : Act} {Q : Exit → Act → World → Prop} (hgd : o.guard = none) (s x : Operand) (t : TypeId)
    (ho : o.op = .call { callee := .builtin .append, args := #[s, x], argTypes := #[t, t] })
    (base : Nat) (e : TypeId) (k : IntKind) (bytes : Nat) (ht : P.underlying t = some (.slice e)) (hi : (P.info? e).map (fun i => (i.zero, i.size, i.bytes)) = some (some (.int k 0), 1, bytes))
    (v : Value) (l : List Nat) (hs : a.eval s = v) (hown : Ow w base e k v l)
    (A : Option Addr) (m c : Nat) (l' : List Nat) (hx : a.eval x = .slice A m c) (hr : SI w k A m c l')
    (hbytes : (l.length + m) * bytes ≤ 140737488355328) (hb0 : 0 < bytes) (hbase : base ≤ w.heap.size)
    (h : ∀ v' w', Ow w' base e k v' (l ++ l') → w.grownBy w' v.ownBlock → wpList P ops Q rest (a.put o.dst v') w') : wpList P ops Q (o :: rest) a w := by
  obtain ⟨i0, hi0, hz0, hz1, hz2⟩ := info_parts hi
  have hm : l'.length = m := hr.len
  refine wpList_plain hgd fun _ hK => wp_append_sl w s x t ho base e i0 _ 1 bytes ht hi0 hz0 hz1 hz2 rfl (by omega) v _ _ hs hown A m c _ hx hr (nums_one k l') ?_ hbytes hbase fun v' w' h2 h3 _ => hK _ _ (h v' w' ?_ h3)
  · unfold maxLen
    have : (l.length + m) * 1 ≤ (l.length + m) * bytes := Nat.mul_le_mul_left _ hb0
    omega
  · unfold Ow
    rw [List.length_append, hm, nums_append]
    exact h2
theorem step_append_nums {ops : Array Oper} {o : Oper} {a : Act} {K : Act → World → Prop} {Q : Exit → Act → World → Prop} {E : Prop} (hgd : o.guard = none) (s x : Operand) (t : TypeId)
    (ho : o.op = .call { callee := .builtin .append, args := #[s, x], argTypes := #[t, t] })
    (base : Nat) (e : TypeId) (k : IntKind) (bytes : Nat) (ht : P.underlying t = some (.slice e)) (hi : (P.info? e).map (fun i => (i.zero, i.size, i.bytes)) = some (some (.int k 0), 1, bytes))
    (v : Value) (l : List Nat) (hs : a.eval s = v) (hown : Ow w base e k v l)
    (A : Option Addr) (m c : Nat) (l' : List Nat) (hx : a.eval x = .slice A m c) (hr : SI w k A m c l')
    (hbytes : (l.length + m) * bytes ≤ 140737488355328) (hb0 : 0 < bytes) (hbase : base ≤ w.heap.size)
    (h : ∀ v' w', Ow w' base e k v' (l ++ l') → w.grownBy w' v.ownBlock → K (a.put o.dst v') w') : if Region.wanted o (yielded ops a.tmps) = true then Oper.wp P o a w K Q else E := by
  have hw : Region.wanted o (yielded ops a.tmps) = true := by simp [Region.wanted, hgd]
  rw [if_pos hw]
  obtain ⟨i0, hi0, hz0, hz1, hz2⟩ := info_parts hi
  have hm : l'.length = m := hr.len
  refine wp_append_sl w s x t ho base e i0 _ 1 bytes ht hi0 hz0 hz1 hz2 rfl (by omega) v _ _ hs hown A m c _ hx hr (nums_one k l') ?_ hbytes hbase fun v' w' h2 h3 _ => h v' w' ?_ h3
  · unfold maxLen
    have : (l.length + m) * 1 ≤ (l.length + m) * bytes := Nat.mul_le_mul_left _ hb0
    omega
  · unfold Ow
    rw [List.length_append, hm, nums_append]
    exact h2
end

/-- What a function hands back: a slice that reads as a list, in a world in which nothing elder has turned. -/
def Gives (w : World) (k : IntKind) (l : List Nat) (e : Ending) (w' : World) : Prop := ∃ A n c, e = .returned (.slice A n c) ∧ SI w' k A n c l ∧ Below w.heap.size w w'
/-- The same, a row of its own. -/
def GivesOwn (w : World) (t : TypeId) (k : IntKind) (l : List Nat) (e : Ending) (w' : World) : Prop := ∃ v, e = .returned v ∧ Ow w' w.heap.size t k v l ∧ Below w.heap.size w w'
theorem GivesOwn.gives {w w' : World} {t : TypeId} {k : IntKind} {l : List Nat} {e : Ending} (h : GivesOwn w t k l e w') : Gives w k l e w' := by
  obtain ⟨v, rfl, ho, hb⟩ := h
  obtain ⟨A, c, rfl, hr⟩ := ho.reads
  exact ⟨A, _, c, rfl, hr, hb⟩
theorem drewN_below (w : World) (n : Nat) : Below w.heap.size w (w.drewN n) := ⟨rfl, rfl, rfl, Nat.le_refl _, fun _ _ => rfl⟩
theorem SI.keepS {w W : World} {k : IntKind} {b o n c j : Nat} {l : List Nat} (h : SI w k (some ⟨b, o, none⟩) n c l) (hj : j < n) (hb : Below w.heap.size w W) :
    SI W k (some ⟨b, o, none⟩) n c l ∧ W.cell? ⟨b, o + j, none⟩ = some (.int k (rd l j : Nat)) := by
  have h' := h.below hb
  obtain ⟨b', o', e, hc⟩ := h'.at_ hj
  injection e with e
  injection e with e1 e2
  subst e1; subst e2
  exact ⟨h', hc⟩
/-- Nothing but the count of draws has moved. -/
structure Drawn (w w' : World) : Prop where
  out : ∃ n, w' = w.drewN n
theorem Drawn.refl (w : World) : Drawn w w := ⟨0, rfl⟩
theorem Drawn.drewN {w w' : World} (h : Drawn w w') (n : Nat) : Drawn w (w'.drewN n) := by
  obtain ⟨m, rfl⟩ := h
  exact ⟨m + n, World.drewN_drewN _ _ _⟩
theorem Drawn.drew {w w' : World} (h : Drawn w w') : Drawn w w'.drew := h.drewN 1
theorem Drawn.below {w w' : World} (h : Drawn w w') : Below w.heap.size w w' := by
  obtain ⟨m, rfl⟩ := h
  exact drewN_below w m
theorem Drawn.trans {a b c : World} (h : Drawn a b) (h' : Drawn b c) : Drawn a c := by
  obtain ⟨m, rfl⟩ := h'
  exact h.drewN m
theorem Drawn.ex {w w' : World} (h : Drawn w w') : ∃ n, w' = w.drewN n := h.out
section
variable {w : World} {base g n c : Nat} {e : TypeId} {k : IntKind} {l : List Nat}
theorem Ow.len_ {A : Option Addr} (h : Ow w base e k (.slice A n c) l) : l.length = n := by
  rcases h.2 with ⟨h0, h0'⟩ | ⟨g, cap, cur, hv, _⟩
  · injection h0 with _ h0 _; omega
  · injection hv with _ hv _; exact hv.symm
theorem Ow.cellAt (h : Ow w base e k (.slice (some ⟨g, 0, none⟩) n c) l) {j : Nat} (hj : j < n) : w.cell? ⟨g, j, none⟩ = some (.int k (rd l j : Nat)) := by
  have hl := h.len_
  unfold Ow at h
  rw [hl] at h
  rw [World.ownsRow.cellAt h j (by omega), nums_get k l j (by omega)]
theorem Ow.frozenAt (h : Ow w base e k (.slice (some ⟨g, 0, none⟩) n c) l) (j : Nat) : w.frozen? ⟨g, j, none⟩ = false := by
  have hl := h.len_
  unfold Ow at h
  rw [hl] at h
  exact World.ownsRow.frozenAt h j
theorem Ow.store (h : Ow w base e k (.slice (some ⟨g, 0, none⟩) n c) l) (j x : Nat) : Ow (w.setCell ⟨g, j, none⟩ (.int k (x : Nat))) base e k (.slice (some ⟨g, 0, none⟩) n c) (l.set j x) := by
  have hl := h.len_
  unfold Ow at h ⊢
  rw [hl] at h
  rw [List.length_set, hl, ← nums_set]
  exact (World.ownsRow.stored h j _).1
theorem Ow.cap_ {A : Option Addr} (h : Ow w base e k (.slice A n c) l) : n ≤ c ∧ c ≤ 9223372036854775807 := by
  obtain ⟨A', c', hv, hr⟩ := h.reads
  injection hv with _ h1 h2
  have a := Sl.le hr
  have b := Sl.cap hr
  omega
theorem Ow.reads_n {v : Value} (h : Ow w base e k v l) : ∃ A n c, v = .slice A n c ∧ SI w k A n c l := by
  obtain ⟨A, c, rfl, hr⟩ := h.reads
  exact ⟨A, _, c, rfl, hr⟩
/-- make([]T, n) of whole numbers -/
theorem wpList_make_nums {P : Program} (w : World) {ops : Array Oper} {rest : List Oper} {o : Oper} {a : Act} {Q : Exit → Act → World → Prop}
    (hg : o.guard = none) (x y : Operand) (t : TypeId) (hop : o.op = Op.makeSlice t x y)
    (base : Nat) (e : TypeId) (k : IntKind) (bytes : Nat) (h1 : P.underlying t = some (.slice e)) (hi : (P.info? e).map (fun i => (i.zero, i.size, i.bytes)) = some (some (.int k 0), 1, bytes))
    (kl kc : IntKind) (L C : Int) (n : Nat) (hl : a.eval x = .int kl L) (hc : a.eval y = .int kc C) (hL : L = (n : Int)) (hC : C = (n : Int)) (b2 : bytes * n ≤ 281474976710656) (b3 : n ≤ 9223372036854775807) (b4 : base ≤ w.heap.size)
    (hK : ∀ w', Ow w' base e k (.slice (some ⟨w.heap.size, 0, none⟩) n n) (List.replicate n 0) → w.grownBy w' none → wpList P ops Q rest (a.put o.dst (.slice (some ⟨w.heap.size, 0, none⟩) n n)) w') :
    wpList P ops Q (o :: rest) a w := by
  obtain ⟨i0, hi0, hz0, hz1, hz2⟩ := info_parts hi
  refine wpList_make_full w hg x y t hop base e i0 _ 1 h1 hi0 hz0 hz1 kl kc L C n hl hc hL hC (by rw [hz2]; exact b2) (by unfold maxLen; omega) b4 fun w' r1 r2 => hK w' ?_ r2
  unfold Ow
  rw [List.length_replicate]
  have e1 : (madeCells (Value.cells (.int k 0)) (n * 1)).toList = nums k (List.replicate n 0) := by
    rw [show Value.cells (.int k 0) = #[Value.int k 0] from rfl, toList_madeCells_one, Nat.mul_one]
    simp [nums]
  rw [← e1]
  exact r1
end
/-- make([]T, n, m) of whole numbers -/
theorem wpList_make_nums_cap {P : Program} (w : World) {ops : Array Oper} {rest : List Oper} {o : Oper} {a : Act} {Q : Exit → Act → World → Prop}
    (hg : o.guard = none) (x y : Operand) (t : TypeId) (hop : o.op = Op.makeSlice t x y)
    (base : Nat) (e : TypeId) (k : IntKind) (bytes : Nat) (h1 : P.underlying t = some (.slice e)) (hi : (P.info? e).map (fun i => (i.zero, i.size, i.bytes)) = some (some (.int k 0), 1, bytes))
    (kl kc : IntKind) (L C : Int) (n m : Nat) (hl : a.eval x = .int kl L) (hc : a.eval y = .int kc C) (hL : L = (n : Int)) (hC : C = (m : Int)) (hnm : n ≤ m) (b2 : bytes * m ≤ 281474976710656) (b3 : m ≤ 9223372036854775807) (b4 : base ≤ w.heap.size)
    (hK : ∀ w', Ow w' base e k (.slice (some ⟨w.heap.size, 0, none⟩) n m) (List.replicate n 0) → w.grownBy w' none → wpList P ops Q rest (a.put o.dst (.slice (some ⟨w.heap.size, 0, none⟩) n m)) w') :
    wpList P ops Q (o :: rest) a w := by
  obtain ⟨i0, hi0, hz0, hz1, hz2⟩ := info_parts hi
  refine wpList_plain hg fun K hK' => ?_
  have hrun := run_make (P := P) w t e i0 _ h1 hi0 hz0 kl kc L C (by omega) (by omega) (by rw [hz2, hC, ← Int.natCast_mul]; omega) (by omega)
  unfold Oper.wp
  simp only [execOp, hop, hl, hc, hrun, Result.andThen, Sem.run_bind, Sem.run_pure]
  subst hL; subst hC
  rw [Int.toNat_natCast, Int.toNat_natCast, hz1, Nat.mul_one, show Value.cells (.int k 0) = #[Value.int k 0] from rfl]
  refine hK' _ _ (hK _ ⟨by rw [nums_length, Nat.mul_one], .inr ⟨w.heap.size, m, madeCells #[Value.int k 0] m, by rw [List.length_replicate], b4, heap_alloc_new w _, by rw [List.length_replicate]; exact hnm, by unfold maxLen; omega, by rw [size_madeCells, Nat.mul_one], ?_⟩⟩ (World.grownBy_alloc w _ none))
  rw [List.length_replicate, toList_madeCells_one, List.take_replicate, Nat.mul_one, Nat.min_eq_left hnm]
  simp [nums]
theorem grown_below {w w1 : World} (h : w.grownBy w1 none) : Below w.heap.size w w1 := ⟨h.os, h.tape, h.output, h.size, fun k hk => h.block k hk (by simp)⟩
theorem cell_keep {w W : World} {p : Addr} {v : Value} (hb : Below w.heap.size w W) (h : w.cell? p = some v) : W.cell? p = some v := (hb.cell (World.block_lt_of_cell? w p h)).trans h
theorem Drawn.cell {w w' : World} (h : Drawn w w') (p : Addr) : w'.cell? p = w.cell? p := by
  obtain ⟨n, rfl⟩ := h; rfl
theorem Drawn.frozen {w w' : World} (h : Drawn w w') (p : Addr) : w'.frozen? p = w.frozen? p := by
  obtain ⟨n, rfl⟩ := h; rfl
theorem Drawn.size {w w' : World} (h : Drawn w w') : w'.heap.size = w.heap.size := by
  obtain ⟨n, rfl⟩ := h; rfl
theorem Below.drawn {B : Nat} {a w w' : World} (h : Below B a w) (hd : Drawn w w') : Below B a w' := by
  obtain ⟨n, rfl⟩ := hd; exact ⟨h.os, h.tape, h.output, h.size, h.block⟩
theorem Ow.drawn {w w' : World} {base : Nat} {e : TypeId} {k : IntKind} {v : Value} {l : List Nat} (h : Ow w base e k v l) (hd : Drawn w w') : Ow w' base e k v l := h.below hd.below
end Go.Proofs.YtkanddmihmdagaaGreatDoor.W

/- An argument opened to its cells, by its type alone: whole numbers, bools, strings, flat structs, slices of flat structs. -/
namespace Go.Proofs.YtkanddmihmdagaaGreatDoor.Open
open Go.RowKit

def Fa {L : Type} (Q : L → Value → Prop) : List L → List Value → Prop
  | [], [] => True
  | l :: ls, v :: vs => Q l v ∧ Fa Q ls vs
  | [], _ :: _ => False
  | _ :: _, [] => False
theorem Fa.nil_ {L : Type} {Q : L → Value → Prop} {vs : List Value} (h : Fa Q [] vs) : vs = [] := by
  cases vs with
  | nil => rfl
  | cons v vs => exact h.elim
theorem Fa.cons_ {L : Type} {Q : L → Value → Prop} {l : L} {ls : List L} {vs : List Value} (h : Fa Q (l :: ls) vs) : ∃ v r, vs = v :: r ∧ Q l v ∧ Fa Q ls r := by
  cases vs with
  | nil => exact h.elim
  | cons v vs => exact ⟨v, vs, rfl, h.1, h.2⟩
theorem Fa.len {L : Type} {Q : L → Value → Prop} : ∀ {ls : List L} {vs : List Value}, Fa Q ls vs → vs.length = ls.length
  | [], vs, h => by rw [h.nil_]; rfl
  | l :: ls, vs, h => by
    obtain ⟨v, r, rfl, _, h2⟩ := h.cons_
    rw [List.length_cons, List.length_cons, h2.len]
theorem Fa.app {L : Type} {Q : L → Value → Prop} : ∀ {ls ls' : List L} {vs vs' : List Value}, Fa Q ls vs → Fa Q ls' vs' → Fa Q (ls ++ ls') (vs ++ vs')
  | [], _, vs, _, h, h' => by rw [h.nil_]; exact h'
  | l :: ls, _, vs, _, h, h' => by
    obtain ⟨v, r, rfl, h1, h2⟩ := h.cons_
    exact ⟨h1, h2.app h'⟩

def flatFs {L : Type} (P : Program) (rc : TypeId → Option (List L)) : List Field → Nat → Option (List L × Nat)
  | [], off => some ([], off)
  | f :: r, off => match rc f.type with
    | some l => if f.offset = off ∧ P.cellsOf f.type = l.length then (flatFs P rc r (off + l.length)).map fun x => (l ++ x.1, x.2) else none
    | none => none
theorem fs_open {L : Type} {Q : L → Value → Prop} {P : Program} {rc : TypeId → Option (List L)} {cs : List Value} : ∀ (fs : List Field) (off : Nat) (ls : List L) (z : Nat), flatFs P rc fs off = some (ls, z) →
    (∀ (i : Nat) f l, fs[i]? = some f → rc f.type = some l → Fa Q l ((cs.drop f.offset).take (P.cellsOf f.type))) → off ≤ z ∧ Fa Q ls ((cs.drop off).take (z - off))
  | [], off, ls, z, h, _ => by
    simp only [flatFs, Option.some.injEq, Prod.mk.injEq] at h
    obtain ⟨rfl, rfl⟩ := h
    exact ⟨Nat.le_refl _, by rw [Nat.sub_self, List.take_zero]; trivial⟩
  | f :: r, off, ls, z, h, hf => by
    rw [flatFs] at h
    cases hl : rc f.type with
    | none => rw [hl] at h; cases h
    | some l =>
      rw [hl] at h
      simp only at h
      split at h
      · rename_i hc
        obtain ⟨h1, h2⟩ := hc
        cases hr : flatFs P rc r (off + l.length) with
        | none => rw [hr] at h; cases h
        | some x =>
          obtain ⟨m, z'⟩ := x
          rw [hr] at h
          simp only [Option.map_some, Option.some.injEq, Prod.mk.injEq] at h
          obtain ⟨rfl, rfl⟩ := h
          obtain ⟨k1, k2⟩ := fs_open r _ _ _ hr fun i f' l' hi hl' => hf (i + 1) f' l' (by simpa using hi) hl'
          have k0 := hf 0 f l rfl hl
          rw [h1, h2] at k0
          refine ⟨by omega, ?_⟩
          rw [show z' - off = l.length + (z' - (off + l.length)) by omega, List.take_add, List.drop_drop]
          exact k0.app k2
      · cases h
def rep {L : Type} : Nat → List L → List L
  | 0, _ => []
  | k + 1, l => l ++ rep k l
theorem arr_open {L : Type} {Q : L → Value → Prop} {l : List L} {cs : List Value} {c : Nat} (hc : c = l.length) : ∀ (k off : Nat), (∀ i, i < k → Fa Q l ((cs.drop (off + i * c)).take c)) → Fa Q (rep k l) ((cs.drop off).take (k * c))
  | 0, off, _ => by rw [Nat.zero_mul, List.take_zero]; trivial
  | k + 1, off, h => by
    have h0 := h 0 (Nat.succ_pos _)
    rw [Nat.zero_mul, Nat.add_zero] at h0
    have h1 := arr_open hc k (off + c) fun i hi => by
      have := h (i + 1) (by omega)
      rw [Nat.succ_mul] at this
      rw [show off + c + i * c = off + (i * c + c) by omega]
      exact this
    rw [Nat.succ_mul, Nat.add_comm (k * c) c, List.take_add, List.drop_drop]
    exact h0.app h1
def flatG {L : Type} (leaf : TypeId → Option (List L)) (P : Program) : Nat → TypeId → Option (List L)
  | 0, t => leaf t
  | n + 1, t => match P.underlying t with
    | some (.struct fs) => match flatFs P (flatG leaf P n) fs.toList 0 with
      | some (l, z) => if z = P.cellsOf t then some l else none
      | none => none
    | some (.array k e) => match flatG leaf P n e with
      | some l => if P.cellsOf e = l.length ∧ P.cellsOf t = k * l.length then some (rep k l) else none
      | none => none
    | _ => leaf t
section
variable {H : Type} {enc : TypeId × Value → H} {P : Program} {w : World} {base : Nat} {held : Bool}
def Small (P : Program) (t : TypeId) (d : DataW H) : Prop := ∀ n ∈ d.weights P t, n ≤ reachBytes
def Opens (enc : TypeId × Value → H) (P : Program) (w : World) (base : Nat) (held : Bool) {L : Type} (Q : L → Value → Prop) (f : TypeId → Option (List L)) : Prop :=
  ∀ t ls fuel cs d ps, f t = some ls → DataW.trod enc P w base (fun _ => true) held fuel t cs = some (d, ps) → Small P t d → Fa Q ls cs
theorem weights_all {e : TypeId} : ∀ {ds : List (DataW H)} {d : DataW H}, d ∈ ds → ∀ n ∈ d.weights P e, n ∈ DataW.weightsAll P e ds
  | x :: r, d, hd, n, hn => by
    unfold DataW.weightsAll
    rcases List.mem_cons.1 hd with rfl | hd
    · exact List.mem_append_left _ hn
    · exact List.mem_append_right _ (weights_all hd n hn)
theorem flat_open {L : Type} {Q : L → Value → Prop} {leaf : TypeId → Option (List L)} (hleaf : Opens enc P w base held Q leaf) : ∀ n, Opens enc P w base held Q (flatG leaf P n)
  | 0 => hleaf
  | n + 1 => by
    intro t ls fuel cs d ps hf ht hs
    rw [flatG] at hf
    cases hu : P.underlying t with
    | none => rw [hu] at hf; exact hleaf t ls fuel cs d ps hf ht hs
    | some T =>
      rw [hu] at hf
      cases T
      case struct fs =>
        simp only at hf
        obtain ⟨xs, m, _, hx, hlen, hxl, hg⟩ := DataW.trod_struct hu ht
        simp only [Prod.mk.injEq] at hx
        obtain ⟨rfl, rfl⟩ := hx
        cases hfs : flatFs P (flatG leaf P n) fs.toList 0 with
        | none => rw [hfs] at hf; cases hf
        | some y =>
          obtain ⟨l, z⟩ := y
          rw [hfs] at hf
          simp only at hf
          split at hf
          · rename_i hz
            obtain rfl := Option.some.inj hf
            have k := (fs_open (Q := Q) (cs := cs) fs.toList 0 l z hfs fun i f l' hi hl' => by
              have hi' : fs[i]? = some f := by simpa using hi
              have h1 := hg i f hi'
              have hil : i < xs.length := by rw [hxl]; exact (Array.getElem?_eq_some_iff.1 hi').1
              rw [List.getElem?_eq_getElem hil] at h1
              refine flat_open hleaf n f.type l' m _ _ _ hl' h1 fun q hq => hs q ?_
              unfold DataW.weights
              rw [hu]
              refine DataW.weights_mem_each (j := i) (t := f.type) (d := xs[i].1) ?_ ?_ q hq
              · rw [List.getElem?_map, hi]; rfl
              · rw [List.getElem?_map, List.getElem?_eq_getElem hil]; rfl).2
            rw [List.drop_zero, Nat.sub_zero, List.take_of_length_le (by omega)] at k
            exact k
          · cases hf
      case array k e =>
        simp only at hf
        obtain ⟨xs, m, _, hx, hlen, hxl, hg⟩ := DataW.trod_array hu ht
        simp only [Prod.mk.injEq] at hx
        obtain ⟨rfl, rfl⟩ := hx
        cases hfs : flatG leaf P n e with
        | none => rw [hfs] at hf; cases hf
        | some l =>
          rw [hfs] at hf
          simp only at hf
          split at hf
          · rename_i hz
            obtain ⟨z1, z2⟩ := hz
            obtain rfl := Option.some.inj hf
            have k := arr_open (Q := Q) (cs := cs) (c := P.cellsOf e) z1 k 0 fun i hi => by
              have h1 := hg i hi
              have hil : i < xs.length := by omega
              rw [List.getElem?_eq_getElem hil] at h1
              rw [Nat.zero_add]
              refine flat_open hleaf n e l m _ _ _ hfs h1 fun q hq => hs q ?_
              unfold DataW.weights
              rw [hu]
              exact weights_all (d := xs[i].1) (List.mem_map.2 ⟨xs[i], List.getElem_mem hil, rfl⟩) q hq
            rw [List.drop_zero, List.take_of_length_le (by rw [hlen, z2, z1]; exact Nat.le_refl _)] at k
            exact k
          · cases hf
      all_goals exact hleaf t ls fuel cs d ps hf ht hs
end
/-- a leaf -/
inductive L0 where
  | int (k : IntKind)
  | bool
  | str
def L0.Is : L0 → Value → Prop
  | .int k, v => ∃ n, v = .int k n ∧ (Lit.int k n).wf = true
  | .bool, v => ∃ b, v = .bool b
  | .str, v => ∃ s : ByteArray, v = .string s ∧ s.size ≤ 140737488351232
def leaf0 (P : Program) (t : TypeId) : Option (List L0) :=
  match P.underlying t with
  | some (.int k) => some [.int k]
  | some .bool => some [.bool]
  | some .string => some [.str]
  | _ => none
inductive L1 where
  | one (l : L0)
  | row (e : List L0) (bytes : Nat)
def L1.Is (w : World) : L1 → Value → Prop
  | .one l, v => l.Is v
  | .row e b, v => ∃ A n c, v = .slice A n c ∧ n ≤ c ∧ c ≤ 9223372036854775807 ∧ c * b ≤ 140737488351232 ∧ (A = none → c = 0) ∧
      ∀ i, i < n → ∃ a cs, A = some a ∧ Fa L0.Is e cs ∧ ∀ j v, cs[j]? = some v → w.cell? (a.add (i * e.length + j)) = some v
def leaf1 (P : Program) (t : TypeId) : Option (List L1) :=
  match P.underlying t with
  | some (.int k) => some [.one (.int k)]
  | some .bool => some [.one .bool]
  | some .string => some [.one .str]
  | some (.slice e) => match flatG (leaf0 P) P 4 e with
    | some l => if P.cellsOf e = l.length then some [.row l (P.bytesOf e)] else none
    | none => none
  | _ => none
section
variable {H : Type} {enc : TypeId × Value → H} {P : Program} {w : World} {base : Nat} {held : Bool}
theorem int_open {t : TypeId} {k : IntKind} {fuel : Nat} {cs : List Value} {d : DataW H} {ps : List MemPlace} (hu : P.underlying t = some (.int k)) (ht : DataW.trod enc P w base (fun _ => true) held fuel t cs = some (d, ps)) : ∃ v, cs = [v] ∧ (L0.int k).Is v := by
  obtain ⟨n, rfl, _, h⟩ := DataW.trod_int hu ht
  exact ⟨_, rfl, n, rfl, h⟩
theorem bool_open {t : TypeId} {fuel : Nat} {cs : List Value} {d : DataW H} {ps : List MemPlace} (hu : P.underlying t = some .bool) (ht : DataW.trod enc P w base (fun _ => true) held fuel t cs = some (d, ps)) : ∃ v, cs = [v] ∧ L0.bool.Is v := by
  obtain ⟨b, rfl, _⟩ := DataW.trod_bool hu ht
  exact ⟨_, rfl, b, rfl⟩
theorem str_open {t : TypeId} {fuel : Nat} {cs : List Value} {d : DataW H} {ps : List MemPlace} (hu : P.underlying t = some .string) (ht : DataW.trod enc P w base (fun _ => true) held fuel t cs = some (d, ps)) (hs : Small P t d) : ∃ v, cs = [v] ∧ L0.str.Is v := by
  obtain ⟨s, rfl, hx, h⟩ := DataW.trod_string hu ht
  obtain ⟨rfl, rfl⟩ := Prod.mk.inj hx
  refine ⟨_, rfl, s, rfl, ?_⟩
  have := hs s.data.toList.length (by simp [DataW.weights])
  rw [Array.length_toList] at this
  exact this
theorem leaf0_open : Opens enc P w base held L0.Is (leaf0 P) := by
  intro t ls fuel cs d ps hf ht hs
  unfold leaf0 at hf
  split at hf
  · rename_i k hu
    obtain rfl := Option.some.inj hf
    obtain ⟨v, rfl, h⟩ := int_open hu ht
    exact ⟨h, trivial⟩
  · rename_i hu
    obtain rfl := Option.some.inj hf
    obtain ⟨v, rfl, h⟩ := bool_open hu ht
    exact ⟨h, trivial⟩
  · rename_i hu
    obtain rfl := Option.some.inj hf
    obtain ⟨v, rfl, h⟩ := str_open hu ht hs
    exact ⟨h, trivial⟩
  · cases hf
theorem leaf1_open : Opens enc P w base held (L1.Is w) (leaf1 P) := by
  intro t ls fuel cs d ps hf ht hs
  unfold leaf1 at hf
  split at hf
  · rename_i k hu
    obtain rfl := Option.some.inj hf
    obtain ⟨v, rfl, h⟩ := int_open hu ht
    exact ⟨h, trivial⟩
  · rename_i hu
    obtain rfl := Option.some.inj hf
    obtain ⟨v, rfl, h⟩ := bool_open hu ht
    exact ⟨h, trivial⟩
  · rename_i hu
    obtain rfl := Option.some.inj hf
    obtain ⟨v, rfl, h⟩ := str_open hu ht hs
    exact ⟨h, trivial⟩
  · rename_i e hu
    cases hfl : flatG (leaf0 P) P 4 e with
    | none => rw [hfl] at hf; cases hf
    | some l =>
      rw [hfl] at hf
      simp only at hf
      split at hf
      · rename_i hc
        obtain rfl := Option.some.inj hf
        rcases Go.Deep.open_slice hu ht with ⟨rfl, _⟩ | ⟨a, len, cap, m, n, D, Pl, rfl, hb, hl, hcap, hm, hx, hi⟩
        · exact ⟨⟨none, 0, 0, rfl, Nat.le_refl _, by omega, by omega, fun _ => rfl, fun i hi => absurd hi (by omega)⟩, trivial⟩
        · obtain ⟨rfl, rfl⟩ := Prod.mk.inj hx
          simp only [if_true] at hm
          subst hm
          refine ⟨⟨some a, len, _, rfl, hl, hcap, ?_, (fun h => by cases h), fun i hin => ?_⟩, trivial⟩
          · refine hs _ ?_
            unfold DataW.weights
            rw [hu]
            refine List.mem_cons.2 (Or.inl ?_)
            simp only [List.length_map, List.length_range]
            congr 1
            omega
          · obtain ⟨cs', hcs, ht'⟩ := hi i (by omega)
            obtain ⟨_, hcl, hat⟩ := World.cells?_some hcs
            refine ⟨a, cs', rfl, flat_open leaf0_open 4 e l n cs' _ _ hfl ht' fun q hq => hs q ?_, fun j v hj => ?_⟩
            · unfold DataW.weights
              rw [hu]
              refine List.mem_cons.2 (Or.inr (List.mem_append_left _ (weights_all (d := D i) (List.mem_map.2 ⟨i, List.mem_range.2 hin, rfl⟩) q hq)))
            · have hjl : j < cs'.length := (List.getElem?_eq_some_iff.1 hj).1
              have := hat j (by omega)
              rw [← Go.Deep.add_add, ← hc, this, hj]
      · cases hf
  · cases hf
/-- an argument, opened -/
theorem arg_open {t : TypeId} {v : Value} {d : DataW H} {ps : List MemPlace} {ls : List L1} {ts : List TypeId} {ds : List (DataW H)} {j : Nat}
    (hf : flatG (leaf1 P) P 4 t = some ls) (h : DataW.Trod enc P w base (fun _ => true) held t v d ps)
    (hsz : (DataW.weightsEach P ts ds).all (· ≤ reachBytes) = true) (ht : ts[j]? = some t) (hd : ds[j]? = some d) : Fa (L1.Is w) ls v.cells.toList := by
  obtain ⟨fuel, hf'⟩ := h
  refine flat_open leaf1_open 4 t ls fuel _ d ps hf hf' fun n hn => ?_
  have := List.all_eq_true.1 hsz n (DataW.weights_mem_each ht hd n hn)
  exact of_decide_eq_true this
end
/-- a slice of whole numbers, opened -/
theorem row_ints {w : World} {k : IntKind} {b : Nat} {v : Value} (h : (L1.row [.int k] b).Is w v) :
    ∃ (A : Option Addr) (n c : Nat) (zs : List Int), v = .slice A n c ∧ n ≤ c ∧ c ≤ 9223372036854775807 ∧ c * b ≤ 140737488351232 ∧ (A = none → c = 0) ∧ zs.length = n ∧ (∀ i z, zs[i]? = some z → (Lit.int k z).wf = true ∧ ∃ bl o, A = some ⟨bl, o, none⟩ ∧ w.cell? ⟨bl, o + i, none⟩ = some (.int k z)) := by
  obtain ⟨A, n, c, rfl, h1, h2, h3, h4, h5⟩ := h
  have key : ∀ m, m ≤ n → ∃ zs : List Int, zs.length = m ∧ ∀ i z, zs[i]? = some z → (Lit.int k z).wf = true ∧ ∃ a, A = some a ∧ w.cell? (a.add i) = some (.int k z) := by
    intro m
    induction m with
    | zero => exact fun _ => ⟨[], rfl, fun i z hz => by simp at hz⟩
    | succ m ih =>
      intro hm
      obtain ⟨zs, hl, hz⟩ := ih (by omega)
      obtain ⟨a, cs, rfl, hF, hc⟩ := h5 m (by omega)
      obtain ⟨v, r, rfl, ⟨z, rfl, hw⟩, hr⟩ := hF.cons_
      refine ⟨zs ++ [z], by simp [hl], fun i y hy => ?_⟩
      by_cases hi : i < zs.length
      · rw [List.getElem?_append_left hi] at hy
        exact hz i y hy
      · rw [List.getElem?_append_right (by omega)] at hy
        obtain rfl : i = m := by
          have := (List.getElem?_eq_some_iff.1 hy).1
          simp at this
          omega
        rw [hl, Nat.sub_self] at hy
        obtain rfl : z = y := by simpa using hy
        exact ⟨hw, a, rfl, by simpa using hc 0 _ rfl⟩
  obtain ⟨zs, hl, hz⟩ := key n (Nat.le_refl _)
  refine ⟨A, n, c, zs, rfl, h1, h2, h3, h4, hl, fun i z hi => ?_⟩
  obtain ⟨hw, a, rfl, hc⟩ := hz i z hi
  obtain ⟨bl, o, s⟩ := a
  have hs : s = none := by
    obtain ⟨_, a', e, hc0⟩ := hz 0 _ (List.getElem?_eq_getElem (by have := (List.getElem?_eq_some_iff.1 hi).1; omega))
    injection e with e
    subst e
    cases s with
    | none => rfl
    | some s => unfold Addr.add World.cell? at hc0; simp at hc0; split at hc0 <;> simp at hc0
  subst hs
  exact ⟨hw, bl, o, rfl, by rw [W.add_at] at hc; exact hc⟩
def Chunks (e : List L0) : Nat → List Value → Prop
  | 0, cs => cs = []
  | n + 1, cs => ∃ a b, cs = a ++ b ∧ Chunks e n a ∧ Fa L0.Is e b
theorem Chunks.len {e : List L0} : ∀ {n : Nat} {cs : List Value}, Chunks e n cs → cs.length = n * e.length
  | 0, cs, h => by rw [show cs = [] from h]; simp
  | n + 1, cs, ⟨a, b, hab, ha, hb⟩ => by rw [hab, List.length_append, ha.len, hb.len, Nat.succ_mul]
/-- a slice of flat values, opened -/
theorem row_sl {w : World} {e : List L0} {b : Nat} {v : Value} (he : 0 < e.length) (h : (L1.row e b).Is w v) :
    ∃ (A : Option Addr) (n c : Nat) (cs : List Value), v = .slice A n c ∧ W.Sl w e.length A n c cs ∧ c * b ≤ 140737488351232 ∧ (A = none → c = 0) ∧ Chunks e n cs := by
  obtain ⟨A, n, c, rfl, h1, h2, h3, h4, h5⟩ := h
  have key : ∀ m, m ≤ n → ∃ cs : List Value, Chunks e m cs ∧ ∀ j u, cs[j]? = some u → ∃ a, A = some a ∧ w.cell? (a.add j) = some u := by
    intro m
    induction m with
    | zero => exact fun _ => ⟨[], rfl, fun j u hu => by simp at hu⟩
    | succ m ih =>
      intro hm
      obtain ⟨cs, hC, hz⟩ := ih (by omega)
      obtain ⟨a, b', rfl, hF, hc⟩ := h5 m (by omega)
      refine ⟨cs ++ b', ⟨cs, b', rfl, hC, hF⟩, fun j u hu => ?_⟩
      by_cases hj : j < cs.length
      · rw [List.getElem?_append_left hj] at hu
        exact hz j u hu
      · rw [List.getElem?_append_right (by omega)] at hu
        refine ⟨a, rfl, ?_⟩
        have := hc _ _ hu
        rw [hC.len] at this hj
        rw [show m * e.length + (j - m * e.length) = j by omega] at this
        exact this
  obtain ⟨cs, hC, hz⟩ := key n (Nat.le_refl _)
  refine ⟨A, n, c, cs, rfl, ⟨hC.len, h1, h2, fun hn => ?_⟩, h3, h4, hC⟩
  have hpos : 0 < cs.length := by rw [hC.len]; exact Nat.mul_pos hn he
  obtain ⟨a, rfl, hc0⟩ := hz 0 _ (List.getElem?_eq_getElem hpos)
  obtain ⟨bl, o, s⟩ := a
  have hs : s = none := by
    cases s with
    | none => rfl
    | some s => unfold Addr.add World.cell? at hc0; simp at hc0; split at hc0 <;> simp at hc0
  subst hs
  refine ⟨bl, o, rfl, fun j u hu => ?_⟩
  obtain ⟨a, e', hc⟩ := hz j u hu
  injection e' with e'
  subst e'
  rw [W.add_at] at hc
  exact hc
end Go.Proofs.YtkanddmihmdagaaGreatDoor.Open
