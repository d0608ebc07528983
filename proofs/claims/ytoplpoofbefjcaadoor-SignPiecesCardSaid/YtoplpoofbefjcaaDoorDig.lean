/- Numbers in digits of any base, lowest first: no program in sight. -/
import GoSem.Claim
namespace Go.Proofs.YtoplpoofbefjcaaDoor.Dig

/-- The element at a place; 0 behind the last. -/
def rd (xs : List Nat) (i : Nat) : Nat := xs.getD i 0
theorem rd_lt {xs : List Nat} {B : Nat} (h : ∀ x ∈ xs, x < B) (hB : 0 < B) (i : Nat) : rd xs i < B := by
  unfold rd
  rw [List.getD_eq_getElem?_getD]
  cases e : xs[i]? with
  | none => simpa using hB
  | some y => exact h _ (List.mem_of_getElem? e)
theorem rd_ge {xs : List Nat} {i : Nat} (h : xs.length ≤ i) : rd xs i = 0 := by
  unfold rd; rw [List.getD_eq_getElem?_getD, List.getElem?_eq_none h]; rfl
theorem rd_append_left {xs ys : List Nat} {i : Nat} (h : i < xs.length) : rd (xs ++ ys) i = rd xs i := by
  unfold rd; rw [List.getD_eq_getElem?_getD, List.getD_eq_getElem?_getD, List.getElem?_append_left h]
theorem rd_append_right {xs ys : List Nat} {i : Nat} (h : xs.length ≤ i) : rd (xs ++ ys) i = rd ys (i - xs.length) := by
  unfold rd; rw [List.getD_eq_getElem?_getD, List.getD_eq_getElem?_getD, List.getElem?_append_right h]
theorem rd_take {xs : List Nat} {i m : Nat} (h : i < m) : rd (xs.take m) i = rd xs i := by
  unfold rd; rw [List.getD_eq_getElem?_getD, List.getD_eq_getElem?_getD, List.getElem?_take_of_lt h]
theorem rd_drop (xs : List Nat) (i m : Nat) : rd (xs.drop m) i = rd xs (m + i) := by
  unfold rd; rw [List.getD_eq_getElem?_getD, List.getD_eq_getElem?_getD, List.getElem?_drop]
theorem take_succ_rd {xs : List Nat} {i : Nat} (h : i < xs.length) : xs.take (i + 1) = xs.take i ++ [rd xs i] := by
  rw [List.take_succ_eq_append_getElem h]; unfold rd; rw [List.getD_eq_getElem?_getD, List.getElem?_eq_getElem h]; rfl
theorem drop_rd {xs : List Nat} {i : Nat} (h : i < xs.length) : xs.drop i = rd xs i :: xs.drop (i + 1) := by
  rw [List.drop_eq_getElem_cons h]; unfold rd; rw [List.getD_eq_getElem?_getD, List.getElem?_eq_getElem h]; rfl
theorem rd_set {xs : List Nat} {i : Nat} (h : i < xs.length) (x j : Nat) : rd (xs.set i x) j = if i = j then x else rd xs j := by
  unfold rd; rw [List.getD_eq_getElem?_getD, List.getD_eq_getElem?_getD, List.getElem?_set]
  by_cases e : i = j
  · subst e; simp [h]
  · simp [e]
theorem rd_replicate (n j : Nat) : rd (List.replicate n 0) j = 0 := by
  unfold rd; rw [List.getD_eq_getElem?_getD, List.getElem?_replicate]; split <;> rfl
theorem rd_cons_zero (x : Nat) (xs : List Nat) : rd (x :: xs) 0 = x := rfl
theorem rd_cons_succ (x : Nat) (xs : List Nat) (i : Nat) : rd (x :: xs) (i + 1) = rd xs i := rfl

/-- The number of digits. -/
def val (B : Nat) : List Nat → Nat
  | [] => 0
  | x :: xs => x + B * val B xs
theorem val_nil (B : Nat) : val B [] = 0 := rfl
theorem val_cons (B x : Nat) (xs : List Nat) : val B (x :: xs) = x + B * val B xs := rfl
theorem val_append (B : Nat) (xs ys : List Nat) : val B (xs ++ ys) = val B xs + B ^ xs.length * val B ys := by
  induction xs with
  | nil => simp [val]
  | cons x xs ih =>
    simp only [List.cons_append, val_cons, ih, List.length_cons, Nat.pow_succ]
    rw [Nat.mul_add, Nat.add_assoc, Nat.mul_comm (B ^ xs.length) B, Nat.mul_assoc]
theorem val_snoc (B : Nat) (xs : List Nat) (x : Nat) : val B (xs ++ [x]) = val B xs + B ^ xs.length * x := by
  rw [val_append]; simp [val]
theorem val_take_succ (B : Nat) {xs : List Nat} {i : Nat} (h : i < xs.length) : val B (xs.take (i + 1)) = val B (xs.take i) + B ^ i * rd xs i := by
  rw [take_succ_rd h, val_snoc, List.length_take, Nat.min_eq_left (by omega)]
theorem val_take_drop (B : Nat) (xs : List Nat) (i : Nat) (h : i ≤ xs.length) : val B xs = val B (xs.take i) + B ^ i * val B (xs.drop i) := by
  have := val_append B (xs.take i) (xs.drop i)
  rw [List.take_append_drop, List.length_take, Nat.min_eq_left h] at this
  exact this
theorem val_lt {B : Nat} (hB : 0 < B) {xs : List Nat} (h : ∀ x ∈ xs, x < B) : val B xs < B ^ xs.length := by
  induction xs with
  | nil => simp [val]
  | cons x xs ih =>
    have h1 := h x (by simp)
    have h2 := ih (fun y hy => h y (by simp [hy]))
    simp only [val_cons, List.length_cons, Nat.pow_succ]
    have h3 : B * (val B xs + 1) ≤ B * B ^ xs.length := Nat.mul_le_mul_left B h2
    rw [Nat.mul_comm (B ^ xs.length) B]
    rw [Nat.mul_add] at h3
    omega
theorem val_replicate_zero (B n : Nat) : val B (List.replicate n 0) = 0 := by
  induction n with
  | zero => rfl
  | succ n ih => simp [List.replicate_succ, val, ih]
theorem val_zeros_append (B n : Nat) (xs : List Nat) : val B (List.replicate n 0 ++ xs) = B ^ n * val B xs := by
  rw [val_append, val_replicate_zero, List.length_replicate, Nat.zero_add]
theorem val_append_zeros (B n : Nat) (xs : List Nat) : val B (xs ++ List.replicate n 0) = val B xs := by
  rw [val_append, val_replicate_zero, Nat.mul_zero, Nat.add_zero]
theorem take_lt {B : Nat} {xs : List Nat} (h : ∀ x ∈ xs, x < B) (i : Nat) : ∀ x ∈ xs.take i, x < B := fun x hx => h x (List.mem_of_mem_take hx)
theorem drop_lt {B : Nat} {xs : List Nat} (h : ∀ x ∈ xs, x < B) (i : Nat) : ∀ x ∈ xs.drop i, x < B := fun x hx => h x (List.mem_of_mem_drop hx)
theorem append_lt {B : Nat} {xs ys : List Nat} (h : ∀ x ∈ xs, x < B) (h' : ∀ x ∈ ys, x < B) : ∀ x ∈ xs ++ ys, x < B := fun x hx => (List.mem_append.1 hx).elim (h x) (h' x)
theorem snoc_lt {B : Nat} {xs : List Nat} {y : Nat} (h : ∀ x ∈ xs, x < B) (h' : y < B) : ∀ x ∈ xs ++ [y], x < B := append_lt h (fun x hx => by rw [List.mem_singleton.1 hx]; exact h')
theorem set_lt {B : Nat} {xs : List Nat} {y i : Nat} (h : ∀ x ∈ xs, x < B) (h' : y < B) : ∀ x ∈ xs.set i y, x < B := fun x hx => (List.mem_or_eq_of_mem_set hx).elim (h x) (fun e => e ▸ h')
theorem replicate_lt {B : Nat} (hB : 0 < B) (n : Nat) : ∀ x ∈ List.replicate n 0, x < B := fun x hx => by rw [(List.mem_replicate.1 hx).2]; exact hB
theorem val_set (B : Nat) {xs : List Nat} {i : Nat} (h : i < xs.length) (x : Nat) : val B (xs.set i x) + B ^ i * rd xs i = val B xs + B ^ i * x := by
  have h1 := val_take_drop B (xs.set i x) i (by rw [List.length_set]; omega)
  have h2 := val_take_drop B xs i (by omega)
  rw [List.take_set_of_le (Nat.le_refl i), drop_rd (by rw [List.length_set]; exact h), List.drop_set_of_lt (by omega), val_cons, rd_set h, if_pos rfl] at h1
  rw [drop_rd h, val_cons] at h2
  rw [h1, h2, Nat.mul_add, Nat.mul_add]
  omega

/-- The digits of a number, without noughts on top. -/
def digs (B : Nat) (n : Nat) : List Nat :=
  if h : n = 0 ∨ B < 2 then [] else n % B :: digs B (n / B)
termination_by n
decreasing_by exact Nat.div_lt_self (by omega) (by omega)
theorem digs_zero (B : Nat) : digs B 0 = [] := by rw [digs]; simp
theorem digs_pos {B n : Nat} (hB : 2 ≤ B) (hn : n ≠ 0) : digs B n = n % B :: digs B (n / B) := by
  rw [digs, dif_neg (by omega)]
theorem val_digs {B : Nat} (hB : 2 ≤ B) (n : Nat) : val B (digs B n) = n := by
  induction n using Nat.strongRecOn with
  | _ n ih =>
    by_cases h : n = 0
    · subst h; rw [digs_zero]; rfl
    · rw [digs_pos hB h, val_cons, ih _ (Nat.div_lt_self (by omega) (by omega))]
      exact Nat.mod_add_div n B
theorem digs_lt {B : Nat} (hB : 2 ≤ B) (n : Nat) : ∀ x ∈ digs B n, x < B := by
  induction n using Nat.strongRecOn with
  | _ n ih =>
    intro x hx
    by_cases h : n = 0
    · subst h; rw [digs_zero] at hx; cases hx
    · rw [digs_pos hB h] at hx
      cases List.mem_cons.1 hx with
      | inl e => rw [e]; exact Nat.mod_lt _ (by omega)
      | inr e => exact ih _ (Nat.div_lt_self (by omega) (by omega)) x e
theorem digs_eq_nil {B : Nat} (hB : 2 ≤ B) {n : Nat} : digs B n = [] ↔ n = 0 := by
  constructor
  · intro h; have := val_digs hB n; rw [h] at this; exact this.symm
  · rintro rfl; exact digs_zero B
theorem digs_length_pos {B : Nat} (hB : 2 ≤ B) {n : Nat} (h : n ≠ 0) : 0 < (digs B n).length := by
  rw [digs_pos hB h]; simp
theorem digs_length_eq_zero {B : Nat} (hB : 2 ≤ B) {n : Nat} : (digs B n).length = 0 ↔ n = 0 := by
  rw [List.length_eq_zero_iff]; exact digs_eq_nil hB
/-- digits below B, the top one not 0: these are the number's digits. -/
theorem digs_val {B : Nat} (hB : 2 ≤ B) : ∀ {xs : List Nat}, (∀ x ∈ xs, x < B) → (xs.length ≠ 0 → rd xs (xs.length - 1) ≠ 0) → digs B (val B xs) = xs
  | [], _, _ => digs_zero B
  | x :: xs, h, ht => by
    have hx : x < B := h x (by simp)
    have h' : ∀ y ∈ xs, y < B := fun y hy => h y (by simp [hy])
    have ht' : xs.length ≠ 0 → rd xs (xs.length - 1) ≠ 0 := fun hl => by
      have := ht (by simp)
      rw [List.length_cons, Nat.add_sub_cancel] at this
      obtain ⟨k, hk⟩ : ∃ k, xs.length = k + 1 := ⟨xs.length - 1, by omega⟩
      rw [hk, rd_cons_succ] at this
      rw [hk]; exact this
    have ih := digs_val hB h' ht'
    have hne : val B (x :: xs) ≠ 0 := by
      rw [val_cons]
      cases xs with
      | nil => have := ht (by simp); simp [rd] at this; simp [val]; omega
      | cons y ys =>
        intro e
        have h0 : val B (y :: ys) = 0 := by
          rcases Nat.eq_zero_or_pos (val B (y :: ys)) with z | z
          · exact z
          · have : 0 < B * val B (y :: ys) := Nat.mul_pos (by omega) z
            omega
        rw [h0, digs_zero] at ih
        cases ih
    rw [digs_pos hB hne, val_cons, Nat.add_mul_mod_self_left, Nat.mod_eq_of_lt hx, Nat.add_mul_div_left _ _ (by omega), Nat.div_eq_of_lt hx, Nat.zero_add, ih]
theorem digs_top {B : Nat} (hB : 2 ≤ B) {n : Nat} (h : (digs B n).length ≠ 0) : rd (digs B n) ((digs B n).length - 1) ≠ 0 := by
  induction n using Nat.strongRecOn with
  | _ n ih =>
    by_cases hn : n = 0
    · subst hn; rw [digs_zero] at h; exact absurd rfl h
    · rw [digs_pos hB hn]
      by_cases hd : n / B = 0
      · rw [hd, digs_zero]
        have : n < B := by
          rcases Nat.lt_or_ge n B with z | z
          · exact z
          · have := Nat.div_pos (a := n) (b := B) z (by omega); omega
        show n % B ≠ 0
        rw [Nat.mod_eq_of_lt this]; exact hn
      · have h1 := digs_length_pos hB hd
        obtain ⟨k, hk⟩ : ∃ k, (digs B (n / B)).length = k + 1 := ⟨(digs B (n / B)).length - 1, by omega⟩
        have := ih (n / B) (Nat.div_lt_self (by omega) (by omega)) (by omega)
        rw [hk] at this
        rw [List.length_cons, hk, Nat.add_sub_cancel, rd_cons_succ]
        exact this
/-- How many digits: as many as the power of the base says. -/
theorem digs_length_le {B : Nat} (hB : 2 ≤ B) (n k : Nat) : (digs B n).length ≤ k ↔ n < B ^ k := by
  induction k generalizing n with
  | zero =>
    rw [Nat.le_zero, digs_length_eq_zero hB]; simp
  | succ k ih =>
    by_cases hn : n = 0
    · subst hn; rw [digs_zero]; simp; exact Nat.pow_pos (by omega)
    · rw [digs_pos hB hn, List.length_cons, Nat.succ_le_succ_iff, ih, Nat.pow_succ, Nat.div_lt_iff_lt_mul (by omega)]
theorem lt_pow_length {B : Nat} (hB : 2 ≤ B) (n : Nat) : n < B ^ (digs B n).length := (digs_length_le hB n _).1 (Nat.le_refl _)
theorem pow_length_le {B : Nat} (hB : 2 ≤ B) {n : Nat} (h : n ≠ 0) : B ^ ((digs B n).length - 1) ≤ n := by
  rcases Nat.lt_or_ge n (B ^ ((digs B n).length - 1)) with z | z
  · have := (digs_length_le hB n _).2 z
    have := digs_length_pos hB h
    omega
  · exact z
theorem digs_length_mono {B : Nat} (hB : 2 ≤ B) {m n : Nat} (h : m ≤ n) : (digs B m).length ≤ (digs B n).length :=
  (digs_length_le hB m _).2 (Nat.lt_of_le_of_lt h (lt_pow_length hB n))
theorem digs_one {B n : Nat} (hB : 2 ≤ B) (h : n < B) (h0 : n ≠ 0) : digs B n = [n] := by
  rw [digs_pos hB h0, Nat.mod_eq_of_lt h, Nat.div_eq_of_lt h, digs_zero]
theorem digs_inj {B : Nat} (hB : 2 ≤ B) {m n : Nat} (h : digs B m = digs B n) : m = n := by
  have := congrArg (val B) h; rwa [val_digs hB, val_digs hB] at this

/-- How many of the first m are left without noughts on top. -/
def trimN (xs : List Nat) : Nat → Nat
  | 0 => 0
  | m + 1 => if rd xs m = 0 then trimN xs m else m + 1
theorem trimN_le (xs : List Nat) : ∀ m, trimN xs m ≤ m
  | 0 => Nat.le_refl _
  | m + 1 => by
    have := trimN_le xs m
    unfold trimN; split <;> omega
theorem trimN_top (xs : List Nat) : ∀ m, trimN xs m ≠ 0 → rd xs (trimN xs m - 1) ≠ 0
  | 0, h => absurd rfl h
  | m + 1, h => by
    unfold trimN at h ⊢
    split
    · rename_i e; rw [if_pos e] at h; exact trimN_top xs m h
    · rename_i e; exact e
theorem val_trimN (B : Nat) (xs : List Nat) : ∀ m, m ≤ xs.length → val B (xs.take (trimN xs m)) = val B (xs.take m)
  | 0, _ => rfl
  | m + 1, h => by
    have ih := val_trimN B xs m (by omega)
    unfold trimN
    split
    · rename_i e; rw [ih, val_take_succ B h, e, Nat.mul_zero, Nat.add_zero]
    · rfl
theorem trim_digs {B : Nat} (hB : 2 ≤ B) {xs : List Nat} (h : ∀ x ∈ xs, x < B) : xs.take (trimN xs xs.length) = digs B (val B xs) := by
  have h1 := val_trimN B xs xs.length (Nat.le_refl _)
  rw [List.take_length] at h1
  have hl := trimN_le xs xs.length
  have h2 := digs_val hB (take_lt h (trimN xs xs.length)) (fun hn => by
    rw [List.length_take, Nat.min_eq_left hl] at hn ⊢
    rw [rd_take (by omega)]
    exact trimN_top xs _ hn)
  rw [h1] at h2
  exact h2.symm
theorem trim_len {B : Nat} (hB : 2 ≤ B) {xs : List Nat} (h : ∀ x ∈ xs, x < B) : trimN xs xs.length = (digs B (val B xs)).length := by
  rw [← trim_digs hB h, List.length_take, Nat.min_eq_left (trimN_le _ _)]
theorem trim_self {B : Nat} (hB : 2 ≤ B) (n : Nat) : trimN (digs B n) (digs B n).length = (digs B n).length := by
  rw [trim_len hB (digs_lt hB n), val_digs hB]

/-- How two numbers stand, by the digit in which they part. -/
theorem val_lt_of_top {B : Nat} (hB : 2 ≤ B) {xs ys : List Nat} (hx : ∀ x ∈ xs, x < B) (i : Nat) (hxi : i < xs.length) (hyi : i < ys.length) (h : rd xs i < rd ys i) :
    val B (xs.take (i + 1)) < val B (ys.take (i + 1)) := by
  rw [val_take_succ B hxi, val_take_succ B hyi]
  have h1 := val_lt (B := B) (by omega) (take_lt hx i)
  rw [List.length_take, Nat.min_eq_left (by omega)] at h1
  have h2 : B ^ i * (rd xs i + 1) ≤ B ^ i * rd ys i := Nat.mul_le_mul_left _ h
  rw [Nat.mul_add] at h2
  omega
/-- -1, 0, 1. -/
def cmp (a b : Nat) : Int := if a < b then -1 else if b < a then 1 else 0
theorem cmp_self (a : Nat) : cmp a a = 0 := by simp [cmp]
theorem ext_rd {xs ys : List Nat} (hl : xs.length = ys.length) (h : ∀ j, j < xs.length → rd xs j = rd ys j) : xs = ys := by
  apply List.ext_getElem hl
  intro j h1 h2
  have := h j h1
  unfold rd at this
  rw [List.getD_eq_getElem?_getD, List.getD_eq_getElem?_getD, List.getElem?_eq_getElem h1, List.getElem?_eq_getElem h2] at this
  exact this
theorem cmp_top {B : Nat} (hB : 2 ≤ B) {xs ys : List Nat} (hx : ∀ x ∈ xs, x < B) (hy : ∀ y ∈ ys, y < B) (hl : xs.length = ys.length) (i : Nat) (hi : i < xs.length)
    (he : ∀ j, i < j → j < xs.length → rd xs j = rd ys j) (hne : rd xs i ≠ rd ys i) : cmp (val B xs) (val B ys) = cmp (rd xs i) (rd ys i) := by
  have h1 := val_take_drop B xs (i + 1) (by omega)
  have h2 := val_take_drop B ys (i + 1) (by omega)
  have hd : xs.drop (i + 1) = ys.drop (i + 1) := by
    apply ext_rd (by rw [List.length_drop, List.length_drop, hl])
    intro j hj
    rw [List.length_drop] at hj
    rw [rd_drop, rd_drop]
    exact he _ (by omega) (by omega)
  rw [hd] at h1
  unfold cmp
  rcases Nat.lt_trichotomy (rd xs i) (rd ys i) with h | h | h
  · have := val_lt_of_top hB hx i hi (by omega) h
    rw [if_pos h, if_pos (by omega)]
  · exact absurd h hne
  · have := val_lt_of_top hB hy i (by omega) hi h
    rw [if_neg (Nat.lt_asymm h), if_pos h, if_neg (by omega), if_pos (by omega)]
theorem cmp_len {B : Nat} (hB : 2 ≤ B) {a b : Nat} (h : (digs B a).length ≠ (digs B b).length) : cmp a b = cmp (digs B a).length (digs B b).length := by
  unfold cmp
  rcases Nat.lt_trichotomy (digs B a).length (digs B b).length with z | z | z
  · have hab : a < b := by
      rcases Nat.lt_or_ge a b with y | y
      · exact y
      · have := digs_length_mono hB y; omega
    rw [if_pos z, if_pos hab]
  · exact absurd z h
  · have hab : b < a := by
      rcases Nat.lt_or_ge b a with y | y
      · exact y
      · have := digs_length_mono hB y; omega
    rw [if_neg (Nat.lt_asymm z), if_pos z, if_neg (Nat.lt_asymm hab), if_pos hab]
/-- The number of the first i digits; noughts behind the last. -/
def pv (B : Nat) (xs : List Nat) : Nat → Nat
  | 0 => 0
  | i + 1 => pv B xs i + B ^ i * rd xs i
theorem pv_take (B : Nat) (xs : List Nat) (i : Nat) : pv B xs i = val B (xs.take i) := by
  induction i with
  | zero => rfl
  | succ i ih =>
    rw [pv, ih]
    rcases Nat.lt_or_ge i xs.length with h | h
    · rw [val_take_succ B h]
    · rw [rd_ge h, List.take_of_length_le h, List.take_of_length_le (by omega), Nat.mul_zero, Nat.add_zero]
theorem pv_all (B : Nat) {xs : List Nat} {i : Nat} (h : xs.length ≤ i) : pv B xs i = val B xs := by rw [pv_take, List.take_of_length_le h]
theorem pv_lt {B : Nat} (hB : 0 < B) {xs : List Nat} (h : ∀ x ∈ xs, x < B) (i : Nat) : pv B xs i < B ^ i := by
  induction i with
  | zero => simp [pv]
  | succ i ih =>
    have h1 := rd_lt h hB i
    have h2 : B ^ i * (rd xs i + 1) ≤ B ^ i * B := Nat.mul_le_mul_left _ h1
    rw [pv, Nat.pow_succ]
    rw [Nat.mul_add] at h2
    omega
/-- one round of a sum -/
theorem add_round {B o p q c x y i : Nat} (h : o + B ^ i * c = p + q) : o + B ^ i * ((x + y + c) % B) + B ^ (i + 1) * ((x + y + c) / B) = (p + B ^ i * x) + (q + B ^ i * y) := by
  have e := Nat.mod_add_div (x + y + c) B
  have e' : B ^ i * ((x + y + c) % B) + B ^ (i + 1) * ((x + y + c) / B) = B ^ i * (x + y + c) := by
    rw [Nat.pow_succ, Nat.mul_assoc, ← Nat.mul_add, e]
  rw [Nat.add_assoc, e', Nat.mul_add, Nat.mul_add]
  omega
/-- one round of a difference -/
theorem sub_round {B o p q c x y i : Nat} (hx : x < B) (hy : y < B) (hc : c ≤ 1) (h : o + q = p + B ^ i * c) :
    o + B ^ i * ((x + B - y - c) % B) + (q + B ^ i * y) = (p + B ^ i * x) + B ^ (i + 1) * (if x < y + c then 1 else 0) := by
  have key : (x + B - y - c) % B + y + c = x + B * (if x < y + c then 1 else 0) := by
    split
    · rw [Nat.mod_eq_of_lt (by omega)]; omega
    · rw [show x + B - y - c = x - y - c + B by omega, Nat.add_mod_right, Nat.mod_eq_of_lt (by omega)]; omega
  have := congrArg (fun z => B ^ i * z) key
  simp only [Nat.mul_add] at this
  rw [← Nat.mul_assoc] at this
  rw [Nat.pow_succ]
  omega
/-- How many bits a number has. -/
def nbits (n : Nat) : Nat := (digs 2 n).length
theorem bits_le (n k : Nat) : nbits n ≤ k ↔ n < 2 ^ k := digs_length_le (by omega) n k
theorem bits_zero : nbits 0 = 0 := by unfold nbits; rw [digs_zero]; rfl
theorem bits_pos {n : Nat} (h : n ≠ 0) : 0 < nbits n := digs_length_pos (by omega) h
theorem pow_bits_le {n : Nat} (h : n ≠ 0) : 2 ^ (nbits n - 1) ≤ n := pow_length_le (by omega) h
theorem lt_pow_bits (n : Nat) : n < 2 ^ nbits n := lt_pow_length (by omega) n
theorem bits_of {n k : Nat} (h1 : 2 ^ k ≤ n) (h2 : n < 2 ^ (k + 1)) : nbits n = k + 1 := by
  have a := (bits_le n (k + 1)).2 h2
  have b : ¬ nbits n ≤ k := fun h => by have := (bits_le n k).1 h; omega
  omega
theorem bits_mul_pow {n : Nat} (h : n ≠ 0) (k : Nat) : nbits (n * 2 ^ k) = nbits n + k := by
  obtain ⟨j, hj⟩ : ∃ j, nbits n = j + 1 := ⟨nbits n - 1, by have := bits_pos h; omega⟩
  have h1 := pow_bits_le h
  have h2 := lt_pow_bits n
  rw [hj] at h1 h2 ⊢
  rw [Nat.add_sub_cancel] at h1
  rw [show j + 1 + k = (j + k) + 1 by omega]
  apply bits_of
  · rw [Nat.pow_add]; exact Nat.mul_le_mul_right _ h1
  · rw [show j + k + 1 = (j + 1) + k by omega, Nat.pow_add]; exact Nat.mul_lt_mul_of_pos_right h2 (Nat.pow_pos (by omega))
/-- The bits of digits of k bits each: those of the top one, and k for each below. -/
theorem bits_top {k : Nat} (hk : 0 < k) {n : Nat} (h : n ≠ 0) : nbits n = k * ((digs (2 ^ k) n).length - 1) + nbits (rd (digs (2 ^ k) n) ((digs (2 ^ k) n).length - 1)) := by
  have hB : 2 ≤ 2 ^ k := by have := Nat.pow_le_pow_right (n := 2) (by omega) hk; simpa using this
  have hl := digs_length_pos hB h
  obtain ⟨l, hl'⟩ : ∃ l, (digs (2 ^ k) n).length = l + 1 := ⟨(digs (2 ^ k) n).length - 1, by omega⟩
  have ht := digs_top hB (n := n) (by omega)
  rw [hl'] at ht ⊢
  rw [Nat.add_sub_cancel] at ht ⊢
  have hv := val_take_succ (2 ^ k) (xs := digs (2 ^ k) n) (i := l) (by omega)
  rw [← hl', List.take_length, val_digs hB] at hv
  have hlow := val_lt (B := 2 ^ k) (by omega) (take_lt (digs_lt hB n) l)
  rw [List.length_take, Nat.min_eq_left (by omega), ← Nat.pow_mul] at hlow
  rw [← Nat.pow_mul] at hv
  generalize rd (digs (2 ^ k) n) l = t at ht hv ⊢
  generalize val (2 ^ k) (List.take l (digs (2 ^ k) n)) = lo at hv hlow
  obtain ⟨j, hj⟩ : ∃ j, nbits t = j + 1 := ⟨nbits t - 1, by have := bits_pos ht; omega⟩
  have h1 := pow_bits_le ht
  have h2 := lt_pow_bits t
  rw [hj] at h1 h2 ⊢
  rw [Nat.add_sub_cancel] at h1
  rw [show k * l + (j + 1) = (k * l + j) + 1 by omega]
  apply bits_of
  · rw [hv, Nat.pow_add]
    have := Nat.mul_le_mul_left (2 ^ (k * l)) h1
    omega
  · rw [hv, show k * l + j + 1 = k * l + (j + 1) by omega, Nat.pow_add]
    have := Nat.mul_le_mul_left (2 ^ (k * l)) (Nat.succ_le_of_lt h2)
    rw [Nat.mul_succ] at this
    omega
end Go.Proofs.YtoplpoofbefjcaaDoor.Dig
