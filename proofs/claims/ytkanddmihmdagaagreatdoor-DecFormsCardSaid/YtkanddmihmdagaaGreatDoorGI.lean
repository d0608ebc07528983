/- Texts of one layer, joined: Bk, Pa, Pb, Pc, Pd, Pe, Pf, Pg, Ph, Pi. -/
import Derived.Test.YtkanddmihmdagaaGreatDoorGB
import Derived.Test.YtkanddmihmdagaaGreatDoorGH
import Derived.Test.YtkanddmihmdagaaGreatDoorGD
import Derived.Test.YtkanddmihmdagaaGreatDoorGC
set_option linter.unusedVariables false
set_option linter.unusedSimpArgs false
set_option linter.unusedSectionVars false
/- Words for memory: a block of cells, known whole. -/
set_option linter.unusedSimpArgs false
set_option linter.unusedVariables false
namespace Go.Proofs.YtkanddmihmdagaaGreatDoor.W
open Go.RowKit Go.Proofs.YtkanddmihmdagaaGreatDoor.Dig Go.Proofs.YtkanddmihmdagaaGreatDoor.Nat

/-- block g holds these cells -/
def Bk (w : World) (g : Nat) (t : TypeId) (cs : Array Value) : Prop := w.heap[g]? = some (.cells cs t (0, 0))
section
variable {w w' : World} {g g' : Nat} {t : TypeId} {cs : Array Value} {v : Value} {j : Nat}
theorem Bk.start (w : World) (t : TypeId) (cs : Array Value) : Bk (w.alloc (.cells cs t)) w.heap.size t cs := heap_alloc_new w _
theorem Bk.lt (h : Bk w g t cs) : g < w.heap.size := (Array.getElem?_eq_some_iff.1 h).1
theorem Bk.below (h : Bk w g t cs) (hb : Below w.heap.size w w') : Bk w' g t cs := (hb.block g h.lt).trans h
theorem Bk.alloc (h : Bk w g t cs) (o : Obj) : Bk (w.alloc o) g t cs := h.below (alloc_below _ _)
theorem Bk.drewN (h : Bk w g t cs) (n : Nat) : Bk (w.drewN n) g t cs := h
theorem Bk.drew (h : Bk w g t cs) : Bk w.drew g t cs := h
theorem Bk.at_ (h : Bk w g t cs) (j : Nat) (e : cs[j]? = some v) : w.cell? ⟨g, j, none⟩ = some v := (cell_of_row _ _ j _ _ _ h).trans e
theorem Bk.fr (h : Bk w g t cs) (j : Nat) : w.frozen? ⟨g, j, none⟩ = false := frozen_of_row _ _ j _ _ h
theorem Bk.set (h : Bk w g t cs) (j : Nat) (v : Value) : Bk (w.setCell ⟨g, j, none⟩ v) g t (cs.setIfInBounds j v) := heap_setCell_same w g j cs t v h
theorem Bk.far (h : Bk w g t cs) {a : Addr} (v : Value) (hne : g ≠ a.block) : Bk (w.setCell a v) g t cs := (heap_setCell_other w a g v hne).trans h
theorem Bk.cast {cs' : Array Value} (h : Bk w g t cs) (e : cs = cs') : Bk w g t cs' := e ▸ h
theorem res_bk {P : Program} {fn : Func} {p : Tmp} {ty : TypeId} (h : fn.results = #[.cell p ty]) (tmps : Array Value) {d : TypeDesc} (hg : Bk w g t cs) (hp : tmps.getD p undef = .pointer (some ⟨g, 0, none⟩))
    (hu : P.underlying ty = some d) (hd : (match d with | .struct _ | .array _ _ => true | _ => false) = true) (hi : (P.info? ty).map (·.size) = some cs.size) :
    (results fn tmps).run P w = .ok (.agg cs) w := results_cell_row h tmps w g t cs _ d hp hg hu hd hi
theorem res_bk_tt {P : Program} {fn : Func} {p q r : Tmp} {ty : TypeId} (h : fn.results = #[.cell p ty, .tmp q, .tmp r]) (tmps : Array Value) {d : TypeDesc} (hg : Bk w g t cs) (hp : tmps.getD p undef = .pointer (some ⟨g, 0, none⟩))
    (hu : P.underlying ty = some d) (hd : (match d with | .struct _ | .array _ _ => true | _ => false) = true) (hi : (P.info? ty).map (·.size) = some cs.size) :
    (results fn tmps).run P w = .ok (.tuple #[.agg cs, tmps.getD q undef, tmps.getD r undef]) w := by
  have hp' : tmps[p]?.getD undef = .pointer (some ⟨g, 0, none⟩) := by simpa using hp
  have e1 := run_loadVar_row (P := P) w g t ty cs (0, 0) _ hg hu hd hi
  simp [results, h, hp', asAddr, e1]
theorem Bk.set4 (h : Bk w g t cs) (a b c d : Value) (e : cs.size = 4) : Bk ((((w.setCell ⟨g, 0, none⟩ a).setCell ⟨g, 1, none⟩ b).setCell ⟨g, 2, none⟩ c).setCell ⟨g, 3, none⟩ d) g t #[a, b, c, d] := by
  refine ((((h.set 0 a).set 1 b).set 2 c).set 3 d).cast ?_
  rcases cs with ⟨l⟩
  match l, e with
  | [x, y, z, u], _ => rfl
end
end Go.Proofs.YtkanddmihmdagaaGreatDoor.W

/- Layer 6, in plain numbers: rounding an amount A to units U. -/
set_option linter.unusedVariables false
namespace Go.Proofs.YtkanddmihmdagaaGreatDoor.Rd

/-- one unit more? the mode, the sign, is the whole number odd, how twice the rest stands to the unit -/
def up (mode : Nat) (neg odd : Bool) (half : Int) : Bool :=
  match mode with
  | 0 => !neg
  | 1 => neg
  | 2 => false
  | 3 => true
  | 4 => decide (0 < half) || (decide (half = 0) && odd)
  | 5 => decide (0 < half)
  | 6 => decide (0 ≤ half)
  | _ => decide (0 < half) || (decide (half = 0) && !odd)
/-- the reference's word: the greater neighbour of the signed number? -/
def greater (mode : Nat) (odd neg : Bool) (half : Int) : Bool :=
  match mode with
  | 0 => true
  | 1 => false
  | 2 => neg
  | 3 => !neg
  | 4 => if half ≠ 0 then decide (0 < half) else odd
  | 5 => if half ≠ 0 then decide (0 < half) else neg
  | 6 => if half ≠ 0 then decide (0 < half) else !neg
  | _ => if half ≠ 0 then decide (0 < half) else !odd
theorem greater_up {mode : Nat} (hm : mode < 8) (odd : Bool) {half : Int} (h : half = -1 ∨ half = 0 ∨ half = 1) :
    greater mode odd false half = up mode false odd half ∧ greater mode (!odd) true (-half) = !up mode true odd half := by
  obtain rfl | rfl | rfl | rfl | rfl | rfl | rfl | rfl : mode = 0 ∨ mode = 1 ∨ mode = 2 ∨ mode = 3 ∨ mode = 4 ∨ mode = 5 ∨ mode = 6 ∨ mode = 7 := by omega
  all_goals rcases h with rfl | rfl | rfl <;> cases odd <;> exact ⟨rfl, rfl⟩
/-- how two stand -/
def stand (a b : Nat) : Int := if a < b then -1 else if a = b then 0 else 1
theorem stand_three (a b : Nat) : stand a b = -1 ∨ stand a b = 0 ∨ stand a b = 1 := by
  unfold stand
  repeat' split
  all_goals simp
theorem stand_mul (a b : Nat) {k : Nat} (hk : 0 < k) : stand (a * k) (b * k) = stand a b := by
  unfold stand
  have h1 : (a * k < b * k) = (a < b) := propext ⟨fun h => Nat.lt_of_mul_lt_mul_right h, fun h => Nat.mul_lt_mul_of_pos_right h hk⟩
  have h2 : (a * k = b * k) = (a = b) := propext ⟨fun h => Nat.eq_of_mul_eq_mul_right hk h, fun h => by rw [h]⟩
  simp only [h1, h2]
theorem stand_mono {a b : Nat} (U : Nat) (h : a ≤ b) : stand a U ≤ stand b U := by
  unfold stand
  repeat' split
  all_goals omega
/-- the rest of the other side -/
theorem stand_rest {r U : Nat} (h : r < U) : stand (2 * (U - r)) U = -stand (2 * r) U := by
  unfold stand
  by_cases h1 : 2 * r < U
  · rw [if_pos h1, if_neg (by omega), if_neg (by omega)]; rfl
  · by_cases h2 : 2 * r = U
    · rw [if_neg h1, if_pos h2, if_neg (by omega), if_pos (by omega)]; rfl
    · rw [if_neg h1, if_neg h2, if_pos (by omega)]
/-- how many units -/
def rnd (mode : Nat) (neg : Bool) (A U : Nat) : Nat :=
  if A % U = 0 then A / U else A / U + (up mode neg (decide (A / U % 2 = 1)) (stand (2 * (A % U)) U)).toNat
theorem rnd_mul (mode : Nat) (neg : Bool) (A U : Nat) {k : Nat} (hk : 0 < k) : rnd mode neg (A * k) (U * k) = rnd mode neg A U := by
  unfold rnd
  have h1 : A * k / (U * k) = A / U := Nat.mul_div_mul_right _ _ hk
  have h2 : A * k % (U * k) = A % U * k := Nat.mul_mod_mul_right ..
  have h3 : (A % U * k = 0) = (A % U = 0) := propext ⟨fun h => (Nat.mul_eq_zero.1 h).resolve_right (by omega), fun h => by rw [h, Nat.zero_mul]⟩
  rw [h1, h2, ← Nat.mul_assoc, stand_mul _ _ hk]
  simp only [h3]
/-- nothing changes at a unit that all digits reach -/
theorem rnd_dvd (mode : Nat) (neg : Bool) (n U : Nat) (hU : 0 < U) : rnd mode neg (n * U) U = n := by
  unfold rnd
  rw [if_pos (Nat.mul_mod_left ..), Nat.mul_div_cancel _ hU]
/-- nowhere near one unit -/
theorem rnd_far (mode : Nat) (neg : Bool) {A U : Nat} (h0 : 0 < A) (h : 2 * A < U) : rnd mode neg A U = (up mode neg false (-1)).toNat := by
  unfold rnd
  rw [Nat.mod_eq_of_lt (by omega), Nat.div_eq_of_lt (by omega), if_neg (by omega)]
  have : stand (2 * A) U = -1 := by unfold stand; rw [if_pos h]
  rw [this, Nat.zero_add]
  rfl
/-- the reference's way: the signed number's quotient, rounded down, one more if the greater one is taken: its amount is rnd -/
theorem rnd_pos {mode A U : Nat} (hm : mode < 8) (h : A % U ≠ 0) :
    A / U + (greater mode (decide (A / U % 2 = 1)) false (stand (2 * (A % U)) U)).toNat = rnd mode false A U := by
  unfold rnd
  rw [if_neg h, (greater_up hm _ (stand_three ..)).1]
theorem rnd_neg {mode A U : Nat} (hm : mode < 8) (hU : 0 < U) (h : A % U ≠ 0) :
    A / U + 1 - (greater mode (decide ((A / U + 1) % 2 = 1)) true (stand (2 * (U - A % U)) U)).toNat = rnd mode true A U := by
  have e : decide ((A / U + 1) % 2 = 1) = !decide (A / U % 2 = 1) := by
    rw [Bool.eq_iff_iff]; simp; omega
  unfold rnd
  rw [if_neg h, stand_rest (Nat.mod_lt _ hU), e, (greater_up hm _ (stand_three ..)).2]
  cases up mode true (decide (A / U % 2 = 1)) (stand (2 * (A % U)) U) <;> rfl
/-- a sign's turn: the modes of above and below change places -/
theorem up_turn {mode : Nat} (hm : mode < 8) (neg odd : Bool) (half : Int) :
    up (if mode = 0 then 1 else if mode = 1 then 0 else mode) (!neg) odd half = up mode neg odd half := by
  obtain rfl | rfl | rfl | rfl | rfl | rfl | rfl | rfl : mode = 0 ∨ mode = 1 ∨ mode = 2 ∨ mode = 3 ∨ mode = 4 ∨ mode = 5 ∨ mode = 6 ∨ mode = 7 := by omega
  all_goals cases neg <;> rfl
theorem rnd_turn {mode : Nat} (hm : mode < 8) (neg : Bool) (A U : Nat) :
    rnd (if mode = 0 then 1 else if mode = 1 then 0 else mode) (!neg) A U = rnd mode neg A U := by
  unfold rnd
  rw [up_turn hm]
/-- at most one more, and none less -/
theorem rnd_near (mode : Nat) (neg : Bool) (A U : Nat) : A / U ≤ rnd mode neg A U ∧ rnd mode neg A U ≤ A / U + 1 := by
  unfold rnd
  split
  · exact ⟨Nat.le_refl _, Nat.le_succ _⟩
  · cases up mode neg (decide (A / U % 2 = 1)) (stand (2 * (A % U)) U) <;> simp
/-- rounding rises with the amount -/
theorem rnd_mono {mode : Nat} (neg : Bool) {A B U : Nat} (hU : 0 < U) (h : A ≤ B) : rnd mode neg A U ≤ rnd mode neg B U := by
  rcases Nat.lt_or_ge (A / U) (B / U) with h1 | h1
  · have ha := (rnd_near mode neg A U).2
    have hb := (rnd_near mode neg B U).1
    omega
  · have e : A / U = B / U := Nat.le_antisymm (Nat.div_le_div_right h) h1
    have hr : A % U ≤ B % U := by
      have p := Nat.div_add_mod A U
      have q := Nat.div_add_mod B U
      rw [e] at p
      omega
    unfold rnd
    rw [e]
    by_cases z : A % U = 0
    · rw [if_pos z]
      split
      · exact Nat.le_refl _
      · exact Nat.le_add_right ..
    · rw [if_neg z, if_neg (by omega)]
      have hs : stand (2 * (A % U)) U ≤ stand (2 * (B % U)) U := stand_mono U (by omega)
      generalize decide (B / U % 2 = 1) = odd
      revert hs
      rcases stand_three (2 * (A % U)) U with h1 | h1 | h1 <;> rcases stand_three (2 * (B % U)) U with h2 | h2 | h2 <;> rw [h1, h2] <;> intro hs <;>
        first
          | exact Nat.le_refl _
          | (exfalso; revert hs; decide)
          | (unfold up; split <;> cases neg <;> cases odd <;> simp)
end Go.Proofs.YtkanddmihmdagaaGreatDoor.Rd

/- Layer 6, in plain numbers: a Dec's digits are its number's own; which Decs may be. -/
set_option linter.unusedVariables false
namespace Go.Proofs.YtkanddmihmdagaaGreatDoor.Rd
open Go.Lib Go.Proofs.YtkanddmihmdagaaGreatDoor.Td Go.Proofs.YtkanddmihmdagaaGreatDoor.Sp

/-- the form of digits: none but digits, no nought at either end -/
structure Formed (l : List UInt8) : Prop where
  dig : ∀ c ∈ l, isDig c
  head : ∃ c r, l = c :: r ∧ (c == 48) = false
  last : ∃ r c, l = r ++ [c] ∧ (c == 48) = false
theorem Formed.ne {l : List UInt8} (h : Formed l) : l ≠ [] := by
  obtain ⟨c, r, e, _⟩ := h.head
  rw [e]
  exact List.cons_ne_nil _ _
theorem ne_48 {c : UInt8} (h : (c == 48) = false) : c ≠ 48 := fun e => by rw [e] at h; cases h
theorem Formed.nv_mod {l : List UInt8} (h : Formed l) : nv 0 l % 10 ≠ 0 := by
  obtain ⟨r, c, rfl, hc⟩ := h.last
  have d : 48 ≤ c.toNat ∧ c.toNat ≤ 57 := h.dig c (by simp)
  have n : c.toNat ≠ 48 := fun e => ne_48 hc (UInt8.toNat_inj.mp e)
  rw [nv_append, nv_cons, nv_nil]
  omega
theorem Formed.cd {l : List UInt8} (h : Formed l) : cd (nv 0 l) = l := by
  have e := cd_of (b := nv 0 l) (k := 0) h.nv_mod
  rw [Nat.pow_zero, Nat.mul_one] at e
  rw [e]
  obtain ⟨c, r, e, hc⟩ := h.head
  exact dec_nv h.dig ⟨c, r, e, .inl (ne_48 hc)⟩
theorem Formed.ce {l : List UInt8} (h : Formed l) (x : Int) : ce (nv 0 l) x = x := by
  have e := ce_of (b := nv 0 l) (k := 0) h.nv_mod x
  rw [Nat.pow_zero, Nat.mul_one] at e
  rw [e]
  simp
theorem Formed.pos {l : List UInt8} (h : Formed l) : 0 < nv 0 l := by
  have := h.nv_mod
  omega
theorem formed_cd {a : Nat} (h : a ≠ 0) : Formed (cd a) := ⟨cd_isDig a, (cd_ends h).1, (cd_ends h).2⟩
/-- which Decs may be: those that are not zero, by the place of their first digit -/
def fits (l : List UInt8) (x : Int) : Prop := l.length ≤ 1000 ∧ -2000 ≤ (l.length : Int) + x ∧ (l.length : Int) + x ≤ 2000
instance (l : List UInt8) (x : Int) : Decidable (fits l x) := inferInstanceAs (Decidable (_ ∧ _ ∧ _))
def May (c : Int) (g : Bool) (l : List UInt8) (x : Int) : Prop :=
  (l = [] ∧ x = 0 ∧ (c = 0 ∨ c = 1 ∨ (c = 2 ∧ g = false))) ∨ (c = 0 ∧ Formed l ∧ fits l x)
/-- the Dec of V 10^E, with a sign, where it may be -/
def told (g : Bool) (V : Nat) (E : Int) : Option (List UInt8 × Int) := if V = 0 then some ([], 0) else if fits (cd V) (ce V E) then some (cd V, ce V E) else none
theorem told_mul (g : Bool) (V k : Nat) (E : Int) : told g (V * 10 ^ k) E = told g V (E + k) := by
  unfold told
  have h : (V * 10 ^ k = 0) = (V = 0) := propext ⟨fun h => (Nat.mul_eq_zero.1 h).resolve_right (Nat.pos_iff_ne_zero.1 (Nat.pow_pos (by omega))), fun h => by rw [h, Nat.zero_mul]⟩
  rw [cd_mul, ce_mul]
  simp only [h]
theorem told_may {g : Bool} {V : Nat} {E : Int} {l : List UInt8} {x : Int} (h : told g V E = some (l, x)) : May 0 g l x := by
  unfold told at h
  by_cases h0 : V = 0
  · rw [if_pos h0] at h
    obtain ⟨rfl, rfl⟩ := Prod.mk.inj (Option.some.inj h)
    exact .inl ⟨rfl, rfl, .inl rfl⟩
  · rw [if_neg h0] at h
    by_cases hf : fits (Sp.cd V) (Sp.ce V E)
    · rw [if_pos hf] at h
      obtain ⟨rfl, rfl⟩ := Prod.mk.inj (Option.some.inj h)
      exact .inr ⟨rfl, formed_cd h0, hf⟩
    · rw [if_neg hf] at h
      cases h
theorem told_own {g : Bool} {l : List UInt8} {x : Int} (h : Formed l) (hf : fits l x) : told g (nv 0 l) x = some (l, x) := by
  unfold told
  rw [h.cd, h.ce, if_neg (Nat.pos_iff_ne_zero.1 h.pos), if_pos hf]
end Go.Proofs.YtkanddmihmdagaaGreatDoor.Rd

/- Layer 6, in plain numbers: a Dec rounded to a unit u 10^y; far units, near ones; the reference's road. -/
set_option linter.unusedVariables false
namespace Go.Proofs.YtkanddmihmdagaaGreatDoor.Rd
open Go.Lib Go.Proofs.YtkanddmihmdagaaGreatDoor.Td Go.Proofs.YtkanddmihmdagaaGreatDoor.Sp

theorem p10' (k : Nat) : 0 < 10 ^ k := Nat.pow_pos (by omega)
/-- D 10^x to the multiples of u 10^y, by how far each lies above the lower one of x and y -/
def rto (mode : Nat) (g : Bool) (D : Nat) (x : Int) (u : Nat) (y : Int) : Nat := rnd mode g (D * 10 ^ (x - min x y).toNat) (u * 10 ^ (y - min x y).toNat)
/-- the reference tells the number at the lower exponent, the program at the unit's -/
theorem told_low (mode : Nat) (g : Bool) (D : Nat) (x : Int) (u : Nat) (y : Int) (m : Nat) :
    told g (m * (u * 10 ^ (y - min x y).toNat)) (min x y) = told g (m * u) y := by
  rw [← Nat.mul_assoc, told_mul]
  congr 1
  omega
/-- a unit that all digits reach -/
theorem rto_low {mode : Nat} {g : Bool} {l : List UInt8} {x y : Int} (h : Formed l) (hf : fits l x) (hy : y ≤ x) :
    told g (rto mode g (nv 0 l) x 1 y * 1) y = some (l, x) := by
  unfold rto
  have e1 : min x y = y := by omega
  rw [e1, Int.sub_self, Int.toNat_zero, Nat.pow_zero, Nat.mul_one, Nat.mul_one]
  have e2 := rnd_dvd mode g (nv 0 l * 10 ^ (x - y).toNat) 1 (by omega)
  rw [Nat.mul_one] at e2
  rw [e2, told_mul]
  have e3 : y + ((x - y).toNat : Int) = x := by omega
  rw [e3, told_own h hf]
/-- a unit that is nowhere near -/
theorem rto_high {mode : Nat} {g : Bool} {l : List UInt8} {x y : Int} (h : Formed l) (hy : (l.length : Int) + x + 1 < y) :
    rto mode g (nv 0 l) x 1 y = (up mode g false (-1)).toNat := by
  unfold rto
  have e1 : min x y = x := by omega
  rw [e1, Int.sub_self, Int.toNat_zero, Nat.pow_zero, Nat.mul_one, Nat.one_mul]
  refine rnd_far mode g h.pos ?_
  have h1 := nv_lt h.dig
  have h2 : 10 ^ (l.length + 1) ≤ 10 ^ (y - x).toNat := Nat.pow_le_pow_right (by omega) (by omega)
  rw [Nat.pow_succ] at h2
  omega
/-- what a far unit gives is one unit, or none: of any far unit the same -/
theorem rto_far_same {mode : Nat} {g : Bool} {l : List UInt8} {x y y' : Int} (h : Formed l) (hy : (l.length : Int) + x + 1 < y) (hy' : (l.length : Int) + x + 1 < y') :
    rto mode g (nv 0 l) x 1 y = rto mode g (nv 0 l) x 1 y' := by
  rw [rto_high h hy, rto_high h hy']
/-- the sign's turn -/
theorem rto_turn {mode : Nat} (hm : mode < 8) (g : Bool) (D : Nat) (x : Int) (u : Nat) (y : Int) :
    rto (if mode = 0 then 1 else if mode = 1 then 0 else mode) (!g) D x u y = rto mode g D x u y := rnd_turn hm g _ _
theorem told_sign (g g' : Bool) (V : Nat) (E : Int) : told g V E = told g' V E := rfl
/-- one unit and its power of 10: a step 1 at place y is the place y -/
theorem rto_again {mode : Nat} {g : Bool} {m u : Nat} {x y : Int} {l : List UInt8} (hu : 0 < u) (h : Formed l) (hv : ∃ k : Nat, m * u = nv 0 l * 10 ^ k ∧ x = y + k) :
    rto mode g (nv 0 l) x u y = m := by
  obtain ⟨k, e, rfl⟩ := hv
  unfold rto
  have e1 : min (y + (k : Int)) y = y := by omega
  have e2 : (y + (k : Int) - y).toNat = k := by omega
  rw [e1, e2, Int.sub_self, Int.toNat_zero, Nat.pow_zero, Nat.mul_one, ← e]
  exact rnd_dvd mode g m u hu
end Go.Proofs.YtkanddmihmdagaaGreatDoor.Rd

/- Layer 6, in plain numbers: may a Dec be? as the programs reckon it. -/
set_option linter.unusedVariables false
namespace Go.Proofs.YtkanddmihmdagaaGreatDoor.Rd
open Go.Lib Go.Proofs.YtkanddmihmdagaaGreatDoor.Td Go.Proofs.YtkanddmihmdagaaGreatDoor.Sp

def digB (c : UInt8) : Bool := decide (48 ≤ c.toNat ∧ c.toNat ≤ 57)
theorem digB_iff (c : UInt8) : digB c = true ↔ isDig c := by unfold digB isDig; exact decide_eq_true_iff
def mayB (c : Int) (g : Bool) (l : List UInt8) (x : Int) : Bool :=
  if l = [] then decide (x = 0) && (decide (c = 0) || decide (c = 1) || (decide (c = 2) && !g))
  else decide (c = 0) && decide (fits l x) && l.all digB && !(l.head? == some 48) && !(l.getLast? == some 48)
theorem mayB_iff (c : Int) (g : Bool) (l : List UInt8) (x : Int) : mayB c g l x = true ↔ May c g l x := by
  unfold mayB May
  by_cases h : l = []
  · subst h
    rw [if_pos rfl]
    have hn : ¬ Formed [] := fun k => k.ne rfl
    simp [hn, or_assoc]
  · rw [if_neg h]
    have key : (l.all digB = true ∧ (l.head? == some 48) = false ∧ (l.getLast? == some 48) = false) ↔ Formed l := by
      constructor
      · rintro ⟨h1, h2, h3⟩
        refine ⟨fun c hc => (digB_iff c).1 (List.all_eq_true.1 h1 c hc), ?_, ?_⟩
        · cases l with
          | nil => exact absurd rfl h
          | cons c r => exact ⟨c, r, rfl, by simpa using h2⟩
        · obtain ⟨r, c, rfl⟩ : ∃ r c, l = r ++ [c] := ⟨l.dropLast, l.getLast h, (List.dropLast_concat_getLast h).symm⟩
          exact ⟨r, c, rfl, by simpa using h3⟩
      · rintro ⟨h1, ⟨c, r, rfl, h2⟩, ⟨r', c', e, h3⟩⟩
        refine ⟨List.all_eq_true.2 fun c hc => (digB_iff c).2 (h1 c hc), by simpa using h2, ?_⟩
        rw [e]
        simpa using h3
    rw [← key]
    simp [h, and_assoc]
    intro _
    constructor
    · rintro ⟨a, b, c, d⟩; exact ⟨b, c, d, a⟩
    · rintro ⟨b, c, d, a⟩; exact ⟨a, b, c, d⟩
end Go.Proofs.YtkanddmihmdagaaGreatDoor.Rd

/- Layers 5 and 6, in plain numbers: digits that have no nought behind stand, as strings, as their fractions do. -/
set_option linter.unusedVariables false
namespace Go.Proofs.YtkanddmihmdagaaGreatDoor.Rd
open Go.Lib Go.Proofs.YtkanddmihmdagaaGreatDoor.Td Go.Proofs.YtkanddmihmdagaaGreatDoor.Sp

/-- digits, none behind them a nought -/
def Tail (l : List UInt8) : Prop := (∀ c ∈ l, isDig c) ∧ (l ≠ [] → nv 0 l % 10 ≠ 0)
theorem Formed.tail {l : List UInt8} (h : Formed l) : Tail l := ⟨h.dig, fun _ => h.nv_mod⟩
theorem Tail.rest {c : UInt8} {r : List UInt8} (h : Tail (c :: r)) : Tail r := by
  refine ⟨fun d hd => h.1 d (by simp [hd]), fun hr => ?_⟩
  have := h.2 (by simp)
  rw [nv_cons, nv_acc] at this
  obtain ⟨k, hk⟩ : ∃ k, r.length = k + 1 := ⟨r.length - 1, by have : r.length ≠ 0 := fun e => hr (List.length_eq_zero_iff.1 e); omega⟩
  rw [hk, Nat.pow_succ, ← Nat.mul_assoc] at this
  omega
theorem less_tail : ∀ (l m : List UInt8), Tail l → Tail m → Go.Op.bytesLess l m = decide (nv 0 l * 10 ^ m.length < nv 0 m * 10 ^ l.length)
  | l, [], _, _ => by
    rw [nv_nil, Nat.zero_mul]
    cases l <;> simp [Go.Op.bytesLess]
  | [], d :: s, _, hm => by
    have h0 : 0 < nv 0 (d :: s) := by have := hm.2 (by simp); omega
    rw [nv_nil, Nat.zero_mul]
    simp only [Go.Op.bytesLess, List.length_nil, Nat.pow_zero, Nat.mul_one]
    exact (decide_eq_true h0).symm
  | c :: r, d :: s, hl, hm => by
    have ih := less_tail r s hl.rest hm.rest
    have cd : 48 ≤ c.toNat ∧ c.toNat ≤ 57 := hl.1 c (by simp)
    have dd : 48 ≤ d.toNat ∧ d.toNat ≤ 57 := hm.1 d (by simp)
    have R := nv_lt hl.rest.1
    have S := nv_lt hm.rest.1
    simp only [Go.Op.bytesLess]
    rw [ih, nv_cons, nv_cons, nv_acc (0 * 10 + (c.toNat - 48)) r, nv_acc (0 * 10 + (d.toNat - 48)) s, List.length_cons, List.length_cons]
    generalize nv 0 r = x at *
    generalize nv 0 s = y at *
    generalize r.length = a at *
    generalize s.length = b at *
    have e1 : (c < d) = (c.toNat < d.toNat) := propext UInt8.lt_iff_toNat_lt
    have e2 : (c == d) = decide (c.toNat = d.toNat) := by
      rw [Bool.eq_iff_iff, beq_iff_eq, decide_eq_true_iff]
      exact UInt8.toNat_inj.symm
    rw [e2]
    simp only [e1]
    obtain ⟨p, hp⟩ : ∃ p, p = c.toNat - 48 := ⟨_, rfl⟩
    obtain ⟨q, hq⟩ : ∃ q, q = d.toNat - 48 := ⟨_, rfl⟩
    have e3 : (c.toNat < d.toNat) = (p < q) := propext (by omega)
    have e4 : (c.toNat = d.toNat) = (p = q) := propext (by omega)
    simp only [e3, e4]
    rw [← hp, ← hq, Nat.zero_mul, Nat.zero_add, Nat.zero_add, Nat.pow_succ, Nat.pow_succ]
    have X : x * 10 ^ b < 10 ^ a * 10 ^ b := Nat.mul_lt_mul_of_pos_right R (p10' b)
    have Y : y * 10 ^ a < 10 ^ a * 10 ^ b := by rw [Nat.mul_comm (10 ^ a)]; exact Nat.mul_lt_mul_of_pos_right S (p10' a)
    have E1 : (p * 10 ^ a + x) * (10 ^ b * 10) = (p * (10 ^ a * 10 ^ b) + x * 10 ^ b) * 10 := by
      rw [← Nat.mul_assoc, Nat.add_mul, Nat.mul_assoc p]
    have E2 : (q * 10 ^ b + y) * (10 ^ a * 10) = (q * (10 ^ a * 10 ^ b) + y * 10 ^ a) * 10 := by
      rw [← Nat.mul_assoc, Nat.add_mul, Nat.mul_assoc q, Nat.mul_comm (10 ^ b) (10 ^ a)]
    rw [E1, E2]
    generalize 10 ^ a * 10 ^ b = T at *
    generalize x * 10 ^ b = X' at *
    generalize y * 10 ^ a = Y' at *
    rw [Bool.eq_iff_iff]
    simp only [Bool.or_eq_true, Bool.and_eq_true, decide_eq_true_iff]
    rcases Nat.lt_trichotomy p q with h | h | h
    · have : (p + 1) * T ≤ q * T := Nat.mul_le_mul_right _ h
      rw [Nat.add_mul, Nat.one_mul] at this
      constructor
      · intro _; omega
      · intro _; exact .inl h
    · subst h
      constructor
      · rintro (h | ⟨_, h⟩) <;> omega
      · intro h; exact .inr ⟨rfl, by omega⟩
    · have : (q + 1) * T ≤ p * T := Nat.mul_le_mul_right _ h
      rw [Nat.add_mul, Nat.one_mul] at this
      constructor
      · rintro (h' | ⟨h', _⟩) <;> omega
      · intro h'; omega
/-- two formed texts whose first digits stand at one place -/
theorem less_formed {l m : List UInt8} (hl : Formed l) (hm : Formed m) : Go.Op.bytesLess l m = decide (nv 0 l * 10 ^ m.length < nv 0 m * 10 ^ l.length) := less_tail l m hl.tail hm.tail
theorem same_formed {l m : List UInt8} (hl : Formed l) (hm : Formed m) : l = m ↔ nv 0 l * 10 ^ m.length = nv 0 m * 10 ^ l.length := by
  constructor
  · intro h; rw [h]
  · intro h
    have e := congrArg cd h
    rwa [cd_mul, cd_mul, hl.cd, hm.cd] at e
end Go.Proofs.YtkanddmihmdagaaGreatDoor.Rd

/- Layers 5 and 6, in plain numbers: how two amounts stand: by the places of their first digits, then by their digits as strings. -/
set_option linter.unusedVariables false
namespace Go.Proofs.YtkanddmihmdagaaGreatDoor.Rd
open Go.Lib Go.Proofs.YtkanddmihmdagaaGreatDoor.Td Go.Proofs.YtkanddmihmdagaaGreatDoor.Sp

theorem Formed.ge {l : List UInt8} (h : Formed l) : 10 ^ (l.length - 1) ≤ nv 0 l := by
  obtain ⟨c, r, rfl, hc⟩ := h.head
  have d : 48 ≤ c.toNat ∧ c.toNat ≤ 57 := h.dig c (by simp)
  have n : c.toNat ≠ 48 := fun e => ne_48 hc (UInt8.toNat_inj.mp e)
  rw [nv_cons, nv_acc, List.length_cons, Nat.add_sub_cancel]
  have : 1 * 10 ^ r.length ≤ (0 * 10 + (c.toNat - 48)) * 10 ^ r.length := Nat.mul_le_mul_right _ (by omega)
  omega
theorem Formed.len {l : List UInt8} (h : Formed l) : 0 < l.length := List.length_pos_iff.2 h.ne
/-- the place of the first digit tells -/
theorem place_lt {l m : List UInt8} {x y e : Int} (hl : Formed l) (hm : Formed m) (ex : e ≤ x) (ey : e ≤ y) (h : (l.length : Int) + x < (m.length : Int) + y) :
    nv 0 l * 10 ^ (x - e).toNat < nv 0 m * 10 ^ (y - e).toNat := by
  have h1 : nv 0 l * 10 ^ (x - e).toNat < 10 ^ l.length * 10 ^ (x - e).toNat := Nat.mul_lt_mul_of_pos_right (nv_lt hl.dig) (p10' _)
  have h2 : 10 ^ (m.length - 1) * 10 ^ (y - e).toNat ≤ nv 0 m * 10 ^ (y - e).toNat := Nat.mul_le_mul_right _ hm.ge
  rw [← Nat.pow_add] at h1 h2
  have hp := hm.len
  have h3 : 10 ^ (l.length + (x - e).toNat) ≤ 10 ^ (m.length - 1 + (y - e).toNat) := Nat.pow_le_pow_right (by omega) (by omega)
  omega
/-- at one place their digits tell -/
theorem place_eq {l m : List UInt8} {x y e : Int} (ex : e ≤ x) (ey : e ≤ y) (h : (l.length : Int) + x = (m.length : Int) + y) :
    stand (nv 0 l * 10 ^ (x - e).toNat) (nv 0 m * 10 ^ (y - e).toNat) = stand (nv 0 l * 10 ^ m.length) (nv 0 m * 10 ^ l.length) := by
  rw [← stand_mul (nv 0 l * 10 ^ (x - e).toNat) _ (p10' l.length), ← stand_mul (nv 0 l * 10 ^ m.length) _ (p10' (y - e).toNat)]
  rw [Nat.mul_assoc, Nat.mul_assoc, Nat.mul_assoc, Nat.mul_assoc, ← Nat.pow_add, ← Nat.pow_add, ← Nat.pow_add, ← Nat.pow_add]
  rw [show (x - e).toNat + l.length = m.length + (y - e).toNat by omega, Nat.add_comm (y - e).toNat]
/-- what dec.amounts reckons: the places, and where these are one, the digits -/
def byPlace (l m : List UInt8) (x y : Int) : Int :=
  if (l.length : Int) + x < (m.length : Int) + y then -1 else if (m.length : Int) + y < (l.length : Int) + x then 1
  else if Go.Op.bytesLess l m then -1 else if l == m then 0 else 1
theorem byPlace_stand {l m : List UInt8} {x y e : Int} (hl : Formed l) (hm : Formed m) (ex : e ≤ x) (ey : e ≤ y) :
    byPlace l m x y = stand (nv 0 l * 10 ^ (x - e).toNat) (nv 0 m * 10 ^ (y - e).toNat) := by
  unfold byPlace
  by_cases h1 : (l.length : Int) + x < (m.length : Int) + y
  · rw [if_pos h1]
    unfold stand
    rw [if_pos (place_lt hl hm ex ey h1)]
  · rw [if_neg h1]
    by_cases h2 : (m.length : Int) + y < (l.length : Int) + x
    · rw [if_pos h2]
      have := place_lt hm hl ey ex h2
      unfold stand
      rw [if_neg (by omega), if_neg (by omega)]
    · rw [if_neg h2, place_eq ex ey (by omega), less_formed hl hm]
      unfold stand
      by_cases h3 : nv 0 l * 10 ^ m.length < nv 0 m * 10 ^ l.length
      · rw [if_pos h3, if_pos (decide_eq_true h3)]
      · rw [if_neg h3, if_neg (by simp only [decide_eq_true_iff]; exact h3)]
        by_cases h4 : l = m
        · subst h4
          simp
        · rw [if_neg (by simpa using h4), if_neg (fun e => h4 ((same_formed hl hm).2 e))]
end Go.Proofs.YtkanddmihmdagaaGreatDoor.Rd

/- Layer 6, in plain numbers: the modes around a number; how near; one number has one form. -/
set_option linter.unusedVariables false
namespace Go.Proofs.YtkanddmihmdagaaGreatDoor.Rd
open Go.Lib Go.Proofs.YtkanddmihmdagaaGreatDoor.Td Go.Proofs.YtkanddmihmdagaaGreatDoor.Sp

theorem told_inj {g g' : Bool} {V V' : Nat} {E : Int} {p : List UInt8 × Int} (h : told g V E = some p) (h' : told g' V' E = some p) : V = V' := by
  unfold told at h h'
  by_cases z : V = 0
  · rw [if_pos z] at h
    by_cases z' : V' = 0
    · rw [z, z']
    · rw [if_neg z'] at h'
      split at h'
      · have e := Option.some.inj (h'.trans h.symm)
        exact absurd (cd_nil.1 (Prod.mk.inj e).1) z'
      · cases h'
  · rw [if_neg z] at h
    split at h
    · by_cases z' : V' = 0
      · rw [if_pos z'] at h'
        have e := Option.some.inj (h.trans h'.symm)
        exact absurd (cd_nil.1 (Prod.mk.inj e).1) z
      · rw [if_neg z'] at h'
        split at h'
        · obtain ⟨e1, e2⟩ := Prod.mk.inj (Option.some.inj (h.trans h'.symm))
          unfold Sp.ce at e2
          rw [if_neg z, if_neg z'] at e2
          have e3 : tz V = tz V' := by omega
          rw [← nv_cd V, ← nv_cd V', e1, e3]
        · cases h'
    · cases h
theorem up_either {mode : Nat} (hm : mode < 8) (g odd : Bool) (half : Int) : up mode g odd half = up 0 g odd half ∨ up mode g odd half = up 1 g odd half := by
  show _ = !g ∨ _ = g
  cases up mode g odd half <;> cases g <;> simp
theorem rnd_either {mode : Nat} (hm : mode < 8) (g : Bool) (A U : Nat) : rnd mode g A U = rnd 0 g A U ∨ rnd mode g A U = rnd 1 g A U := by
  unfold rnd
  split
  · exact .inl rfl
  · rcases up_either hm g (decide (A / U % 2 = 1)) (stand (2 * (A % U)) U) with h | h <;> rw [h]
    · exact .inl rfl
    · exact .inr rfl
theorem rnd_apart (g : Bool) (A U : Nat) : rnd 0 g A U = rnd 1 g A U ↔ A % U = 0 := by
  unfold rnd
  by_cases h : A % U = 0
  · rw [if_pos h, if_pos h]; simp [h]
  · rw [if_neg h, if_neg h]
    cases g <;> simp [up, h]
theorem rnd_near_side (A U : Nat) : rnd 2 false A U = rnd 1 false A U ∧ rnd 2 true A U = rnd 0 true A U ∧ rnd 3 false A U = rnd 0 false A U ∧ rnd 3 true A U = rnd 1 true A U := by
  unfold rnd
  split
  · exact ⟨rfl, rfl, rfl, rfl⟩
  · exact ⟨rfl, rfl, rfl, rfl⟩
theorem rnd_order (A U : Nat) : rnd 1 false A U ≤ rnd 0 false A U ∧ rnd 0 true A U ≤ rnd 1 true A U := by
  unfold rnd
  split
  · exact ⟨Nat.le_refl _, Nat.le_refl _⟩
  · exact ⟨Nat.le_add_right .., Nat.le_add_right ..⟩
theorem rnd_self {mode : Nat} {g : Bool} {A U : Nat} (hU : 0 < U) : rnd mode g A U * U = A ↔ A % U = 0 := by
  constructor
  · intro h; rw [← h]; exact Nat.mul_mod_left ..
  · intro h
    unfold rnd
    rw [if_pos h]
    exact Nat.div_mul_cancel (Nat.dvd_of_mod_eq_zero h)
/-- how far the rounded number lies from the number, and on which side -/
theorem rnd_gap {mode : Nat} (hm : mode < 8) (g : Bool) {A U : Nat} (hU : 0 < U) :
    (A < rnd mode g A U * U + U ∧ rnd mode g A U * U < A + U) ∧
    (4 ≤ mode → 2 * A ≤ 2 * (rnd mode g A U * U) + U ∧ 2 * (rnd mode g A U * U) ≤ 2 * A + U) ∧
    (mode = 2 → rnd mode g A U * U ≤ A) ∧ (mode = 3 → A ≤ rnd mode g A U * U) := by
  have hd := Nat.div_add_mod A U
  have hl := Nat.mod_lt A hU
  rw [Nat.mul_comm] at hd
  unfold rnd
  by_cases h : A % U = 0
  · rw [if_pos h]
    generalize A / U * U = q at *
    omega
  · rw [if_neg h]
    have e1 : (A / U + (false : Bool).toNat) * U = A / U * U := by simp
    have e2 : (A / U + (true : Bool).toNat) * U = A / U * U + U := by simp [Nat.add_mul]
    obtain rfl | rfl | rfl | rfl | hm4 : mode = 0 ∨ mode = 1 ∨ mode = 2 ∨ mode = 3 ∨ 4 ≤ mode := by omega
    · cases g <;> simp only [up, Bool.not_false, Bool.not_true, e1, e2] <;> generalize A / U * U = q at * <;> omega
    · cases g <;> simp only [up, e1, e2] <;> generalize A / U * U = q at * <;> omega
    · simp only [up, e1]; generalize A / U * U = q at *; omega
    · simp only [up, e2]; generalize A / U * U = q at *; omega
    · obtain ⟨b, hb, hb1, hb2⟩ : ∃ b, up mode g (decide (A / U % 2 = 1)) (stand (2 * (A % U)) U) = b ∧ (b = true → U ≤ 2 * (A % U)) ∧ (b = false → 2 * (A % U) ≤ U) := by
        refine ⟨_, rfl, ?_, ?_⟩
        all_goals
          generalize decide (A / U % 2 = 1) = odd
          unfold stand
          obtain rfl | rfl | rfl | rfl : mode = 4 ∨ mode = 5 ∨ mode = 6 ∨ mode = 7 := by omega
          all_goals
            by_cases k1 : 2 * (A % U) < U
            · rw [if_pos k1]; cases odd <;> simp [up] <;> omega
            · by_cases k2 : 2 * (A % U) = U
              · rw [if_neg k1, if_pos k2]; cases odd <;> simp [up] <;> omega
              · rw [if_neg k1, if_neg k2]; cases odd <;> simp [up] <;> omega
      rw [hb]
      cases b
      · have := hb2 rfl
        rw [e1]; generalize A / U * U = q at *; omega
      · have := hb1 rfl
        rw [e2]; generalize A / U * U = q at *; omega
end Go.Proofs.YtkanddmihmdagaaGreatDoor.Rd

/- Layer 6, in plain numbers: rounding rises with the signed number. -/
set_option linter.unusedVariables false
namespace Go.Proofs.YtkanddmihmdagaaGreatDoor.Rd
open Go.Lib Go.Proofs.YtkanddmihmdagaaGreatDoor.Td Go.Proofs.YtkanddmihmdagaaGreatDoor.Sp

/-- a number with its sign -/
def sv (g : Bool) (A : Nat) : Int := if g then -(A : Int) else (A : Int)
theorem rnd_zero (mode : Nat) (g : Bool) (U : Nat) : rnd mode g 0 U = 0 := by
  unfold rnd
  rw [if_pos (Nat.zero_mod U), Nat.zero_div]
theorem rnd_rises {mode : Nat} {g g' : Bool} {A B U : Nat} (hU : 0 < U) (h : sv g A ≤ sv g' B) : sv g (rnd mode g A U) ≤ sv g' (rnd mode g' B U) := by
  unfold sv at h ⊢
  cases g <;> cases g' <;> simp only [Bool.false_eq_true, if_true, if_false] at h ⊢
  · have := rnd_mono (mode := mode) false hU (show A ≤ B by omega)
    omega
  · have ha : A = 0 := by omega
    have hb : B = 0 := by omega
    rw [ha, hb, rnd_zero, rnd_zero]
    decide
  · omega
  · have := rnd_mono (mode := mode) true hU (show B ≤ A by omega)
    omega
/-- how two signed numbers stand -/
def order (a b : Int) : Int := if a < b then -1 else if a = b then 0 else 1
theorem order_pos (A B : Nat) : order (sv false A) (sv false B) = stand A B := by
  unfold order stand sv
  simp only [Bool.false_eq_true, if_false]
  have h1 : ((A : Int) < B) = (A < B) := propext (by omega)
  have h2 : ((A : Int) = B) = (A = B) := propext (by omega)
  simp only [h1, h2]
theorem order_neg (A B : Nat) : order (sv true A) (sv true B) = stand B A := by
  unfold order stand sv
  simp only [if_true]
  have h1 : (-(A : Int) < -B) = (B < A) := propext (by omega)
  have h2 : (-(A : Int) = -B) = (B = A) := propext (by omega)
  simp only [h1, h2]
theorem order_scale (g g' : Bool) (A B : Nat) {k : Nat} (hk : 0 < k) : order (sv g (A * k)) (sv g' (B * k)) = order (sv g A) (sv g' B) := by
  have hA : sv g (A * k) = sv g A * (k : Int) := by unfold sv; cases g <;> simp [Int.neg_mul]
  have hB : sv g' (B * k) = sv g' B * (k : Int) := by unfold sv; cases g' <;> simp [Int.neg_mul]
  have hk' : (0 : Int) < k := by omega
  unfold order
  rw [hA, hB]
  have h1 : (sv g A * (k : Int) < sv g' B * k) = (sv g A < sv g' B) := propext ⟨fun h => Int.lt_of_mul_lt_mul_right h (Int.le_of_lt hk'), fun h => Int.mul_lt_mul_of_pos_right h hk'⟩
  have h2 : (sv g A * (k : Int) = sv g' B * k) = (sv g A = sv g' B) := propext ⟨fun h => Int.eq_of_mul_eq_mul_right (by omega) h, fun h => by rw [h]⟩
  simp only [h1, h2]
/-- what RoundRises asks of the two orders -/
theorem rises_asked {mode : Nat} {g g' : Bool} {A B U : Nat} (hU : 0 < U) :
    (0 < order (sv g A) (sv g' B) ∨ order (sv g (rnd mode g A U)) (sv g' (rnd mode g' B U)) ≤ 0) ∧
    (order (sv g A) (sv g' B) < 0 ∨ 0 ≤ order (sv g (rnd mode g A U)) (sv g' (rnd mode g' B U))) := by
  have h1 : sv g A ≤ sv g' B → sv g (rnd mode g A U) ≤ sv g' (rnd mode g' B U) := rnd_rises hU
  have h2 : sv g' B ≤ sv g A → sv g' (rnd mode g' B U) ≤ sv g (rnd mode g A U) := rnd_rises hU
  generalize sv g (rnd mode g A U) = p at *
  generalize sv g' (rnd mode g' B U) = q at *
  generalize sv g A = a at *
  generalize sv g' B = b at *
  unfold order
  constructor
  · by_cases h : a ≤ b
    · right; have := h1 h; repeat' split
      all_goals omega
    · left; rw [if_neg (by omega), if_neg (by omega)]; omega
  · by_cases h : b ≤ a
    · right; have := h2 h; repeat' split
      all_goals omega
    · left; rw [if_pos (by omega)]; omega
end Go.Proofs.YtkanddmihmdagaaGreatDoor.Rd

/- Layer 6, in plain numbers: the reference's road over signed numbers; lengths of limbs. -/
set_option linter.unusedVariables false
namespace Go.Proofs.YtkanddmihmdagaaGreatDoor.Rd
open Go.Lib Go.Proofs.YtkanddmihmdagaaGreatDoor.Td Go.Proofs.YtkanddmihmdagaaGreatDoor.Sp Go.Proofs.YtkanddmihmdagaaGreatDoor.Dig Go.Proofs.YtkanddmihmdagaaGreatDoor.Wh Go.Proofs.YtkanddmihmdagaaGreatDoor.Nat
open Go.Proofs.YtkanddmihmdagaaGreatDoor.Rf (V V_two V_pos)

theorem stand_cmp (a b : Nat) : Dig.cmp a b = stand a b := by
  unfold Dig.cmp stand
  rcases Nat.lt_trichotomy a b with h | h | h
  · rw [if_pos h, if_pos h]
  · subst h; simp
  · rw [if_neg (by omega), if_pos h, if_neg (by omega), if_neg (by omega)]
/-- the quotient and the rest that the reference works with -/
def rq (g : Bool) (A U : Nat) : Int := sg g A / sg false U
def rr (g : Bool) (A U : Nat) : Nat := (sg g A % sg false U).natAbs
theorem rq_plain {g : Bool} {A U : Nat} (hU : 0 < U) (h : g = false ∨ A % U = 0) : rq g A U = sg g (A / U) ∧ rr g A U = A % U := by
  obtain ⟨e1, e2⟩ := dm_plain g false A U (by omega) h
  unfold rq rr
  rw [← e1, ← e2, sg_abs, Bool.bne_false]
  exact ⟨rfl, rfl⟩
theorem rq_more {A U : Nat} (hU : 0 < U) (h : A % U ≠ 0) : rq true A U = sg true (A / U + 1) ∧ rr true A U = U - A % U := by
  obtain ⟨e1, e2⟩ := dm_more false A U (by omega) h
  unfold rq rr
  rw [← e1, ← e2, sg_abs, Bool.bne_false]
  exact ⟨rfl, rfl⟩
theorem rr_zero {g : Bool} {A U : Nat} (hU : 0 < U) : rr g A U = 0 ↔ A % U = 0 := by
  by_cases h : g = false ∨ A % U = 0
  · rw [(rq_plain hU h).2]
  · have h1 : A % U ≠ 0 := fun e => h (.inr e)
    have h2 : g = true := by cases g <;> simp_all
    subst h2
    have := Nat.mod_lt A hU
    rw [(rq_more hU h1).2]
    omega
theorem rr_lt {g : Bool} {A U : Nat} (hU : 0 < U) : rr g A U ≤ U := by
  have hl := Nat.mod_lt A hU
  by_cases h : g = false ∨ A % U = 0
  · rw [(rq_plain hU h).2]; omega
  · have h1 : A % U ≠ 0 := fun e => h (.inr e)
    have h2 : g = true := by cases g <;> simp_all
    subst h2
    rw [(rq_more hU h1).2]
    omega
theorem rq_le {g : Bool} {A U : Nat} (hU : 0 < U) : (rq g A U).natAbs ≤ A + 1 := by
  have hl := Nat.div_le_self A U
  by_cases h : g = false ∨ A % U = 0
  · rw [(rq_plain hU h).1, sg_abs]; omega
  · have h1 : A % U ≠ 0 := fun e => h (.inr e)
    have h2 : g = true := by cases g <;> simp_all
    subst h2
    rw [(rq_more hU h1).1, sg_abs]
    omega
theorem sg_mul (g : Bool) (m U : Nat) : sg g m * sg false U = sg g (m * U) := by cases g <;> simp [sg, Int.neg_mul]
theorem road_zero {mode : Nat} {g : Bool} {A U : Nat} (hU : 0 < U) (h : A % U = 0) : rq g A U * sg false U = sg g (rnd mode g A U * U) := by
  rw [(rq_plain hU (.inr h)).1, sg_mul]
  unfold rnd
  rw [if_pos h]
theorem road_more {mode : Nat} (hm : mode < 8) {g : Bool} {A U : Nat} (hU : 0 < U) (h : A % U ≠ 0) :
    (rq g A U + (((greater mode (decide ((rq g A U).natAbs % 2 = 1)) g (stand (rr g A U + rr g A U) U)).toNat : Nat) : Int)) * sg false U = sg g (rnd mode g A U * U) := by
  cases g
  · obtain ⟨e1, e2⟩ := rq_plain (g := false) hU (.inl rfl : false = false ∨ A % U = 0)
    rw [e1, e2, sg_abs, ← Nat.two_mul, ← rnd_pos hm h, ← sg_mul]
    rfl
  · obtain ⟨e1, e2⟩ := rq_more hU h
    rw [e1, e2, sg_abs, ← Nat.two_mul, ← rnd_neg hm hU h, ← sg_mul]
    congr 1
    cases greater mode (decide ((A / U + 1) % 2 = 1)) true (stand (2 * (U - A % U)) U)
    · simp [sg]
    · simp [sg]; omega
theorem len10 {m K : Nat} (h : m < 10 ^ K) : (digs U m).length ≤ K := (digs_length_le U_two _ _).2 (Nat.lt_of_lt_of_le h (Nat.pow_le_pow_left (by unfold U; omega) K))
theorem len10V {m K : Nat} (h : m < 10 ^ K) : (digs V m).length ≤ K := (digs_length_le V_two _ _).2 (Nat.lt_of_lt_of_le h (Nat.pow_le_pow_left (by unfold Rf.V; omega) K))
theorem dec_split {W : Nat} (h : W ≠ 0) : decDigits W = Sp.cd W ++ List.replicate (tz W) 48 := by
  obtain ⟨b, e, hb⟩ := tz_spec W h
  have h1 := dec_mul_pow b (tz W) (by rintro rfl; simp at hb)
  have h2 := cd_of (k := tz W) hb
  rw [← e] at h1 h2
  rw [h1, h2]
end Go.Proofs.YtkanddmihmdagaaGreatDoor.Rd
