/- Texts of one layer, joined: Jb, Jc, Jd, Je. -/
import Derived.Test.YtphpcpomhcodpaaGreatDoorGK
import Derived.Test.YtphpcpomhcodpaaGreatDoorGJ
import Derived.Test.YtphpcpomhcodpaaGreatDoorGF
set_option linter.unusedVariables false
set_option linter.unusedSimpArgs false
set_option linter.unusedSectionVars false
/- Layer 3's laws: ShortestWide, ShortestNarrow, ShortestExact. -/
set_option linter.unusedSimpArgs false
set_option linter.unusedVariables false
namespace Go.Proofs.YtphpcpomhcodpaaGreatDoor.Sh
open Go.RowKit Go.Proofs.YtphpcpomhcodpaaGreatDoor.Dig Go.Proofs.YtphpcpomhcodpaaGreatDoor.W Go.Proofs.YtphpcpomhcodpaaGreatDoor.Nat Go.Proofs.YtphpcpomhcodpaaGreatDoor.Wh Go.Proofs.YtphpcpomhcodpaaGreatDoor.Td Go.Proofs.YtphpcpomhcodpaaGreatDoor.Bu Go.Proofs.YtphpcpomhcodpaaGreatDoor.Tx Go.Proofs.YtphpcpomhcodpaaGreatDoor.Sp

attribute [local go_sem ↓] eq_dec
set_option maxHeartbeats 4000000 in
theorem shortestWide_calls (z : Int) (h0 : 0 ≤ z) (h1 : z < 18446744073709551616) (w : World) (hp : Pow w) :
    Calls Tryz.prog 3 #[.int .u64 z] w fun e w' => e = .returned (.bool true) ∧ Below w.heap.size w w' := by
  obtain ⟨bits, rfl⟩ : ∃ bits : Nat, z = bits := ⟨z.toNat, by omega⟩
  have hb : bits < 18446744073709551616 := by omega
  obtain ⟨c, g, l, x, he⟩ := oV_four_w bits
  have HA := Lib.hid (awake_calls w hp)
  have HO := Lib.hid (fun w1 (b : Below w.heap.size w w1) => he ▸ Of64_calls hb w1 (hp.below b))
  have HR := Lib.hid (fun w1 => he ▸ rof_calls_w hb w1)
  have ng := no_guard
  clear he hp
  go_enter Tryz.func3, Tryz.ntmps3
  go_wp2_with (first
    | (go_at_call 8; (with_reducible refine HA.out.mono ?_); rintro e w1 ⟨rfl, b1⟩)
    | (go_at_call 9; (with_reducible refine (HO.out w1 b1).mono ?_); rintro e w2 ⟨rfl, b2⟩)
    | (go_at_call 10; (with_reducible refine (wide_calls w2).mono ?_); rintro e w3 ⟨rfl, b3⟩)
    | (go_at_call 11; (with_reducible refine (HR.out w3).mono ?_); rintro e w4 ⟨rfl, b4⟩))
  go_ret
  exact ⟨rfl, on (on (on b1 b2) b3) b4⟩
set_option maxHeartbeats 4000000 in
theorem shortestNarrow_calls (z : Int) (h0 : 0 ≤ z) (h1 : z < 4294967296) (w : World) (hp : Pow w) :
    Calls Tryz.prog 4 #[.int .u32 z] w fun e w' => e = .returned (.bool true) ∧ Below w.heap.size w w' := by
  obtain ⟨bits, rfl⟩ : ∃ bits : Nat, z = bits := ⟨z.toNat, by omega⟩
  have hb : bits < 4294967296 := by omega
  obtain ⟨c, g, l, x, he⟩ := oV_four_n bits
  have HA := Lib.hid (awake_calls w hp)
  have HO := Lib.hid (fun w1 (b : Below w.heap.size w w1) => he ▸ Of32_calls hb w1 (hp.below b))
  have HR := Lib.hid (fun w1 => he ▸ rof_calls_n hb w1)
  have ng := no_guard
  clear he hp
  go_enter Tryz.func4, Tryz.ntmps4
  go_wp2_with (first
    | (go_at_call 8; (with_reducible refine HA.out.mono ?_); rintro e w1 ⟨rfl, b1⟩)
    | (go_at_call 12; (with_reducible refine (HO.out w1 b1).mono ?_); rintro e w2 ⟨rfl, b2⟩)
    | (go_at_call 13; (with_reducible refine (narrow_calls w2).mono ?_); rintro e w3 ⟨rfl, b3⟩)
    | (go_at_call 11; (with_reducible refine (HR.out w3).mono ?_); rintro e w4 ⟨rfl, b4⟩))
  go_ret
  exact ⟨rfl, on (on (on b1 b2) b3) b4⟩
set_option maxHeartbeats 4000000 in
theorem shortestExact_calls (z y : Int) (h0 : 0 ≤ z) (h1 : z < 18446744073709551616) (h2 : 0 ≤ y) (h3 : y < 4294967296) (w : World) (hp : Pow w) :
    Calls Tryz.prog 5 #[.int .u64 z, .int .u32 y] w fun e w' => e = .returned (.bool true) ∧ Below w.heap.size w w' := by
  obtain ⟨bits, rfl⟩ : ∃ bits : Nat, z = bits := ⟨z.toNat, by omega⟩
  obtain ⟨bitn, rfl⟩ : ∃ bitn : Nat, y = bitn := ⟨y.toNat, by omega⟩
  have hb : bits < 18446744073709551616 := by omega
  have hn : bitn < 4294967296 := by omega
  obtain ⟨c, g, l, x, he⟩ := eV_four_w bits
  obtain ⟨c', g', l', x', he'⟩ := eV_four_n bitn
  have HA := Lib.hid (awake_calls w hp)
  have HO := Lib.hid (fun w1 (b : Below w.heap.size w w1) => he ▸ Exact64_calls hb w1 (hp.below b))
  have HR := Lib.hid (fun w1 => he ▸ rexact_calls_w hb w1)
  have HO' := Lib.hid (fun w1 (b : Below w.heap.size w w1) => he' ▸ Exact32_calls hn w1 (hp.below b))
  have HR' := Lib.hid (fun w1 => he' ▸ rexact_calls_n hn w1)
  have ng := no_guard
  clear he hp he'
  go_enter Tryz.func5, Tryz.ntmps5
  go_wp2_with (first
    | (go_at_call 8; (with_reducible refine HA.out.mono ?_); rintro e w1 ⟨rfl, b1⟩)
    | (go_at_call 14; (with_reducible refine (HO.out w1 b1).mono ?_); rintro e w2 ⟨rfl, b2⟩)
    | (go_at_call 10; (with_reducible refine (wide_calls w2).mono ?_); rintro e w3 ⟨rfl, b3⟩)
    | (go_at_call 16; (with_reducible refine (HO'.out w4 (on (on (on b1 b2) b3) b4)).mono ?_); rintro e w5 ⟨rfl, b5⟩)
    | (go_at_call 13; (with_reducible refine (narrow_calls w5).mono ?_); rintro e w6 ⟨rfl, b6⟩)
    | (go_at_call 15; first
      | ((with_reducible refine (HR.out w3).mono ?_); rintro e w4 ⟨rfl, b4⟩)
      | ((with_reducible refine (HR'.out w6).mono ?_); rintro e w7 ⟨rfl, b7⟩)))
  go_ret
  exact ⟨rfl, on (on (on (on (on (on b1 b2) b3) b4) b5) b6) b7⟩
end Go.Proofs.YtphpcpomhcodpaaGreatDoor.Sh

/- Layer 3's laws: number, order, formed. -/
set_option linter.unusedSimpArgs false
set_option linter.unusedVariables false
namespace Go.Proofs.YtphpcpomhcodpaaGreatDoor.Sh
open Go.RowKit Go.Proofs.YtphpcpomhcodpaaGreatDoor.Dig Go.Proofs.YtphpcpomhcodpaaGreatDoor.W Go.Proofs.YtphpcpomhcodpaaGreatDoor.Nat Go.Proofs.YtphpcpomhcodpaaGreatDoor.Wh Go.Proofs.YtphpcpomhcodpaaGreatDoor.Td Go.Proofs.YtphpcpomhcodpaaGreatDoor.Bu Go.Proofs.YtphpcpomhcodpaaGreatDoor.Tx Go.Proofs.YtphpcpomhcodpaaGreatDoor.Sp
open Go.Proofs.YtphpcpomhcodpaaGreatDoor.Rf (V V_two V_pos)

/-- a Dec that a wide float is told by: its digits, its exponent, the amount in the least units -/
structure Dw (l : List UInt8) (x : Int) (A most : Nat) : Prop where
  dig : ∀ c ∈ l, isDig c
  len : l.length ≤ most
  ends : (l = [] ∧ x = 0) ∨ ((∃ c r, l = c :: r ∧ (c == 48) = false) ∧ (∃ r c, l = r ++ [c] ∧ (c == 48) = false) ∧ -1100 ≤ x ∧ x ≤ 400)
  rep : Rep 1076 l x A
theorem Dw.exp {l : List UInt8} {x : Int} {A most : Nat} (h : Dw l x A most) : -1100 ≤ x ∧ x ≤ 400 := by
  rcases h.ends with ⟨_, e⟩ | ⟨_, _, e⟩
  · omega
  · exact e
theorem Dw.low {l : List UInt8} {x : Int} {A most : Nat} (h : Dw l x A most) : -1076 ≤ x := by
  obtain ⟨k, hk, _⟩ := h.rep
  omega
def oA (b : Nat) : Nat := if b = 0 then 0 else fF 52 1076 b * 10 ^ un 1076 (b / 2 ^ 52 - 1)
def xA (b : Nat) : Nat := 4 * sc 52 b * 5 ^ 1076
theorem oA_lt {a b : Nat} (h : a < b) : oA a < oA b := by
  unfold oA
  rw [if_neg (show b ≠ 0 by omega)]
  by_cases h0 : a = 0
  · rw [if_pos h0]
    exact Nat.mul_pos (Nat.pos_of_ne_zero (fF_pos (by omega))) (p10 _)
  · rw [if_neg h0]
    exact fF_lt 52 1076 (by decide) (by omega) h
theorem p5 (k : Nat) : 0 < 5 ^ k := Nat.pow_pos (by omega)
set_option exponentiation.threshold 2000 in
theorem xA_lt {a b : Nat} (h : a < b) : xA a < xA b := by
  have := sc_lt 52 h
  exact Nat.mul_lt_mul_of_pos_right (by omega) (p5 _)
theorem cmp_mono {f : Nat → Nat} (hf : ∀ {a b}, a < b → f a < f b) (a b : Nat) : cmp (f a) (f b) = cmp a b := by
  unfold cmp
  rcases Nat.lt_trichotomy a b with h | h | h
  · rw [if_pos h, if_pos (hf h)]
  · subst h; simp
  · have := hf h
    rw [if_neg (by omega), if_pos this, if_neg (by omega), if_pos h]
theorem cmp_iff {p q A B : Nat} (h1 : p < q ↔ A < B) (h2 : q < p ↔ B < A) : cmp p q = cmp A B := by
  unfold cmp
  simp only [h1, h2]
set_option exponentiation.threshold 2000 in
/-- what Of64 says of a finite float -/
theorem dw_os {bits : Nat} (h : bits % 9223372036854775808 < 9218868437227405312) : ∃ l x, oV_w bits = #[.int .i64 0, .bool (decide (bits / 9223372036854775808 = 1)), .string ⟨l.toArray⟩, .int .i64 x] ∧ Dw l x (oA (bits % 9223372036854775808)) 17 ∧ (l = [] ↔ bits % 9223372036854775808 = 0) := by
  unfold oV_w oA
  generalize decide (bits / 9223372036854775808 = 1) = g
  generalize bits % 9223372036854775808 = b at *
  have e3 : b / 2 ^ 52 < 2047 := by simp only [Nat.reducePow]; omega
  rw [if_neg (by omega)]
  by_cases h0 : b = 0
  · rw [if_pos h0, if_pos h0]
    exact ⟨[], 0, rfl, ⟨fun c hc => by simp at hc, by simp, .inl ⟨rfl, rfl⟩, ⟨1076, rfl, by rw [nv_nil, Nat.zero_mul]⟩⟩, by simp [h0]⟩
  · rw [if_neg h0, if_neg h0]
    obtain ⟨x1, x2⟩ := fF_exp (by omega) e3
    have hp := fF_pos (M := 52) (Z := 1076) (b := b) (by omega)
    obtain ⟨h1, h2⟩ := cd_ends hp
    exact ⟨_, _, rfl, ⟨cd_isDig _, fF_len (by omega) (by decide) (by decide), .inr ⟨h1, h2, by omega, by omega⟩, rep_f b⟩, by rw [cd_nil]; simp [hp, h0]⟩
set_option exponentiation.threshold 2000 in
theorem dw_xs {bits : Nat} (h : bits % 9223372036854775808 < 9218868437227405312) : ∃ l x, eV_w bits = #[.int .i64 0, .bool (decide (bits / 9223372036854775808 = 1)), .string ⟨l.toArray⟩, .int .i64 x] ∧ Dw l x (xA (bits % 9223372036854775808)) 767 ∧ (l = [] ↔ bits % 9223372036854775808 = 0) := by
  unfold eV_w xA
  generalize decide (bits / 9223372036854775808 = 1) = g
  generalize bits % 9223372036854775808 = b at *
  have e3 : b / 2 ^ 52 < 2047 := by simp only [Nat.reducePow]; omega
  rw [if_neg (by omega)]
  by_cases h0 : b = 0
  · have hx : xF 52 1074 b = 0 := by
      subst h0
      have : am 52 0 = 0 := by unfold am; simp
      unfold xF
      rw [this, Nat.zero_mul]
    refine ⟨_, _, rfl, ⟨cd_isDig _, xF_len e3, ?_, rep_x b⟩, by rw [hx, cd_zero]; simp [h0]⟩
    rw [hx]
    exact .inl ⟨cd_zero, ce_zero _⟩
  · have hp := xF_pos (M := 52) (Z := 1074) (b := b) (by omega)
    obtain ⟨x1, x2⟩ := xF_exp (by omega) e3
    obtain ⟨h1, h2⟩ := cd_ends hp
    exact ⟨_, _, rfl, ⟨cd_isDig _, xF_len e3, .inr ⟨h1, h2, by omega, by omega⟩, rep_x b⟩, by rw [cd_nil]; simp [hp, h0]⟩
theorem dw_o {b : Nat} (h : b < 9218868437227405312) : ∃ l x, oV_w b = #[.int .i64 0, .bool false, .string ⟨l.toArray⟩, .int .i64 x] ∧ Dw l x (oA b) 17 := by
  have e1 : b % 9223372036854775808 = b := by omega
  have e2 : decide (b / 9223372036854775808 = 1) = false := decide_eq_false (by omega)
  obtain ⟨l, x, h1, h2, _⟩ := dw_os (bits := b) (by omega)
  rw [e2] at h1
  rw [e1] at h2
  exact ⟨l, x, h1, h2⟩
theorem dw_x {b : Nat} (h : b < 9218868437227405312) : ∃ l x, eV_w b = #[.int .i64 0, .bool false, .string ⟨l.toArray⟩, .int .i64 x] ∧ Dw l x (xA b) 767 := by
  have e1 : b % 9223372036854775808 = b := by omega
  have e2 : decide (b / 9223372036854775808 = 1) = false := decide_eq_false (by omega)
  obtain ⟨l, x, h1, h2, _⟩ := dw_xs (bits := b) (by omega)
  rw [e2] at h1
  rw [e1] at h2
  exact ⟨l, x, h1, h2⟩
theorem nv_len {l : List UInt8} {K : Nat} (h : ∀ c ∈ l, isDig c) (hl : l.length ≤ K) (hK : 0 < K) : (digs V (nv 0 l)).length ≤ K := by
  refine (digs_length_le V_two _ _).2 (Nat.lt_of_lt_of_le (nv_lt h) ?_)
  exact Nat.le_trans (Nat.pow_le_pow_left (by unfold Rf.V; omega) _) (Nat.pow_le_pow_right V_pos hl)
theorem ten_len (k : Nat) : (digs V (10 ^ k)).length ≤ k + 1 := by
  refine (digs_length_le V_two _ _).2 ?_
  have h1 : 10 ^ k ≤ V ^ k := Nat.pow_le_pow_left (by unfold Rf.V; omega) k
  have h2 : V ^ k < V ^ (k + 1) := Nat.pow_lt_pow_right (by unfold Rf.V; omega) (Nat.lt_succ_self k)
  exact Nat.lt_of_le_of_lt h1 h2
theorem num_len' {l : List UInt8} {k : Nat} (h : ∀ c ∈ l, isDig c) : (digs V (nv 0 l * 10 ^ k)).length ≤ l.length + k := by
  refine (digs_length_le V_two _ _).2 (Nat.lt_of_lt_of_le (Nat.mul_lt_mul_of_pos_right (nv_lt h) (p10 k)) ?_)
  rw [← Nat.pow_add]
  exact Nat.pow_le_pow_left (by unfold Rf.V; omega) _
theorem num_len {l : List UInt8} {K k : Nat} (h : ∀ c ∈ l, isDig c) (hl : l.length ≤ K) (hK : K ≤ 767) (hk : k ≤ 4096) : (digs V (nv 0 l * 10 ^ k)).length ≤ 8192 := Nat.le_trans (num_len' h) (by omega)
theorem radd_s (A A' : Option Addr) (n c n' c' x y : Nat) (w : World) (h : SI w .u32 A n c (digs V x)) (h' : SI w .u32 A' n' c' (digs V y)) (hx : (digs V x).length ≤ 8192) (hy : (digs V y).length ≤ 8192) :
    Calls Tryz.prog 20 #[.slice A n c, .slice A' n' c'] w (Gives w .u32 (digs V (x + y))) := by
  have e := Rf.add_calls A A' n c n' c' (digs V x) (digs V y) w h h' (digs_lt V_two x) (digs_lt V_two y) (by rw [← h.len]; omega) (by rw [← h'.len]; omega)
  rw [val_digs V_two, val_digs V_two] at e
  exact e.mono fun _ _ h => h.gives
theorem keepd {w : World} {g : Nat} {t : TypeId} {a b : Value} {l : ByteArray} {x : Int} (C : Bk w g t #[a, b, .string l, .int .i64 x]) : w.cell? ⟨g, 2, none⟩ = some (.string l) ∧ w.cell? ⟨g, 3, none⟩ = some (.int .i64 x) := ⟨C.at_ 2 rfl, C.at_ 3 rfl⟩
set_option maxHeartbeats 4000000 in
set_option maxRecDepth 100000 in
theorem number_calls (l : List UInt8) (x unit : Int) (k : Nat) (w : World) (hd : ∀ c ∈ l, isDig c) (hl : l.length ≤ 767) (hx : -65536 ≤ x) (hx' : x ≤ 65536) (hk : x - unit = (k : Nat)) (hk' : k ≤ 4096) :
    Calls Tryz.prog 19 #[.agg #[.int .i64 0, .bool false, .string ⟨l.toArray⟩, .int .i64 x], .int .i64 unit] w (Gives w .u32 (digs V (nv 0 l * 10 ^ k))) := by
  have ho : ∀ w1, Calls Tryz.prog 36 #[.string ⟨l.toArray⟩] w1 (Gives w1 .u32 (digs V (nv 0 l))) := fun w1 => by
    have e := Rw.rof_calls ⟨l.toArray⟩ (by rw [size_of]; omega) hd w1
    exact e.mono fun _ _ h => h.gives
  have HO := Lib.hid ho
  have HP := Lib.hid (fun w1 => rpow10e k w1 (by omega))
  have hM : ∀ (A A' : Option Addr) (n c n' c' : Nat) (w1 : World), SI w1 .u32 A n c (digs V (nv 0 l)) → SI w1 .u32 A' n' c' (digs V (10 ^ k)) → Calls Tryz.prog 27 #[.slice A n c, .slice A' n' c'] w1 (Gives w1 .u32 (digs V (nv 0 l * 10 ^ k))) := fun A A' n c n' c' w1 h h' => by
    have h1 := nv_len hd hl (by omega)
    have h2 := ten_len k
    exact (rmul_d A A' n c n' c' (nv 0 l) (10 ^ k) w1 h h' (by rw [← h.len]; omega) (by rw [← h'.len]; omega)).mono fun _ _ h => h.gives
  have HM := Lib.hid hM
  have s1 : IntKind.i64.wrap (x - unit) = (k : Int) := by rw [hk]; exact IntWalk.i64_in _ (by omega)
  have S1 := Lib.hid s1
  obtain ⟨B1, bl⟩ := blk1 w #[.int .i64 0, .bool false, .string ⟨l.toArray⟩, .int .i64 x] 25 0
  have HB1 := Lib.hid B1
  have HB := Lib.hid bl
  clear ho hM s1 hk hd B1 bl
  generalize nv 0 l * 10 ^ k = r at *
  generalize 10 ^ k = t at *
  generalize nv 0 l = v at *
  go_enter Tryz.func19, Tryz.ntmps19
  go_wp2
  obtain ⟨Y, hY⟩ : ∃ Y, Y = w.alloc (.cells #[.int .i64 0, .bool false, .string ⟨l.toArray⟩, .int .i64 x] 25) := ⟨_, rfl⟩
  have C : Bk Y w.heap.size 25 #[.int .i64 0, .bool false, .string ⟨l.toArray⟩, .int .i64 x] := by rw [hY]; exact HB1.out
  have bY : Below w.heap.size w Y := by rw [hY]; exact HB.out
  rw [← hY]
  clear hY HB1 HB
  have s1 := S1.out
  have kp : Y.drew.cell? ⟨w.heap.size, 2, none⟩ = some (.string ⟨l.toArray⟩) ∧ Y.drew.cell? ⟨w.heap.size, 3, none⟩ = some (.int .i64 x) := ⟨C.drew.at_ 2 rfl, C.drew.at_ 3 rfl⟩
  go_region_held3 (fun w' => w'.cell? ⟨w.heap.size, 2, none⟩ = some (.string ⟨l.toArray⟩) ∧ w'.cell? ⟨w.heap.size, 3, none⟩ = some (.int .i64 x))
    (first | (with_reducible exact kp) | (with_reducible exact kq) | (with_reducible exact kr) | (with_reducible exact ks))
    (first
      | (go_at_call 36; (with_reducible refine (HO.out _).mono ?_); rintro e w1 ⟨A1, n1, c1, rfl, r1, b1⟩; have C1 := C.drew.below b1; have kq := keepd C1; have l1 := on (on bY (Below.refl Y.heap.size Y).drew) b1)
      | (go_at_call 26; (with_reducible refine (HP.out _).mono ?_); rintro e w2 ⟨A2, n2, c2, rfl, r2, b2⟩; have C2 := C1.below b2; have kr := keepd C2; have l2 := on l1 b2; have r1' := r1.below b2)
      | (go_at_call 27; (with_reducible refine (HM.out A1 A2 n1 c1 n2 c2 w2 r1' r2).mono ?_); rintro e w3 ⟨A3, n3, c3, rfl, r3, b3⟩; have C3 := C2.below b3; have ks := keepd C3; have l3 := on l2 b3))
  all_goals
    clear kp kq kr ks
    go_wp2
    go_ret
    exact ⟨_, _, _, rfl, r3, l3⟩
theorem keep8 {w : World} {g : Nat} {t : TypeId} {l m : List UInt8} {x y : Int} (C : Bk w g t #[.int .i64 0, .bool false, .string ⟨l.toArray⟩, .int .i64 x]) (D : Bk w (g + 1) t #[.int .i64 0, .bool false, .string ⟨m.toArray⟩, .int .i64 y]) :
    w.cell? ⟨g, 0, none⟩ = some (.int .i64 0) ∧ w.cell? ⟨g, 1, none⟩ = some (.bool false) ∧ w.cell? ⟨g, 2, none⟩ = some (.string ⟨l.toArray⟩) ∧ w.cell? ⟨g, 3, none⟩ = some (.int .i64 x) ∧ w.cell? ⟨(g + 1), 0, none⟩ = some (.int .i64 0) ∧ w.cell? ⟨(g + 1), 1, none⟩ = some (.bool false) ∧ w.cell? ⟨(g + 1), 2, none⟩ = some (.string ⟨m.toArray⟩) ∧ w.cell? ⟨(g + 1), 3, none⟩ = some (.int .i64 y) := ⟨C.at_ 0 rfl, C.at_ 1 rfl, C.at_ 2 rfl, C.at_ 3 rfl, D.at_ 0 rfl, D.at_ 1 rfl, D.at_ 2 rfl, D.at_ 3 rfl⟩
set_option maxHeartbeats 8000000 in
set_option maxRecDepth 100000 in
theorem order_calls (l m : List UInt8) (x y : Int) (A B M N : Nat) (w : World) (hA : Dw l x A M) (hB : Dw m y B N) (hM : M ≤ 767) (hN : N ≤ 767) :
    Calls Tryz.prog 18 #[.agg #[.int .i64 0, .bool false, .string ⟨l.toArray⟩, .int .i64 x], .agg #[.int .i64 0, .bool false, .string ⟨m.toArray⟩, .int .i64 y]] w fun e w' => e = .returned (.int .i64 (cmp A B)) ∧ Below w.heap.size w w' := by
  obtain ⟨x1, x2⟩ := hA.exp
  obtain ⟨y1, y2⟩ := hB.exp
  have x3 := hA.low
  have y3 := hB.low
  obtain ⟨B1, B2, bl⟩ := blk_two w #[.int .i64 0, .bool false, .string ⟨l.toArray⟩, .int .i64 x] #[.int .i64 0, .bool false, .string ⟨m.toArray⟩, .int .i64 y] 25 25
  rcases Int.lt_or_le y x with hyx | hyx
  · obtain ⟨ka, hka⟩ : ∃ ka : Nat, x - y = ka := ⟨(x - y).toNat, by omega⟩
    obtain ⟨kb, hkb⟩ : ∃ kb : Nat, kb = 0 := ⟨_, rfl⟩
    have hmn : min x y = y := by omega
    have N1 := Lib.hid (fun w1 => number_calls l x y ka w1 hA.dig (by have := hA.len; omega) (by omega) (by omega) (by omega) (by omega))
    have N2 := Lib.hid (fun w1 => number_calls m y y kb w1 hB.dig (by have := hB.len; omega) (by omega) (by omega) (by omega) (by omega))
    obtain ⟨P, hP⟩ : ∃ P, P = nv 0 l * 10 ^ ka := ⟨_, rfl⟩
    obtain ⟨Q, hQ⟩ : ∃ Q, Q = nv 0 m * 10 ^ kb := ⟨_, rfl⟩
    have hcmp : cmp P Q = cmp A B := by
      obtain ⟨u, hu⟩ : ∃ u : Nat, (u : Int) = y + (1076 : Nat) := ⟨(y + 1076).toNat, by omega⟩
      rw [hP, hQ]
      exact cmp_iff (hA.rep.lt hB.rep hu (by omega) (by omega)) (hB.rep.lt hA.rep hu (by omega) (by omega))
    rw [← hP] at N1
    rw [← hQ] at N2
    have HC := Lib.hid hcmp
    have HB1 := Lib.hid B1
    have HB2 := Lib.hid B2
    have HBl := Lib.hid bl
    clear hP hQ hcmp hA hB B1 B2 bl
    go_enter Tryz.func18, Tryz.ntmps18
    go_wp2
    obtain ⟨Y, hY⟩ : ∃ Y, Y = (w.alloc (.cells #[.int .i64 0, .bool false, .string ⟨l.toArray⟩, .int .i64 x] 25)).alloc (.cells #[.int .i64 0, .bool false, .string ⟨m.toArray⟩, .int .i64 y] 25) := ⟨_, rfl⟩
    have C1 : Bk Y w.heap.size 25 #[.int .i64 0, .bool false, .string ⟨l.toArray⟩, .int .i64 x] := by rw [hY]; exact HB1.out
    have C2 : Bk Y (w.heap.size + 1) 25 #[.int .i64 0, .bool false, .string ⟨m.toArray⟩, .int .i64 y] := by rw [hY]; exact HB2.out
    have bY : Below w.heap.size w Y := by rw [hY]; exact HBl.out
    rw [← hY]
    clear hY HB1 HB2 HBl
    have kp := keep8 C1.drew C2.drew
    go_region_held3 (fun w' => w'.cell? ⟨w.heap.size, 0, none⟩ = some (.int .i64 0) ∧ w'.cell? ⟨w.heap.size, 1, none⟩ = some (.bool false) ∧ w'.cell? ⟨w.heap.size, 2, none⟩ = some (.string ⟨l.toArray⟩) ∧ w'.cell? ⟨w.heap.size, 3, none⟩ = some (.int .i64 x) ∧ w'.cell? ⟨w.heap.size + 1, 0, none⟩ = some (.int .i64 0) ∧ w'.cell? ⟨w.heap.size + 1, 1, none⟩ = some (.bool false) ∧ w'.cell? ⟨w.heap.size + 1, 2, none⟩ = some (.string ⟨m.toArray⟩) ∧ w'.cell? ⟨w.heap.size + 1, 3, none⟩ = some (.int .i64 y))
      (first | (with_reducible exact kp) | (with_reducible exact kq) | (with_reducible exact kr) | (with_reducible exact ks))
      (first
        | (go_at_call 19; first
          | ((with_reducible refine (N1.out _).mono ?_); rintro e w1 ⟨A1, n1, c1, rfl, r1, b1⟩; have D1 := C1.drew.below b1; have D2 := C2.drew.below b1; have kq := keep8 D1 D2; have l1 := on (on bY (Below.refl Y.heap.size Y).drew) b1)
          | ((with_reducible refine (N2.out _).mono ?_); rintro e w2 ⟨A2, n2, c2, rfl, r2, b2⟩; have E1 := D1.below b2; have E2 := D2.below b2; have kr := keep8 E1 E2; have l2 := on l1 b2; have r1' := r1.below b2))
        | (go_at_call 21; (with_reducible refine (rcmp_d A1 A2 n1 c1 n2 c2 P Q w2 r1' r2).mono ?_); rintro e w3 ⟨rfl, d3⟩; have F1 := E1.below d3.below; have F2 := E2.below d3.below; have ks := keep8 F1 F2; have l3 := on l2 d3.below))
    all_goals
      clear kp kq kr ks
      go_wp2
      go_ret
      exact ⟨by rw [← HC.out]; rfl, l3⟩
  · obtain ⟨ka, hka⟩ : ∃ ka : Nat, ka = 0 := ⟨_, rfl⟩
    obtain ⟨kb, hkb⟩ : ∃ kb : Nat, y - x = kb := ⟨(y - x).toNat, by omega⟩
    have hyx' : ¬ y < x := by omega
    have hmn : min x y = x := by omega
    have N1 := Lib.hid (fun w1 => number_calls l x x ka w1 hA.dig (by have := hA.len; omega) (by omega) (by omega) (by omega) (by omega))
    have N2 := Lib.hid (fun w1 => number_calls m y x kb w1 hB.dig (by have := hB.len; omega) (by omega) (by omega) (by omega) (by omega))
    obtain ⟨P, hP⟩ : ∃ P, P = nv 0 l * 10 ^ ka := ⟨_, rfl⟩
    obtain ⟨Q, hQ⟩ : ∃ Q, Q = nv 0 m * 10 ^ kb := ⟨_, rfl⟩
    have hcmp : cmp P Q = cmp A B := by
      obtain ⟨u, hu⟩ : ∃ u : Nat, (u : Int) = x + (1076 : Nat) := ⟨(x + 1076).toNat, by omega⟩
      rw [hP, hQ]
      exact cmp_iff (hA.rep.lt hB.rep hu (by omega) (by omega)) (hB.rep.lt hA.rep hu (by omega) (by omega))
    rw [← hP] at N1
    rw [← hQ] at N2
    have HC := Lib.hid hcmp
    have HB1 := Lib.hid B1
    have HB2 := Lib.hid B2
    have HBl := Lib.hid bl
    clear hP hQ hcmp hA hB B1 B2 bl
    go_enter Tryz.func18, Tryz.ntmps18
    go_wp2
    obtain ⟨Y, hY⟩ : ∃ Y, Y = (w.alloc (.cells #[.int .i64 0, .bool false, .string ⟨l.toArray⟩, .int .i64 x] 25)).alloc (.cells #[.int .i64 0, .bool false, .string ⟨m.toArray⟩, .int .i64 y] 25) := ⟨_, rfl⟩
    have C1 : Bk Y w.heap.size 25 #[.int .i64 0, .bool false, .string ⟨l.toArray⟩, .int .i64 x] := by rw [hY]; exact HB1.out
    have C2 : Bk Y (w.heap.size + 1) 25 #[.int .i64 0, .bool false, .string ⟨m.toArray⟩, .int .i64 y] := by rw [hY]; exact HB2.out
    have bY : Below w.heap.size w Y := by rw [hY]; exact HBl.out
    rw [← hY]
    clear hY HB1 HB2 HBl
    have kp := keep8 C1.drew C2.drew
    go_region_held3 (fun w' => w'.cell? ⟨w.heap.size, 0, none⟩ = some (.int .i64 0) ∧ w'.cell? ⟨w.heap.size, 1, none⟩ = some (.bool false) ∧ w'.cell? ⟨w.heap.size, 2, none⟩ = some (.string ⟨l.toArray⟩) ∧ w'.cell? ⟨w.heap.size, 3, none⟩ = some (.int .i64 x) ∧ w'.cell? ⟨w.heap.size + 1, 0, none⟩ = some (.int .i64 0) ∧ w'.cell? ⟨w.heap.size + 1, 1, none⟩ = some (.bool false) ∧ w'.cell? ⟨w.heap.size + 1, 2, none⟩ = some (.string ⟨m.toArray⟩) ∧ w'.cell? ⟨w.heap.size + 1, 3, none⟩ = some (.int .i64 y))
      (first | (with_reducible exact kp) | (with_reducible exact kq) | (with_reducible exact kr) | (with_reducible exact ks))
      (first
        | (go_at_call 19; first
          | ((with_reducible refine (N1.out _).mono ?_); rintro e w1 ⟨A1, n1, c1, rfl, r1, b1⟩; have D1 := C1.drew.below b1; have D2 := C2.drew.below b1; have kq := keep8 D1 D2; have l1 := on (on bY (Below.refl Y.heap.size Y).drew) b1)
          | ((with_reducible refine (N2.out _).mono ?_); rintro e w2 ⟨A2, n2, c2, rfl, r2, b2⟩; have E1 := D1.below b2; have E2 := D2.below b2; have kr := keep8 E1 E2; have l2 := on l1 b2; have r1' := r1.below b2))
        | (go_at_call 21; (with_reducible refine (rcmp_d A1 A2 n1 c1 n2 c2 P Q w2 r1' r2).mono ?_); rintro e w3 ⟨rfl, d3⟩; have F1 := E1.below d3.below; have F2 := E2.below d3.below; have ks := keep8 F1 F2; have l3 := on l2 d3.below))
    all_goals
      clear kp kq kr ks
      go_wp2
      go_ret
      exact ⟨by rw [← HC.out]; rfl, l3⟩
theorem last_gen' (r : List UInt8) (c : UInt8) (h : (⟨(r ++ [c]).toArray⟩ : ByteArray).size - 1 < (⟨(r ++ [c]).toArray⟩ : ByteArray).size) : (⟨(r ++ [c]).toArray⟩ : ByteArray)[(⟨(r ++ [c]).toArray⟩ : ByteArray).size - 1] = c := last_at r c h
theorem byte_at (l : List UInt8) (i : Nat) (h : i < (⟨l.toArray⟩ : ByteArray).size) : (⟨l.toArray⟩ : ByteArray)[i] ∈ l := List.mem_of_getElem? (Lib.getElem_mk l i h)
/-- a formed text -/
structure Fm (S : ByteArray) (x : Int) (most : Nat) : Prop where
  dig : ∀ i (h : i < S.size), 48 ≤ S[i].toNat ∧ S[i].toNat ≤ 57
  len : S.size ≤ most
  nil : S.size = 0 → x = 0
  ends : 0 < S.size → (∀ h : 0 < S.size, S[0].toNat ≠ 48) ∧ (∀ h : S.size - 1 < S.size, S[S.size - 1].toNat ≠ 48) ∧ -1100 ≤ x ∧ x ≤ 400
theorem ne_of {c : UInt8} (h : (c == 48) = false) : c.toNat ≠ 48 := fun e => by
  have : c = 48 := UInt8.toNat_inj.mp e
  rw [this] at h
  cases h
theorem Dw.fm {l : List UInt8} {x : Int} {A most : Nat} (h : Dw l x A most) : Fm ⟨l.toArray⟩ x most := by
  refine ⟨fun i hi => h.dig _ (byte_at l i hi), by rw [size_of]; exact h.len, fun h0 => ?_, fun h0 => ?_⟩
  · rw [size_of] at h0
    rcases h.ends with ⟨_, e⟩ | ⟨⟨c, r, e, _⟩, _⟩
    · exact e
    · rw [e] at h0; simp at h0
  · rcases h.ends with ⟨e, _⟩ | ⟨⟨c, r, e1, c1⟩, ⟨r', c', e2, c2⟩, h3, h4⟩
    · rw [size_of, e] at h0; simp at h0
    · refine ⟨fun hh => ?_, fun hh => ?_, h3, h4⟩
      · subst e1
        have := Lib.getElem_mk (c :: r) 0 hh
        simp only [List.getElem?_cons_zero, Option.some.injEq] at this
        rw [← this]
        exact ne_of c1
      · subst e2
        rw [last_gen' r' c' hh]
        exact ne_of c2
set_option maxHeartbeats 4000000 in
set_option maxRecDepth 100000 in
theorem formed_any (S : ByteArray) (g : Bool) (x : Int) (most : Nat) (M : Int) (w : World) (h : Fm S x most) (hM : M = (most : Nat)) (hm : most ≤ 767) :
    Calls Tryz.prog 17 #[.agg #[.int .i64 0, .bool g, .string S, .int .i64 x], .int .i64 M] w fun e w' => e = .returned (.bool true) ∧ Below w.heap.size w w' := by
  subst hM
  have HF := Lib.hid h
  have hS := h.len
  have hS2 : S.size ≤ 767 := by omega
  obtain ⟨B1, bl⟩ := blk1 w #[.int .i64 0, .bool g, .string S, .int .i64 x] 25 0
  have HB1 := Lib.hid B1
  have HB := Lib.hid bl
  clear B1 bl h
  go_enter Tryz.func17, Tryz.ntmps17
  go_wp2
  obtain ⟨Y, hY⟩ : ∃ Y, Y = w.alloc (.cells #[.int .i64 0, .bool g, .string S, .int .i64 x] 25) := ⟨_, rfl⟩
  have C : Bk Y w.heap.size 25 #[.int .i64 0, .bool g, .string S, .int .i64 x] := by rw [hY]; exact HB1.out
  have bY : Below w.heap.size w Y := by rw [hY]; exact HB.out
  rw [← hY]
  have k2 := C.at_ 2 rfl
  have k3 := C.at_ 3 rfl
  clear hY HB1 HB C
  go_loopw [6] (fun z wr => ∃ i : Nat, z = .int .i64 (i : Nat) ∧ i ≤ S.size ∧ Y = wr) (fun z _ => S.size - (intOf z).toNat)
  case atStart => exact ⟨0, rfl, Nat.zero_le _, rfl⟩
  case round =>
    obtain ⟨i, rfl, hi, rfl⟩ := hrel
    by_cases hlt : i < S.size
    · obtain ⟨d1, d2⟩ := HF.out.dig i hlt
      obtain ⟨bt, hbt⟩ : ∃ bt : Nat, bt = S[i].toNat := ⟨_, rfl⟩
      have d3 : ¬ ((S[i].toNat : Int) < 48) := by rw [← hbt] at d1 ⊢; omega
      have d4 : ¬ ((57 : Int) < (S[i].toNat : Int)) := by rw [← hbt] at d2 ⊢; omega
      go_wp2
      go_roundw
      case rel => exact ⟨i + 1, by go_num, by omega, trivial⟩
      case measure => simp [intOf]; omega
    · obtain rfl : i = S.size := by omega
      rcases Nat.eq_zero_or_pos S.size with z0 | z0
      · have hx0 := HF.out.nil z0
        subst hx0
        have z1 : ((S.size : Int) == 0) = true := by rw [z0]; rfl
        have z2 : (S.size == 0) = true := by rw [z0]; rfl
        clear z0 hlt
        go_wp2
        go_ret
        exact ⟨rfl, bY⟩
      · obtain ⟨f1, f2, f3, f4⟩ := HF.out.ends z0
        have g1 := f1 z0
        have z5 : S.size - 1 < S.size := by omega
        have g2 := f2 z5
        have z1 : ((S.size : Int) == 0) = false := by rw [beq_eq_false_iff_ne]; omega
        have z2 : (S.size == 0) = false := by rw [beq_eq_false_iff_ne]; omega
        have z3 : (1 : Int) ≤ (S.size : Int) := by omega
        have u1 : ((S[0].toNat : Int) == 48) = false := by simp; omega
        have u2 : ((S[S.size - 1].toNat : Int) == 48) = false := by simp; omega
        have u3 : ((S[0].toNat : Int) != 48) = true := by simp; omega
        have u4 : ((S[S.size - 1].toNat : Int) != 48) = true := by simp; omega
        clear f1 f2 g1 g2 hlt
        go_wp2
        go_ret
        exact ⟨rfl, bY⟩
theorem formed_calls (l : List UInt8) (x : Int) (A most : Nat) (M : Int) (w : World) (h : Dw l x A most) (hM : M = (most : Nat)) (hm : most ≤ 767) :
    Calls Tryz.prog 17 #[.agg #[.int .i64 0, .bool false, .string ⟨l.toArray⟩, .int .i64 x], .int .i64 M] w fun e w' => e = .returned (.bool true) ∧ Below w.heap.size w w' :=
  formed_any ⟨l.toArray⟩ false x most M w h.fm hM hm
end Go.Proofs.YtphpcpomhcodpaaGreatDoor.Sh

/- Layer 3's laws: ShortestStands. -/
set_option linter.unusedSimpArgs false
set_option linter.unusedVariables false
namespace Go.Proofs.YtphpcpomhcodpaaGreatDoor.Sh
open Go.RowKit Go.Proofs.YtphpcpomhcodpaaGreatDoor.Dig Go.Proofs.YtphpcpomhcodpaaGreatDoor.W Go.Proofs.YtphpcpomhcodpaaGreatDoor.Nat Go.Proofs.YtphpcpomhcodpaaGreatDoor.Wh Go.Proofs.YtphpcpomhcodpaaGreatDoor.Td Go.Proofs.YtphpcpomhcodpaaGreatDoor.Bu Go.Proofs.YtphpcpomhcodpaaGreatDoor.Tx Go.Proofs.YtphpcpomhcodpaaGreatDoor.Sp
open Go.Proofs.YtphpcpomhcodpaaGreatDoor.Rf (V V_two V_pos)

theorem not_high (a : Nat) (ha : a < 18446744073709551616) : Go.bits .andNot .u64 (a : Int) 9223372036854775808 = ((a % 9223372036854775808 : Nat) : Int) := by
  show IntKind.u64.wrap ((BitVec.ofInt 64 (a : Int) &&& ~~~ BitVec.ofInt 64 9223372036854775808).toNat : Int) = _
  rw [BitVec.toNat_and, ofInt_u64 a ha, show (~~~ BitVec.ofInt 64 9223372036854775808).toNat = 2 ^ 63 - 1 by decide, Nat.and_two_pow_sub_one_eq_mod, IntKind.wrap_u64]
  omega
/-- four Decs in a row of blocks -/
structure D4 (w0 w : World) (g : Nat) (c0 c1 c2 c3 : Array Value) : Prop where
  b0 : Bk w g 25 c0
  b1 : Bk w (g + 1) 25 c1
  b2 : Bk w (g + 1 + 1) 25 c2
  b3 : Bk w (g + 1 + 1 + 1) 25 c3
  bl : Below w0.heap.size w0 w
theorem D4.below {w0 w w' : World} {g : Nat} {c0 c1 c2 c3 : Array Value} (h : D4 w0 w g c0 c1 c2 c3) (b : Below w.heap.size w w') : D4 w0 w' g c0 c1 c2 c3 :=
  ⟨h.b0.below b, h.b1.below b, h.b2.below b, h.b3.below b, on h.bl b⟩
theorem D4.start {w0 w : World} (c0 c1 c2 c3 : Array Value) (b : Below w0.heap.size w0 w) :
    D4 w0 ((((w.alloc (.cells c0 25)).alloc (.cells c1 25)).alloc (.cells c2 25)).alloc (.cells c3 25)) w.heap.size c0 c1 c2 c3 := by
  have e1 : ∀ (W : World) (o : Obj), (W.alloc o).heap.size = W.heap.size + 1 := fun W o => by simp
  have B1 := ((((Bk.start w 25 c0).alloc (.cells c1 25)).alloc (.cells c2 25)).alloc (.cells c3 25))
  have B2 := (((Bk.start (w.alloc (.cells c0 25)) 25 c1).alloc (.cells c2 25)).alloc (.cells c3 25))
  have B3 := ((Bk.start ((w.alloc (.cells c0 25)).alloc (.cells c1 25)) 25 c2).alloc (.cells c3 25))
  have B4 := (Bk.start (((w.alloc (.cells c0 25)).alloc (.cells c1 25)).alloc (.cells c2 25)) 25 c3)
  rw [e1] at B2
  rw [e1, e1] at B3
  rw [e1, e1, e1] at B4
  exact ⟨B1, B2, B3, B4, on (on (on (on b (alloc_below _ _)) (alloc_below _ _)) (alloc_below _ _)) (alloc_below _ _)⟩
theorem keep4 {w : World} {g : Nat} {t : TypeId} {a0 a1 a2 a3 : Value} (C : Bk w g t #[a0, a1, a2, a3]) : w.cell? ⟨g, 0, none⟩ = some a0 ∧ w.cell? ⟨g, 1, none⟩ = some a1 ∧ w.cell? ⟨g, 2, none⟩ = some a2 ∧ w.cell? ⟨g, 3, none⟩ = some a3 := ⟨C.at_ 0 rfl, C.at_ 1 rfl, C.at_ 2 rfl, C.at_ 3 rfl⟩
set_option maxHeartbeats 8000000 in
set_option maxRecDepth 100000 in
theorem shortestStands_calls (z y : Int) (h0 : 0 ≤ z) (h1 : z < 18446744073709551616) (h2 : 0 ≤ y) (h3 : y < 18446744073709551616) (w : World) (hp : Pow w) :
    Calls Tryz.prog 6 #[.int .u64 z, .int .u64 y] w fun e w' => e = .returned (.bool true) ∧ Below w.heap.size w w' := by
  obtain ⟨a0, rfl⟩ : ∃ a0 : Nat, z = a0 := ⟨z.toNat, by omega⟩
  obtain ⟨b0, rfl⟩ : ∃ b0 : Nat, y = b0 := ⟨y.toNat, by omega⟩
  have m1 := not_high a0 (by omega)
  have m2 := not_high b0 (by omega)
  have a1 : a0 % 9223372036854775808 < 9223372036854775808 := Nat.mod_lt _ (by omega)
  have a2 : b0 % 9223372036854775808 < 9223372036854775808 := Nat.mod_lt _ (by omega)
  have HA := Lib.hid (awake_calls w hp)
  generalize a0 % 9223372036854775808 = a at *
  generalize b0 % 9223372036854775808 = b at *
  by_cases hfin : a < 9218868437227405312 ∧ b < 9218868437227405312
  · obtain ⟨hfa, hfb⟩ := hfin
    obtain ⟨l1, x1, e1, w1⟩ := dw_o hfa
    obtain ⟨l2, x2, e2, w2⟩ := dw_o hfb
    obtain ⟨l3, x3, e3, w3⟩ := dw_x hfa
    obtain ⟨l4, x4, e4, w4⟩ := dw_x hfb
    have H1 := Lib.hid (fun W (bl : Below w.heap.size w W) => e1 ▸ Of64_calls (bits := a) (by omega) W (hp.below bl))
    have H2 := Lib.hid (fun W (bl : Below w.heap.size w W) => e2 ▸ Of64_calls (bits := b) (by omega) W (hp.below bl))
    have H3 := Lib.hid (fun W (bl : Below w.heap.size w W) => e3 ▸ Exact64_calls (bits := a) (by omega) W (hp.below bl))
    have H4 := Lib.hid (fun W (bl : Below w.heap.size w W) => e4 ▸ Exact64_calls (bits := b) (by omega) W (hp.below bl))
    have F1 := Lib.hid (fun W => formed_calls l1 x1 _ 17 17 W w1 rfl (by omega))
    have F2 := Lib.hid (fun W => formed_calls l2 x2 _ 17 17 W w2 rfl (by omega))
    have F3 := Lib.hid (fun W => formed_calls l3 x3 _ 767 767 W w3 rfl (by omega))
    have F4 := Lib.hid (fun W => formed_calls l4 x4 _ 767 767 W w4 rfl (by omega))
    have O1 := fun W => order_calls l1 l2 x1 x2 _ _ 17 17 W w1 w2 (by omega) (by omega)
    have O2 := fun W => order_calls l3 l4 x3 x4 _ _ 767 767 W w3 w4 (by omega) (by omega)
    rw [cmp_mono oA_lt] at O1
    rw [cmp_mono xA_lt] at O2
    obtain ⟨c, hc⟩ : ∃ c, c = cmp a b := ⟨_, rfl⟩
    simp only [← hc] at O1 O2
    have hcc : (a < b ∧ c = -1) ∨ (a = b ∧ c = 0) ∨ (b < a ∧ c = 1) := by
      rcases cmp_three a b with ⟨h, e⟩ | ⟨h, e⟩ | ⟨h, e⟩
      · exact .inl ⟨h, hc.trans e⟩
      · exact .inr (.inl ⟨h, hc.trans e⟩)
      · exact .inr (.inr ⟨h, hc.trans e⟩)
    have G1 := Lib.hid O1
    have G2 := Lib.hid O2
    clear O1 O2 e1 e2 e3 e4 w1 w2 w3 w4 hp hc
    have M1 := Lib.hid m1
    have M2 := Lib.hid m2
    clear m1 m2
    have d1 : decide ((9218868437227405312 : Int) ≤ (a : Int)) = false := decide_eq_false (by omega)
    have d2 : decide ((9218868437227405312 : Int) ≤ (b : Int)) = false := decide_eq_false (by omega)
    have d3 : decide (9218868437227405312 ≤ a) = false := decide_eq_false (by omega)
    have d4 : decide (9218868437227405312 ≤ b) = false := decide_eq_false (by omega)
    clear hfa hfb a1 a2 h1 h3
    rcases hcc with ⟨hab, rfl⟩ | ⟨rfl, rfl⟩ | ⟨hab, rfl⟩
    all_goals
      have m1 := M1.out
      have m2 := M2.out
      clear M1 M2
      go_enter Tryz.func6, Tryz.ntmps6
      go_upto_region 12 with (first
        | (go_at_call 8; (with_reducible refine HA.out.mono ?_); rintro e v1 ⟨rfl, b1⟩)
        | (go_at_call 9; first
          | ((with_reducible refine (H1.out v1 b1).mono ?_); rintro e v2 ⟨rfl, b2⟩; have b2' := on b1 b2)
          | ((with_reducible refine (H2.out v2 b2').mono ?_); rintro e v3 ⟨rfl, b3⟩; have b3' := on b2' b3))
        | (go_at_call 14; first
          | ((with_reducible refine (H3.out v3 b3').mono ?_); rintro e v4 ⟨rfl, b4⟩; have b4' := on b3' b4)
          | ((with_reducible refine (H4.out v4 b4').mono ?_); rintro e v5 ⟨rfl, b5⟩; have b5' := on b4' b5)))
      have D := D4.start (w0 := w) (w := v5) #[.int .i64 0, .bool false, .string ⟨l1.toArray⟩, .int .i64 x1] #[.int .i64 0, .bool false, .string ⟨l2.toArray⟩, .int .i64 x2] #[.int .i64 0, .bool false, .string ⟨l3.toArray⟩, .int .i64 x3] #[.int .i64 0, .bool false, .string ⟨l4.toArray⟩, .int .i64 x4] b5'
      obtain ⟨Y, hY⟩ : ∃ Y, Y = (((v5.alloc (.cells #[.int .i64 0, .bool false, .string ⟨l1.toArray⟩, .int .i64 x1] 25)).alloc (.cells #[.int .i64 0, .bool false, .string ⟨l2.toArray⟩, .int .i64 x2] 25)).alloc (.cells #[.int .i64 0, .bool false, .string ⟨l3.toArray⟩, .int .i64 x3] 25)).alloc (.cells #[.int .i64 0, .bool false, .string ⟨l4.toArray⟩, .int .i64 x4] 25) := ⟨_, rfl⟩
      rw [← hY] at D ⊢
      generalize v5.heap.size = g at *
      clear hY b5' b4' b3' b2' b1 b2 b3 b4 b5 H1 H2 H3 H4 HA m1 m2
      have kp := keep4 D.b0
      go_wp2_with (first
        | (go_at_call 17; first
          | ((with_reducible refine (F1.out Y).mono ?_); rintro e v6 ⟨rfl, b6⟩; have D6 := D.below b6; have kq := keep4 D6.b1)
          | ((with_reducible refine (F2.out v6).mono ?_); rintro e v7 ⟨rfl, b7⟩; have D7 := D6.below b7; have kr := keep4 D7.b2)
          | ((with_reducible refine (F3.out v7).mono ?_); rintro e v8 ⟨rfl, b8⟩; have D8 := D7.below b8; have ks := keep4 D8.b3)
          | ((with_reducible refine (F4.out v8).mono ?_); rintro e v9 ⟨rfl, b9⟩; have D9 := D8.below b9; have kt := keep4 D9.b0; have ku := keep4 D9.b1))
        | (go_at_call 18; first
          | ((with_reducible refine (G1.out v9).mono ?_); rintro e v10 ⟨rfl, b10⟩; have D10 := D9.below b10; have kv := keep4 D10.b2; have kw := keep4 D10.b3)
          | ((with_reducible refine (G2.out v10).mono ?_); rintro e v11 ⟨rfl, b11⟩; have D11 := D10.below b11)))
      go_ret
      exact ⟨rfl, D11.bl⟩
  · by_cases hfa : a < 9218868437227405312
    · have hfb : ¬ b < 9218868437227405312 := fun h => hfin ⟨hfa, h⟩
      have d1 : decide ((9218868437227405312 : Int) ≤ (a : Int)) = false := decide_eq_false (by omega)
      have d2 : decide ((9218868437227405312 : Int) ≤ (b : Int)) = true := decide_eq_true (by omega)
      have d3 : decide (9218868437227405312 ≤ a) = false := decide_eq_false (by omega)
      have d4 : decide (9218868437227405312 ≤ b) = true := decide_eq_true (by omega)
      clear hfin hfa hfb a1 a2 h1 h3
      go_enter Tryz.func6, Tryz.ntmps6
      go_wp2_with (go_at_call 8; (with_reducible refine HA.out.mono ?_); rintro e v1 ⟨rfl, b1⟩)
      go_ret
      exact ⟨rfl, b1⟩
    · have d1 : decide ((9218868437227405312 : Int) ≤ (a : Int)) = true := decide_eq_true (by omega)
      have d3 : decide (9218868437227405312 ≤ a) = true := decide_eq_true (by omega)
      clear hfin hfa a1 a2 h1 h3
      go_enter Tryz.func6, Tryz.ntmps6
      go_wp2_with (go_at_call 8; (with_reducible refine HA.out.mono ?_); rintro e v1 ⟨rfl, b1⟩)
      go_ret
      exact ⟨rfl, b1⟩
end Go.Proofs.YtphpcpomhcodpaaGreatDoor.Sh

/- Layer 3's laws: ShortestNear. -/
set_option linter.unusedSimpArgs false
set_option linter.unusedVariables false
namespace Go.Proofs.YtphpcpomhcodpaaGreatDoor.Sh
open Go.RowKit Go.Proofs.YtphpcpomhcodpaaGreatDoor.Dig Go.Proofs.YtphpcpomhcodpaaGreatDoor.W Go.Proofs.YtphpcpomhcodpaaGreatDoor.Nat Go.Proofs.YtphpcpomhcodpaaGreatDoor.Wh Go.Proofs.YtphpcpomhcodpaaGreatDoor.Td Go.Proofs.YtphpcpomhcodpaaGreatDoor.Bu Go.Proofs.YtphpcpomhcodpaaGreatDoor.Tx Go.Proofs.YtphpcpomhcodpaaGreatDoor.Sp
open Go.Proofs.YtphpcpomhcodpaaGreatDoor.Rf (V V_two V_pos)

theorem min4 (ts : Array TypeId) (t : TypeId) (k1 k2 k3 k4 : IntKind) (a b c d u : Int) (h1 : u ≤ a) (h2 : u ≤ b) (h3 : u ≤ c) (h4 : u ≤ d) (h : u = a ∨ u = b ∨ u = c ∨ u = d) (w : World) :
    (Builtin.min_ ts t #[.int k1 a, .int k2 b, .int k3 c, .int k4 d]).run Tryz.prog w = .ok (.int k1 u) w := by
  simp [Builtin.min_, Builtin.min2]
  split <;> (try split) <;> (try split) <;> omega
theorem keep12 {w : World} {g : Nat} {t : TypeId} {l2 l3 l4 : List UInt8} {x2 x3 x4 : Int} (C : Bk w g t #[.int .i64 0, .bool false, .string ⟨l2.toArray⟩, .int .i64 x2]) (D : Bk w (g + 1) t #[.int .i64 0, .bool false, .string ⟨l3.toArray⟩, .int .i64 x3]) (E : Bk w (g + 1 + 1) t #[.int .i64 0, .bool false, .string ⟨l4.toArray⟩, .int .i64 x4]) :
    w.cell? ⟨g, 0, none⟩ = some (.int .i64 0) ∧ w.cell? ⟨g, 1, none⟩ = some (.bool false) ∧ w.cell? ⟨g, 2, none⟩ = some (.string ⟨l2.toArray⟩) ∧ w.cell? ⟨g, 3, none⟩ = some (.int .i64 x2) ∧ w.cell? ⟨(g + 1), 0, none⟩ = some (.int .i64 0) ∧ w.cell? ⟨(g + 1), 1, none⟩ = some (.bool false) ∧ w.cell? ⟨(g + 1), 2, none⟩ = some (.string ⟨l3.toArray⟩) ∧ w.cell? ⟨(g + 1), 3, none⟩ = some (.int .i64 x3) ∧ w.cell? ⟨(g + 1 + 1), 0, none⟩ = some (.int .i64 0) ∧ w.cell? ⟨(g + 1 + 1), 1, none⟩ = some (.bool false) ∧ w.cell? ⟨(g + 1 + 1), 2, none⟩ = some (.string ⟨l4.toArray⟩) ∧ w.cell? ⟨(g + 1 + 1), 3, none⟩ = some (.int .i64 x4) := ⟨C.at_ 0 rfl, C.at_ 1 rfl, C.at_ 2 rfl, C.at_ 3 rfl, D.at_ 0 rfl, D.at_ 1 rfl, D.at_ 2 rfl, D.at_ 3 rfl, E.at_ 0 rfl, E.at_ 1 rfl, E.at_ 2 rfl, E.at_ 3 rfl⟩
theorem cmp_lt {x y : Nat} (h : x < y) : cmp x y < 0 := by unfold cmp; rw [if_pos h]; omega
theorem cmp_le {x y : Nat} (h : x ≤ y) : cmp x y ≤ 0 := by
  unfold cmp
  split
  · omega
  · rw [if_neg (by omega)]; omega
/-- how near: at one unit -/
theorem near_plain {b P L M H T : Nat} (h0 : 0 < b) (hT : 0 < T) (eP : P * T = oA b) (eL : L * T = xA (b - 1)) (eM : M * T = xA b) (eH : H * T = xA (b + 1)) :
    (b % 2 = 1 → L + M < P + P ∧ P + P < M + H) ∧ (L + M ≤ P + P ∧ P + P ≤ M + H) := by
  obtain ⟨n1, n2⟩ := near h0
  have eo : oA b = fF 52 1076 b * 10 ^ un 1076 (b / 2 ^ 52 - 1) := by unfold oA; rw [if_neg (by omega)]
  rw [← eo] at n1 n2
  have f1 : 4 * sc 52 (b - 1) * 5 ^ 1076 = xA (b - 1) := rfl
  have f2 : 4 * sc 52 b * 5 ^ 1076 = xA b := rfl
  have f3 : 4 * sc 52 (b + 1) * 5 ^ 1076 = xA (b + 1) := rfl
  rw [f1, f2, f3, ← eP, ← eL, ← eM, ← eH] at n1 n2
  have d1 : (L + M) * T = L * T + M * T := Nat.add_mul ..
  have d2 : (P + P) * T = P * T + P * T := Nat.add_mul ..
  have d3 : (M + H) * T = M * T + H * T := Nat.add_mul ..
  refine ⟨fun h => ?_, ?_, ?_⟩
  · obtain ⟨a, c⟩ := n1 h
    exact ⟨Nat.lt_of_mul_lt_mul_right (a := T) (by omega), Nat.lt_of_mul_lt_mul_right (a := T) (by omega)⟩
  · exact Nat.le_of_mul_le_mul_right (by omega) hT
  · exact Nat.le_of_mul_le_mul_right (by omega) hT
set_option maxHeartbeats 16000000 in
set_option maxRecDepth 100000 in
theorem shortestNear_calls (z : Int) (h0 : 0 ≤ z) (h1 : z < 18446744073709551616) (w : World) (hp : Pow w) :
    Calls Tryz.prog 7 #[.int .u64 z] w fun e w' => e = .returned (.bool true) ∧ Below w.heap.size w w' := by
  obtain ⟨a0, rfl⟩ : ∃ a0 : Nat, z = a0 := ⟨z.toNat, by omega⟩
  have m1 := not_high a0 (by omega)
  have a1 : a0 % 9223372036854775808 < 9223372036854775808 := Nat.mod_lt _ (by omega)
  have HA := Lib.hid (awake_calls w hp)
  generalize a0 % 9223372036854775808 = b at *
  rcases (show b = 0 ∨ 9218868437227405311 ≤ b ∨ (0 < b ∧ b < 9218868437227405311) by omega) with hb | hb | ⟨hb0, hb1⟩
  · subst hb
    clear a1 h1
    go_enter Tryz.func7, Tryz.ntmps7
    go_wp2_with (go_at_call 8; (with_reducible refine HA.out.mono ?_); rintro e v1 ⟨rfl, b1⟩)
    go_ret
    exact ⟨rfl, b1⟩
  · have z0 : ((b : Int) == 0) = false := by simp; omega
    have z1 : (b == 0) = false := by simp; omega
    have d1 : decide ((9218868437227405311 : Int) ≤ (b : Int)) = true := decide_eq_true (by omega)
    have d3 : decide (9218868437227405311 ≤ b) = true := decide_eq_true (by omega)
    clear hb a1 h1
    go_enter Tryz.func7, Tryz.ntmps7
    go_wp2_with (go_at_call 8; (with_reducible refine HA.out.mono ?_); rintro e v1 ⟨rfl, b1⟩)
    go_ret
    exact ⟨rfl, b1⟩
  · have z0 : ((b : Int) == 0) = false := by simp; omega
    have z1 : (b == 0) = false := by simp; omega
    obtain ⟨l1, x1, e1, w1⟩ := dw_o (b := b) (by omega)
    obtain ⟨l2, x2, e2, w2⟩ := dw_x (b := b - 1) (by omega)
    obtain ⟨l3, x3, e3, w3⟩ := dw_x (b := b) (by omega)
    obtain ⟨l4, x4, e4, w4⟩ := dw_x (b := b + 1) (by omega)
    have H1 := Lib.hid (fun W (bl : Below w.heap.size w W) => e1 ▸ Of64_calls (bits := b) (by omega) W (hp.below bl))
    have h2 : ∀ (x : Int) (W : World), x = (b : Int) - 1 → Below w.heap.size w W → Calls Tryz.prog 14 #[.int .u64 x] W fun e w' => e = .returned (.agg #[.int .i64 0, .bool false, .string ⟨l2.toArray⟩, .int .i64 x2]) ∧ Below W.heap.size W w' := fun x W hx bl => by
      obtain rfl : x = ((b - 1 : Nat) : Int) := by omega
      rw [← e2]
      exact Exact64_calls (bits := b - 1) (by omega) W (hp.below bl)
    have H2 := Lib.hid h2
    have H3 := Lib.hid (fun W (bl : Below w.heap.size w W) => e3 ▸ Exact64_calls (bits := b) (by omega) W (hp.below bl))
    have h4 : ∀ (x : Int) (W : World), x = (b : Int) + 1 → Below w.heap.size w W → Calls Tryz.prog 14 #[.int .u64 x] W fun e w' => e = .returned (.agg #[.int .i64 0, .bool false, .string ⟨l4.toArray⟩, .int .i64 x4]) ∧ Below W.heap.size W w' := fun x W hx bl => by
      obtain rfl : x = ((b + 1 : Nat) : Int) := by omega
      rw [← e4]
      exact Exact64_calls (bits := b + 1) (by omega) W (hp.below bl)
    have H4 := Lib.hid h4
    have F1 := Lib.hid (fun W => formed_calls l1 x1 _ 17 17 W w1 rfl (by omega))
    have F2 := Lib.hid (fun W => formed_calls l2 x2 _ 767 767 W w2 rfl (by omega))
    have F3 := Lib.hid (fun W => formed_calls l3 x3 _ 767 767 W w3 rfl (by omega))
    have F4 := Lib.hid (fun W => formed_calls l4 x4 _ 767 767 W w4 rfl (by omega))
    obtain ⟨u, hu, u1, u2, u3, u4⟩ : ∃ u : Int, (u = x1 ∨ u = x2 ∨ u = x3 ∨ u = x4) ∧ u ≤ x1 ∧ u ≤ x2 ∧ u ≤ x3 ∧ u ≤ x4 := by
      refine ⟨min (min x1 x2) (min x3 x4), ?_, ?_, ?_, ?_, ?_⟩ <;> omega
    have HMin := Lib.hid (fun ts t W => min4 ts t .i64 .i64 .i64 .i64 x1 x2 x3 x4 u u1 u2 u3 u4 hu W)
    have ex1 := w1.exp; have ex2 := w2.exp; have ex3 := w3.exp; have ex4 := w4.exp
    have lo1 := w1.low; have lo2 := w2.low; have lo3 := w3.low; have lo4 := w4.low
    obtain ⟨k1, hk1⟩ : ∃ k : Nat, x1 - u = k := ⟨(x1 - u).toNat, by omega⟩
    obtain ⟨k2, hk2⟩ : ∃ k : Nat, x2 - u = k := ⟨(x2 - u).toNat, by omega⟩
    obtain ⟨k3, hk3⟩ : ∃ k : Nat, x3 - u = k := ⟨(x3 - u).toNat, by omega⟩
    obtain ⟨k4, hk4⟩ : ∃ k : Nat, x4 - u = k := ⟨(x4 - u).toNat, by omega⟩
    obtain ⟨U0, hU⟩ : ∃ U0 : Nat, (U0 : Int) = u + (1076 : Nat) := ⟨(u + 1076).toNat, by omega⟩
    have N1 := fun W => number_calls l1 x1 u k1 W w1.dig (by have := w1.len; omega) (by omega) (by omega) hk1 (by omega)
    have N2 := fun W => number_calls l2 x2 u k2 W w2.dig w2.len (by omega) (by omega) hk2 (by omega)
    have N3 := fun W => number_calls l3 x3 u k3 W w3.dig w3.len (by omega) (by omega) hk3 (by omega)
    have N4 := fun W => number_calls l4 x4 u k4 W w4.dig w4.len (by omega) (by omega) hk4 (by omega)
    have q1 := w1.rep.number (u := U0) hU hk1.symm
    have q2 := w2.rep.number (u := U0) hU hk2.symm
    have q3 := w3.rep.number (u := U0) hU hk3.symm
    have q4 := w4.rep.number (u := U0) hU hk4.symm
    have g1 := num_len w1.dig w1.len (show 17 ≤ 767 by omega) (show k1 ≤ 4096 by omega)
    have g2 := num_len w2.dig w2.len (Nat.le_refl _) (show k2 ≤ 4096 by omega)
    have g3 := num_len w3.dig w3.len (Nat.le_refl _) (show k3 ≤ 4096 by omega)
    have g4 := num_len w4.dig w4.len (Nat.le_refl _) (show k4 ≤ 4096 by omega)
    generalize nv 0 l1 * 10 ^ k1 = P at *
    generalize nv 0 l2 * 10 ^ k2 = L at *
    generalize nv 0 l3 * 10 ^ k3 = M at *
    generalize nv 0 l4 * 10 ^ k4 = H at *
    obtain ⟨p1, p2, p3⟩ := near_plain hb0 (p10 U0) q1 q2 q3 q4
    have A1 := Lib.hid (fun (A n c : _) (W : World) (h : SI W .u32 A n c (digs V P)) => radd_s A A n c n c P P W h h g1 g1)
    have A2 := Lib.hid (fun (A n c A' n' c' : _) (W : World) (h : SI W .u32 A n c (digs V L)) (h' : SI W .u32 A' n' c' (digs V M)) => radd_s A A' n c n' c' L M W h h' g2 g3)
    have A3 := Lib.hid (fun (A n c A' n' c' : _) (W : World) (h : SI W .u32 A n c (digs V M)) (h' : SI W .u32 A' n' c' (digs V H)) => radd_s A A' n c n' c' M H W h h' g3 g4)
    have C1 := fun (A n c A' n' c' : _) (W : World) (h : SI W .u32 A n c (digs V (L + M))) (h' : SI W .u32 A' n' c' (digs V (P + P))) => rcmp_d A A' n c n' c' (L + M) (P + P) W h h'
    have C2 := fun (A n c A' n' c' : _) (W : World) (h : SI W .u32 A n c (digs V (P + P))) (h' : SI W .u32 A' n' c' (digs V (M + H))) => rcmp_d A A' n c n' c' (P + P) (M + H) W h h'
    have y1 : b % 2 = 1 → cmp (L + M) (P + P) < 0 ∧ cmp (P + P) (M + H) < 0 := fun h => ⟨cmp_lt (p1 h).1, cmp_lt (p1 h).2⟩
    have y2 : cmp (L + M) (P + P) ≤ 0 ∧ cmp (P + P) (M + H) ≤ 0 := ⟨cmp_le p2, cmp_le p3⟩
    generalize cmp (L + M) (P + P) = ca at *
    generalize cmp (P + P) (M + H) = cb at *
    have R1 := Lib.hid C1
    have R2 := Lib.hid C2
    have Y1 := Lib.hid y1
    have Y2 := Lib.hid y2
    have G1 := Lib.hid N1
    have G2 := Lib.hid N2
    have G3 := Lib.hid N3
    have G4 := Lib.hid N4
    have d1 : decide ((9218868437227405311 : Int) ≤ (b : Int)) = false := decide_eq_false (by omega)
    have d3 : decide (9218868437227405311 ≤ b) = false := decide_eq_false (by omega)
    have s1 : IntKind.u64.wrap ((b : Int) - 1) = (b : Int) - 1 := by rw [IntKind.wrap_u64]; omega
    have s2 : IntKind.u64.wrap ((b : Int) + 1) = (b : Int) + 1 := by rw [IntKind.wrap_u64]; omega
    have hb2 : 1 ≤ b := hb0
    clear a1 h1 hb1
    clear C1 C2 y1 y2 N1 N2 N3 N4 p1 p2 p3 q1 q2 q3 q4 g1 g2 g3 g4 hk1 hk2 hk3 hk4 hU hu e1 e2 e3 e4 w1 w2 w3 w4 h2 h4 hp u1 u2 u3 u4
    go_enter Tryz.func7, Tryz.ntmps7
    go_upto_region 7 with (first
      | (go_at_call 8; (with_reducible refine HA.out.mono ?_); rintro e v1 ⟨rfl, b1⟩)
      | (go_at_call 9; (with_reducible refine (H1.out v1 b1).mono ?_); rintro e v2 ⟨rfl, b2⟩; have b2' := on b1 b2)
      | (go_at_call 14; first
        | ((with_reducible refine (H2.out _ v2 ?_ b2').mono ?_); (omega); rintro e v3 ⟨rfl, b3⟩; have b3' := on b2' b3)
        | ((with_reducible refine (H3.out v3 b3').mono ?_); rintro e v4 ⟨rfl, b4⟩; have b4' := on b3' b4)
        | ((with_reducible refine (H4.out _ v4 ?_ b4').mono ?_); (omega); rintro e v5 ⟨rfl, b5⟩; have b5' := on b4' b5)))
    have D := D4.start (w0 := w) (w := v5) #[.int .i64 0, .bool false, .string ⟨l1.toArray⟩, .int .i64 x1] #[.int .i64 0, .bool false, .string ⟨l2.toArray⟩, .int .i64 x2] #[.int .i64 0, .bool false, .string ⟨l3.toArray⟩, .int .i64 x3] #[.int .i64 0, .bool false, .string ⟨l4.toArray⟩, .int .i64 x4] b5'
    obtain ⟨Y, hY⟩ : ∃ Y, Y = (((v5.alloc (.cells #[.int .i64 0, .bool false, .string ⟨l1.toArray⟩, .int .i64 x1] 25)).alloc (.cells #[.int .i64 0, .bool false, .string ⟨l2.toArray⟩, .int .i64 x2] 25)).alloc (.cells #[.int .i64 0, .bool false, .string ⟨l3.toArray⟩, .int .i64 x3] 25)).alloc (.cells #[.int .i64 0, .bool false, .string ⟨l4.toArray⟩, .int .i64 x4] 25) := ⟨_, rfl⟩
    rw [← hY] at D ⊢
    generalize v5.heap.size = g at *
    clear hY b5' b4' b3' b2' b1 b2 b3 b4 b5 H1 H2 H3 H4 HA m1
    have kp := keep4 D.b0
    have hmin := HMin.out
    clear HMin
    go_upto_region 12 with (first
      | (go_at_call 17; first
        | ((with_reducible refine (F1.out Y).mono ?_); rintro e v6 ⟨rfl, b6⟩; have D6 := D.below b6; have kq := keep4 D6.b1)
        | ((with_reducible refine (F2.out v6).mono ?_); rintro e v7 ⟨rfl, b7⟩; have D7 := D6.below b7; have kr := keep4 D7.b2)
        | ((with_reducible refine (F3.out v7).mono ?_); rintro e v8 ⟨rfl, b8⟩; have D8 := D7.below b8; have ks := keep4 D8.b3)
        | ((with_reducible refine (F4.out v8).mono ?_); rintro e v9 ⟨rfl, b9⟩; have D9 := D8.below b9; have kt := keep4 D9.b0; have ku := keep4 D9.b1; have kv := keep4 D9.b2; have kw := keep4 D9.b3))
      | (go_at_call 19; (with_reducible refine (G1.out v9).mono ?_); rintro e v10 ⟨A1', n1, c1, rfl, r1, b10⟩; have D10 := D9.below b10)
      | (go_at_call 20; (with_reducible refine (A1.out A1' n1 c1 v10 r1).mono ?_); rintro e v11 ⟨A2', n2, c2, rfl, r2, b11⟩; have D11 := D10.below b11))
    clear kp kq kr ks kt ku kv kw hmin
    have kp := keep12 D11.b1.drew D11.b2.drew D11.b3.drew
    go_region_held3 (fun w' => w'.cell? ⟨g + 1, 0, none⟩ = some (.int .i64 0) ∧ w'.cell? ⟨g + 1, 1, none⟩ = some (.bool false) ∧ w'.cell? ⟨g + 1, 2, none⟩ = some (.string ⟨l2.toArray⟩) ∧ w'.cell? ⟨g + 1, 3, none⟩ = some (.int .i64 x2) ∧ w'.cell? ⟨g + 1 + 1, 0, none⟩ = some (.int .i64 0) ∧ w'.cell? ⟨g + 1 + 1, 1, none⟩ = some (.bool false) ∧ w'.cell? ⟨g + 1 + 1, 2, none⟩ = some (.string ⟨l3.toArray⟩) ∧ w'.cell? ⟨g + 1 + 1, 3, none⟩ = some (.int .i64 x3) ∧ w'.cell? ⟨g + 1 + 1 + 1, 0, none⟩ = some (.int .i64 0) ∧ w'.cell? ⟨g + 1 + 1 + 1, 1, none⟩ = some (.bool false) ∧ w'.cell? ⟨g + 1 + 1 + 1, 2, none⟩ = some (.string ⟨l4.toArray⟩) ∧ w'.cell? ⟨g + 1 + 1 + 1, 3, none⟩ = some (.int .i64 x4))
      (first | (with_reducible exact kp) | (with_reducible exact kq) | (with_reducible exact kr) | (with_reducible exact ks))
      (first
        | (go_at_call 19; first
          | ((with_reducible refine (G2.out _).mono ?_); rintro e v12 ⟨A3', n3, c3, rfl, r3, b12⟩; have D12 := (D11.below (Below.refl _ _).drew).below b12; have kq := keep12 D12.b1 D12.b2 D12.b3; have r2a := (r2.below (Below.refl _ _).drew).below b12)
          | ((with_reducible refine (G3.out _).mono ?_); rintro e v13 ⟨A4', n4, c4, rfl, r4, b13⟩; have D13 := D12.below b13; have kr := keep12 D13.b1 D13.b2 D13.b3; have r2b := r2a.below b13; have r3b := r3.below b13)
          | ((with_reducible refine (G4.out _).mono ?_); rintro e v14 ⟨A5', n5, c5, rfl, r5, b14⟩; have D14 := D13.below b14; have ks := keep12 D14.b1 D14.b2 D14.b3; have r2c := r2b.below b14; have r3c := r3b.below b14; have r4c := r4.below b14)))
    all_goals
      clear kp kq kr ks
      obtain ⟨z2a, z2b⟩ := Y2.out
      have z1 := Y1.out
      clear Y1 Y2
      rcases Nat.mod_two_eq_zero_or_one b with hpar | hpar
      · have t1 : ((b : Int) % 2 == 1) = false := by simp; omega
        clear z1 hpar
        go_wp2_with (first
          | (go_at_call 20; first
            | ((with_reducible refine (A2.out A3' n3 c3 A4' n4 c4 v14 r3c r4c).mono ?_); rintro e v15 ⟨A6', n6, c6, rfl, r6, b15⟩; have D15 := D14.below b15; have r2d := r2c.below b15; have r4d := r4c.below b15; have r5d := r5.below b15)
            | ((with_reducible refine (A3.out A4' n4 c4 A5' n5 c5 v16 r4e r5e).mono ?_); rintro e v17 ⟨A7', n7, c7, rfl, r7, b17⟩; have D17 := D16.below b17; have r2f := r2e.below b17))
          | (go_at_call 21; first
            | ((with_reducible refine (R1.out A6' n6 c6 A2' n2 c2 v15 r6 r2d).mono ?_); rintro e v16 ⟨rfl, d16⟩; have D16 := D15.below d16.below; have r2e := r2d.below d16.below; have r4e := r4d.below d16.below; have r5e := r5d.below d16.below)
            | ((with_reducible refine (R2.out A2' n2 c2 A7' n7 c7 v17 r2f r7).mono ?_); rintro e v18 ⟨rfl, d18⟩; have D18 := D17.below d18.below)))
        go_ret
        exact ⟨rfl, D18.bl⟩
      · have t1 : ((b : Int) % 2 == 1) = true := by simp; omega
        obtain ⟨z3a, z3b⟩ := z1 hpar
        clear z1 hpar z2a z2b
        go_wp2_with (first
          | (go_at_call 20; first
            | ((with_reducible refine (A2.out A3' n3 c3 A4' n4 c4 v14 r3c r4c).mono ?_); rintro e v15 ⟨A6', n6, c6, rfl, r6, b15⟩; have D15 := D14.below b15; have r2d := r2c.below b15; have r4d := r4c.below b15; have r5d := r5.below b15)
            | ((with_reducible refine (A3.out A4' n4 c4 A5' n5 c5 v16 r4e r5e).mono ?_); rintro e v17 ⟨A7', n7, c7, rfl, r7, b17⟩; have D17 := D16.below b17; have r2f := r2e.below b17))
          | (go_at_call 21; first
            | ((with_reducible refine (R1.out A6' n6 c6 A2' n2 c2 v15 r6 r2d).mono ?_); rintro e v16 ⟨rfl, d16⟩; have D16 := D15.below d16.below; have r2e := r2d.below d16.below; have r4e := r4d.below d16.below; have r5e := r5d.below d16.below)
            | ((with_reducible refine (R2.out A2' n2 c2 A7' n7 c7 v17 r2f r7).mono ?_); rintro e v18 ⟨rfl, d18⟩; have D18 := D17.below d18.below)))
        go_ret
        exact ⟨rfl, D18.bl⟩
end Go.Proofs.YtphpcpomhcodpaaGreatDoor.Sh
