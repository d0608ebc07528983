/- Texts of one layer, joined: Cc, Cd, Ce. -/
import Derived.Test.YtkanddmihmdagaaGreatDoorGN
import Derived.Lib.AtoiErrMem
import Derived.WalkMore
set_option linter.unusedVariables false
set_option linter.unusedSimpArgs false
set_option linter.unusedSectionVars false
/- Layer 5: dec.Scale; dec.Print. -/
set_option linter.unusedSimpArgs false
set_option linter.unusedVariables false
namespace Go.Proofs.YtkanddmihmdagaaGreatDoor.Dc
open Go.RowKit Go.Proofs.YtkanddmihmdagaaGreatDoor.Dig Go.Proofs.YtkanddmihmdagaaGreatDoor.W Go.Proofs.YtkanddmihmdagaaGreatDoor.Nat Go.Proofs.YtkanddmihmdagaaGreatDoor.Wh Go.Proofs.YtkanddmihmdagaaGreatDoor.Td Go.Proofs.YtkanddmihmdagaaGreatDoor.Bu Go.Proofs.YtkanddmihmdagaaGreatDoor.Tx Go.Proofs.YtkanddmihmdagaaGreatDoor.Sp Go.Proofs.YtkanddmihmdagaaGreatDoor.Rd
set_option maxHeartbeats 16000000 in
set_option maxRecDepth 100000 in
theorem scale_bad (c : Int) (g : Bool) (S : ByteArray) (x k : Int) (w : World) 
    (M1 : ∀ w1, Calls Tryz.prog 14 #[.agg #[.int .i64 c, .bool g, .string S, .int .i64 x]] w1 fun e w' => e = .returned (.bool false) ∧ Below w1.heap.size w1 w') :
    Calls Tryz.prog 26 #[.agg #[.int .i64 c, .bool g, .string S, .int .i64 x], .int .i64 k] w fun e w' => e = .returned (.tuple #[.agg #[.int .i64 0, .bool false, .string ⟨#[]⟩, .int .i64 0], .int .i64 52]) ∧ Below w.heap.size w w' := by
  have HM := Lib.hid M1
  have HT := Lib.hid (TV.start w (.int .i64 c) (.bool g) (.string S) (.int .i64 x))
  clear M1
  go_enter Tryz.func26, Tryz.ntmps26
  go_wp2_with (go_at_call 14; (with_reducible refine (HM.out _).mono ?_); rintro e w1 ⟨rfl, b1⟩; have x1 := HT.out.below b1; have k1 := x1.keep; have q1 := x1.res)
  obtain ⟨z1, z2⟩ := x1.ret (.int .i64 0) (.bool false) (.string ⟨#[]⟩) (.int .i64 0)
  exact bodyPost_ret (res_bk_t rfl _ z1 rfl Tryz.underlying23 rfl (by kernel_rfl)) rfl ⟨rfl, z2⟩
set_option maxHeartbeats 16000000 in
set_option maxRecDepth 100000 in
theorem scale_zero (c : Int) (g : Bool) (S : ByteArray) (x k : Int) (w : World) (e1 : S.toList.isEmpty = true) (e2 : (S.toList == []) = true) 
    (M1 : ∀ w1, Calls Tryz.prog 14 #[.agg #[.int .i64 c, .bool g, .string S, .int .i64 x]] w1 fun e w' => e = .returned (.bool true) ∧ Below w1.heap.size w1 w') :
    Calls Tryz.prog 26 #[.agg #[.int .i64 c, .bool g, .string S, .int .i64 x], .int .i64 k] w fun e w' => e = .returned (.tuple #[.agg #[.int .i64 c, .bool g, .string S, .int .i64 x], .int .i64 0]) ∧ Below w.heap.size w w' := by
  have HM := Lib.hid M1
  have HT := Lib.hid (TV.start w (.int .i64 c) (.bool g) (.string S) (.int .i64 x))
  clear M1
  go_enter Tryz.func26, Tryz.ntmps26
  go_wp2_with (go_at_call 14; (with_reducible refine (HM.out _).mono ?_); rintro e w1 ⟨rfl, b1⟩; have x1 := HT.out.below b1; have k1 := x1.keep; have q1 := x1.res)
  obtain ⟨z1, z2⟩ := x1.ret (.int .i64 c) (.bool g) (.string S) (.int .i64 x)
  exact bodyPost_ret (res_bk_t rfl _ z1 rfl Tryz.underlying23 rfl (by kernel_rfl)) rfl ⟨rfl, z2⟩
set_option maxHeartbeats 16000000 in
set_option maxRecDepth 100000 in
theorem scale_low (c : Int) (g : Bool) (S : ByteArray) (x k : Int) (w : World) (e1 : S.toList.isEmpty = false) (e2 : (S.toList == []) = false) (d1 : decide (k < -4000) = true)
    (M1 : ∀ w1, Calls Tryz.prog 14 #[.agg #[.int .i64 c, .bool g, .string S, .int .i64 x]] w1 fun e w' => e = .returned (.bool true) ∧ Below w1.heap.size w1 w') :
    Calls Tryz.prog 26 #[.agg #[.int .i64 c, .bool g, .string S, .int .i64 x], .int .i64 k] w fun e w' => e = .returned (.tuple #[.agg #[.int .i64 0, .bool false, .string ⟨#[]⟩, .int .i64 0], .int .i64 51]) ∧ Below w.heap.size w w' := by
  have HM := Lib.hid M1
  have HT := Lib.hid (TV.start w (.int .i64 c) (.bool g) (.string S) (.int .i64 x))
  clear M1
  go_enter Tryz.func26, Tryz.ntmps26
  go_wp2_with (go_at_call 14; (with_reducible refine (HM.out _).mono ?_); rintro e w1 ⟨rfl, b1⟩; have x1 := HT.out.below b1; have k1 := x1.keep; have q1 := x1.res)
  obtain ⟨z1, z2⟩ := x1.ret (.int .i64 0) (.bool false) (.string ⟨#[]⟩) (.int .i64 0)
  exact bodyPost_ret (res_bk_t rfl _ z1 rfl Tryz.underlying23 rfl (by kernel_rfl)) rfl ⟨rfl, z2⟩
set_option maxHeartbeats 16000000 in
set_option maxRecDepth 100000 in
theorem scale_high (c : Int) (g : Bool) (S : ByteArray) (x k : Int) (w : World) (e1 : S.toList.isEmpty = false) (e2 : (S.toList == []) = false) (d1 : decide (k < -4000) = false) (d2 : decide (4000 < k) = true)
    (M1 : ∀ w1, Calls Tryz.prog 14 #[.agg #[.int .i64 c, .bool g, .string S, .int .i64 x]] w1 fun e w' => e = .returned (.bool true) ∧ Below w1.heap.size w1 w') :
    Calls Tryz.prog 26 #[.agg #[.int .i64 c, .bool g, .string S, .int .i64 x], .int .i64 k] w fun e w' => e = .returned (.tuple #[.agg #[.int .i64 0, .bool false, .string ⟨#[]⟩, .int .i64 0], .int .i64 51]) ∧ Below w.heap.size w w' := by
  have HM := Lib.hid M1
  have HT := Lib.hid (TV.start w (.int .i64 c) (.bool g) (.string S) (.int .i64 x))
  clear M1
  go_enter Tryz.func26, Tryz.ntmps26
  go_wp2_with (go_at_call 14; (with_reducible refine (HM.out _).mono ?_); rintro e w1 ⟨rfl, b1⟩; have x1 := HT.out.below b1; have k1 := x1.keep; have q1 := x1.res)
  obtain ⟨z1, z2⟩ := x1.ret (.int .i64 0) (.bool false) (.string ⟨#[]⟩) (.int .i64 0)
  exact bodyPost_ret (res_bk_t rfl _ z1 rfl Tryz.underlying23 rfl (by kernel_rfl)) rfl ⟨rfl, z2⟩
set_option maxHeartbeats 16000000 in
set_option maxRecDepth 100000 in
theorem scale_do (g : Bool) (l : List UInt8) (x k : Int) (w : World) (hF : Formed l) (hf : fits l x) (hk : -4000 ≤ k) (hk2 : k ≤ 4000) :
    Calls Tryz.prog 26 #[.agg (dec 0 g l x), .int .i64 k] w (Ans w g (told g (nv 0 l) (x + k))) := by
  have M1 := fun w1 => dmay_calls 0 g l x w1 (by have := hf.1; omega)
  rw [may_form hF, decide_eq_true hf] at M1
  obtain ⟨f1, f2, f3⟩ := hf
  have hlen := hF.len
  have MA := fun w1 => dmade_calls g l (x + k) w1 hF.dig (by omega) (by omega) (by omega)
  have d1 : decide (k < -4000) = false := decide_eq_false (by omega)
  have d2 : decide (4000 < k) = false := decide_eq_false (by omega)
  have hwr : IntKind.i64.wrap (x + k) = x + k := by rw [IntKind.wrap_i64]; omega
  unfold Ans at MA ⊢
  obtain ⟨G, L, X, e4⟩ := oc_four g (told g (nv 0 l) (x + k))
  rw [e4] at MA ⊢
  generalize oe (told g (nv 0 l) (x + k)) = er at *
  unfold dec str at M1 ⊢
  unfold str at MA
  rw [← size_of l] at hlen f1 f2 f3
  generalize (⟨l.toArray⟩ : ByteArray) = S at *
  obtain ⟨em1, em2⟩ := emp hlen
  have HM := Lib.hid M1
  have HA := Lib.hid MA
  have HT := Lib.hid (TV.start w (.int .i64 0) (.bool g) (.string S) (.int .i64 x))
  clear M1 MA e4 hF
  go_enter Tryz.func26, Tryz.ntmps26
  go_wp2_with (first
    | (go_at_call 14; (with_reducible refine (HM.out _).mono ?_); rintro e w1 ⟨rfl, b1⟩; have x1 := HT.out.below b1; have k1 := x1.keep)
    | (go_at_call 35; (with_reducible refine (HA.out w1).mono ?_); rintro e w2 ⟨rfl, b2⟩; have x2 := x1.below b2; have k2 := x2.keep; have q2 := x2.res))
  obtain ⟨z1, z2⟩ := x2.ret (.int .i64 0) (.bool G) (.string L) (.int .i64 X)
  exact bodyPost_ret (res_bk_t rfl _ z1 rfl Tryz.underlying23 rfl (by kernel_rfl)) rfl ⟨rfl, z2⟩
/-- what dec.Scale answers -/
def scaleV (c : Int) (g : Bool) (l : List UInt8) (x k : Int) : Array Value × Int :=
  if mayB c g l x = false then (dec 0 false [] 0, 52) else if l = [] then (dec c g l x, 0) else if k < -4000 ∨ 4000 < k then (dec 0 false [] 0, 51)
  else (oc g (told g (nv 0 l) (x + k)), oe (told g (nv 0 l) (x + k)))
theorem scale_calls (c : Int) (g : Bool) (l : List UInt8) (x k : Int) (w : World) (hl : l.length ≤ 9223372036854775807) :
    Calls Tryz.prog 26 #[.agg (dec c g l x), .int .i64 k] w (Res w (scaleV c g l x k)) := by
  have M1 := fun w1 => dmay_calls c g l x w1 hl
  obtain ⟨e1, e2⟩ := emp_iff l
  unfold scaleV Res
  by_cases m1 : mayB c g l x = false
  · rw [if_pos m1]
    rw [m1] at M1
    exact scale_bad c g ⟨l.toArray⟩ x k w M1
  have m1 : mayB c g l x = true := by simpa using m1
  rw [m1] at M1
  rw [if_neg (by rw [m1]; decide)]
  by_cases hl0 : l = []
  · rw [if_pos hl0]
    rw [decide_eq_true hl0] at e1 e2
    exact scale_zero c g ⟨l.toArray⟩ x k w e1 e2 M1
  · rw [if_neg hl0]
    rw [decide_eq_false hl0] at e1 e2
    by_cases k1 : k < -4000
    · rw [if_pos (.inl k1)]
      exact scale_low c g ⟨l.toArray⟩ x k w e1 e2 (decide_eq_true k1) M1
    · by_cases k2 : 4000 < k
      · rw [if_pos (.inr k2)]
        exact scale_high c g ⟨l.toArray⟩ x k w e1 e2 (decide_eq_false k1) (decide_eq_true k2) M1
      · rw [if_neg (by omega)]
        obtain ⟨rfl, hF, hf⟩ := may_str m1 hl0
        exact scale_do g l x k w hF hf (by omega) (by omega)
set_option maxHeartbeats 16000000 in
set_option maxRecDepth 100000 in
theorem print_bad (c : Int) (g : Bool) (S : ByteArray) (x : Int) (w : World)
    (M1 : ∀ w1, Calls Tryz.prog 14 #[.agg #[.int .i64 c, .bool g, .string S, .int .i64 x]] w1 fun e w' => e = .returned (.bool false) ∧ Below w1.heap.size w1 w') :
    Calls Tryz.prog 20 #[.agg #[.int .i64 c, .bool g, .string S, .int .i64 x]] w fun e w' => e = .returned (.tuple #[.string ⟨#[]⟩, .int .i64 52]) ∧ Below w.heap.size w w' := by
  have HM := Lib.hid M1
  have HB := Lib.hid (Bk.start w 23 #[.int .i64 c, .bool g, .string S, .int .i64 x])
  have HL := Lib.hid (alloc_below w (.cells #[.int .i64 c, .bool g, .string S, .int .i64 x] 23))
  clear M1
  go_enter Tryz.func20, Tryz.ntmps20
  go_wp2_with (go_at_call 14; (with_reducible refine (HM.out _).mono ?_); rintro e w1 ⟨rfl, b1⟩; have k1 := four (HB.out.below b1))
  go_ret2
  exact ⟨rfl, on HL.out b1⟩
set_option maxHeartbeats 16000000 in
set_option maxRecDepth 100000 in
theorem print_nan (g : Bool) (S : ByteArray) (x : Int) (w : World)
    (M1 : ∀ w1, Calls Tryz.prog 14 #[.agg #[.int .i64 2, .bool g, .string S, .int .i64 x]] w1 fun e w' => e = .returned (.bool true) ∧ Below w1.heap.size w1 w') :
    Calls Tryz.prog 20 #[.agg #[.int .i64 2, .bool g, .string S, .int .i64 x]] w fun e w' => e = .returned (.tuple #[.string ⟨#[110, 97, 110]⟩, .int .i64 0]) ∧ Below w.heap.size w w' := by
  have HM := Lib.hid M1
  have HB := Lib.hid (Bk.start w 23 #[.int .i64 2, .bool g, .string S, .int .i64 x])
  have HL := Lib.hid (alloc_below w (.cells #[.int .i64 2, .bool g, .string S, .int .i64 x] 23))
  clear M1
  go_enter Tryz.func20, Tryz.ntmps20
  go_wp2_with (go_at_call 14; (with_reducible refine (HM.out _).mono ?_); rintro e w1 ⟨rfl, b1⟩; have k1 := four (HB.out.below b1))
  go_ret2
  exact ⟨rfl, on HL.out b1⟩
set_option maxHeartbeats 16000000 in
set_option maxRecDepth 100000 in
theorem print_inff (S : ByteArray) (x : Int) (w : World)
    (M1 : ∀ w1, Calls Tryz.prog 14 #[.agg #[.int .i64 1, .bool false, .string S, .int .i64 x]] w1 fun e w' => e = .returned (.bool true) ∧ Below w1.heap.size w1 w') :
    Calls Tryz.prog 20 #[.agg #[.int .i64 1, .bool false, .string S, .int .i64 x]] w fun e w' => e = .returned (.tuple #[.string ⟨#[105, 110, 102]⟩, .int .i64 0]) ∧ Below w.heap.size w w' := by
  have HM := Lib.hid M1
  have HB := Lib.hid (Bk.start w 23 #[.int .i64 1, .bool false, .string S, .int .i64 x])
  have HL := Lib.hid (alloc_below w (.cells #[.int .i64 1, .bool false, .string S, .int .i64 x] 23))
  clear M1
  go_enter Tryz.func20, Tryz.ntmps20
  go_wp2_with (go_at_call 14; (with_reducible refine (HM.out _).mono ?_); rintro e w1 ⟨rfl, b1⟩; have k1 := four (HB.out.below b1))
  go_ret2
  exact ⟨rfl, on HL.out b1⟩
set_option maxHeartbeats 16000000 in
set_option maxRecDepth 100000 in
theorem print_zerof (S : ByteArray) (x : Int) (w : World) (e1 : S.toList.isEmpty = true) (e2 : (S.toList == []) = true)
    (M1 : ∀ w1, Calls Tryz.prog 14 #[.agg #[.int .i64 0, .bool false, .string S, .int .i64 x]] w1 fun e w' => e = .returned (.bool true) ∧ Below w1.heap.size w1 w') :
    Calls Tryz.prog 20 #[.agg #[.int .i64 0, .bool false, .string S, .int .i64 x]] w fun e w' => e = .returned (.tuple #[.string ⟨#[48]⟩, .int .i64 0]) ∧ Below w.heap.size w w' := by
  have HM := Lib.hid M1
  have HB := Lib.hid (Bk.start w 23 #[.int .i64 0, .bool false, .string S, .int .i64 x])
  have HL := Lib.hid (alloc_below w (.cells #[.int .i64 0, .bool false, .string S, .int .i64 x] 23))
  clear M1
  go_enter Tryz.func20, Tryz.ntmps20
  go_wp2_with (go_at_call 14; (with_reducible refine (HM.out _).mono ?_); rintro e w1 ⟨rfl, b1⟩; have k1 := four (HB.out.below b1))
  go_ret2
  exact ⟨rfl, on HL.out b1⟩
set_option maxHeartbeats 16000000 in
set_option maxRecDepth 100000 in
theorem print_inft (S : ByteArray) (x : Int) (w : World)
    (M1 : ∀ w1, Calls Tryz.prog 14 #[.agg #[.int .i64 1, .bool true, .string S, .int .i64 x]] w1 fun e w' => e = .returned (.bool true) ∧ Below w1.heap.size w1 w') :
    Calls Tryz.prog 20 #[.agg #[.int .i64 1, .bool true, .string S, .int .i64 x]] w fun e w' => e = .returned (.tuple #[.string ⟨#[45, 105, 110, 102]⟩, .int .i64 0]) ∧ Below w.heap.size w w' := by
  have HM := Lib.hid M1
  have HB := Lib.hid (Bk.start w 23 #[.int .i64 1, .bool true, .string S, .int .i64 x])
  have HL := Lib.hid (alloc_below w (.cells #[.int .i64 1, .bool true, .string S, .int .i64 x] 23))
  clear M1
  go_enter Tryz.func20, Tryz.ntmps20
  go_wp2_with (go_at_call 14; (with_reducible refine (HM.out _).mono ?_); rintro e w1 ⟨rfl, b1⟩; have k1 := four (HB.out.below b1))
  go_ret2
  exact ⟨rfl, on HL.out b1⟩
set_option maxHeartbeats 16000000 in
set_option maxRecDepth 100000 in
theorem print_zerot (S : ByteArray) (x : Int) (w : World) (e1 : S.toList.isEmpty = true) (e2 : (S.toList == []) = true)
    (M1 : ∀ w1, Calls Tryz.prog 14 #[.agg #[.int .i64 0, .bool true, .string S, .int .i64 x]] w1 fun e w' => e = .returned (.bool true) ∧ Below w1.heap.size w1 w') :
    Calls Tryz.prog 20 #[.agg #[.int .i64 0, .bool true, .string S, .int .i64 x]] w fun e w' => e = .returned (.tuple #[.string ⟨#[45, 48]⟩, .int .i64 0]) ∧ Below w.heap.size w w' := by
  have HM := Lib.hid M1
  have HB := Lib.hid (Bk.start w 23 #[.int .i64 0, .bool true, .string S, .int .i64 x])
  have HL := Lib.hid (alloc_below w (.cells #[.int .i64 0, .bool true, .string S, .int .i64 x] 23))
  clear M1
  go_enter Tryz.func20, Tryz.ntmps20
  go_wp2_with (go_at_call 14; (with_reducible refine (HM.out _).mono ?_); rintro e w1 ⟨rfl, b1⟩; have k1 := four (HB.out.below b1))
  go_ret2
  exact ⟨rfl, on HL.out b1⟩
theorem itoa_calls (n : Int) (h0 : -9223372036854775808 ≤ n) (h1 : n ≤ 9223372036854775807) (w : World) (hp : Pow w) :
    Calls Tryz.prog 38 #[.int .i64 n] w fun e w' => e = .returned (.string ⟨(Lib.itoa n).toArray⟩) ∧ Below w.heap.size w w' :=
  (Tryz.strconv_Itoa n h0 h1 w hp).mono fun e w' ⟨a, k, os, b⟩ => ⟨a, by rw [b]; exact Lib.below_grow _ w (Nat.le_refl _) k os⟩
theorem cat_run (a b c : ByteArray) (h : a.size + b.size ≤ 9223372036854775807) (e : a ++ b = c) (w : World) : (Op.stringOp .add a b).run Tryz.prog w = .ok (.string c) w := by
  rw [run_string_add_sum w a b h, e]
theorem itoa_size (x : Int) (h : -100000 ≤ x) (h2 : x ≤ 100000) : (⟨(Lib.itoa x).toArray⟩ : ByteArray).size ≤ 10 := by
  rw [size_of]
  have q : ∀ m : Nat, m ≤ 100000 → (Lib.decDigits m).length ≤ 6 := fun m hm => dec_len_le (show m < 10 ^ 6 by omega) (by omega)
  unfold Lib.itoa
  split
  · have := q x.natAbs (by omega)
    simp
    omega
  · have := q x.toNat (by omega)
    omega
set_option maxHeartbeats 16000000 in
set_option maxRecDepth 100000 in
theorem print_numf (S : ByteArray) (x : Int) (w : World) (hp : Pow w) (hx : -100000 ≤ x) (hx2 : x ≤ 100000) (hS : S.size ≤ 1000) (e1 : S.toList.isEmpty = false) (e2 : (S.toList == []) = false)
    (M1 : ∀ w1, Calls Tryz.prog 14 #[.agg #[.int .i64 0, .bool false, .string S, .int .i64 x]] w1 fun e w' => e = .returned (.bool true) ∧ Below w1.heap.size w1 w') :
    Calls Tryz.prog 20 #[.agg #[.int .i64 0, .bool false, .string S, .int .i64 x]] w fun e w' => e = .returned (.tuple #[.string (S ++ ⟨#[101]⟩ ++ ⟨(Lib.itoa x).toArray⟩), .int .i64 0]) ∧ Below w.heap.size w w' := by
  have HM := Lib.hid M1
  have HI := fun w1 hp1 => itoa_calls x (by omega) (by omega) w1 hp1
  have hJ := itoa_size x hx hx2
  generalize (⟨(Lib.itoa x).toArray⟩ : ByteArray) = J at *
  have HI := Lib.hid HI
  have a1 := cat_run S ⟨#[101]⟩ _ (by show S.size + 1 ≤ _; omega) rfl
  have a2 := cat_run (S ++ ⟨#[101]⟩) J _ (by rw [ByteArray.size_append']; show S.size + 1 + J.size ≤ _; omega) rfl
  have s1 : ¬ (9223372036854775806 < S.size) := by omega
  have s2 : ¬ (9223372036854775806 < S.size + J.size) := by omega
  have s2' : ¬ (9223372036854775807 < S.size + 1 + J.size) := by omega
  have s3 : ¬ (9223372036854775807 < 1 + (S.size + 1 + J.size)) := by omega
  have s4 : S.size ≤ 9223372036854775806 := by omega
  have s5 : S.size + 1 + J.size ≤ 9223372036854775807 := by omega
  have s6 : 1 + (S.size + 1 + J.size) ≤ 9223372036854775807 := by omega
  have HB := Lib.hid (Bk.start w 23 #[.int .i64 0, .bool false, .string S, .int .i64 x])
  have HL := Lib.hid (alloc_below w (.cells #[.int .i64 0, .bool false, .string S, .int .i64 x] 23))
  have HW := Lib.hid (hp.below HL.out)
  clear M1 hp
  go_enter Tryz.func20, Tryz.ntmps20
  go_wp2_with (go_at_call 14; (with_reducible refine (HM.out _).mono ?_); rintro e w1 ⟨rfl, b1⟩; have x1 := HB.out.below b1; have k1 := four x1; have p1 := HW.out.below b1)
  have z1 := (four (x1.below (Below.refl _ _).drew)).2
  have pz := p1.below (Below.refl _ _).drew
  go_region_held3 (fun w' => w'.cell? ⟨w.heap.size, 1, none⟩ = some (.bool false) ∧ w'.cell? ⟨w.heap.size, 2, none⟩ = some (.string S) ∧ w'.cell? ⟨w.heap.size, 3, none⟩ = some (.int .i64 x))
    (first
      | (with_reducible exact z1)
      | (with_reducible exact z2))
    (first
      | (go_at_call 38; (with_reducible refine (HI.out _ pz).mono ?_); rintro e w2 ⟨rfl, b2⟩; have x2 := (x1.below (Below.refl _ _).drew).below b2; have z2 := (four x2).2))
  all_goals
    go_wp2
    go_ret2
    exact ⟨rfl, on (on HL.out b1) ((Below.refl _ _).drew.trans (b2.mono (by simp)))⟩
set_option maxHeartbeats 16000000 in
set_option maxRecDepth 100000 in
theorem print_numt (S : ByteArray) (x : Int) (w : World) (hp : Pow w) (hx : -100000 ≤ x) (hx2 : x ≤ 100000) (hS : S.size ≤ 1000) (e1 : S.toList.isEmpty = false) (e2 : (S.toList == []) = false)
    (M1 : ∀ w1, Calls Tryz.prog 14 #[.agg #[.int .i64 0, .bool true, .string S, .int .i64 x]] w1 fun e w' => e = .returned (.bool true) ∧ Below w1.heap.size w1 w') :
    Calls Tryz.prog 20 #[.agg #[.int .i64 0, .bool true, .string S, .int .i64 x]] w fun e w' => e = .returned (.tuple #[.string (⟨#[45]⟩ ++ (S ++ ⟨#[101]⟩ ++ ⟨(Lib.itoa x).toArray⟩)), .int .i64 0]) ∧ Below w.heap.size w w' := by
  have HM := Lib.hid M1
  have HI := fun w1 hp1 => itoa_calls x (by omega) (by omega) w1 hp1
  have hJ := itoa_size x hx hx2
  generalize (⟨(Lib.itoa x).toArray⟩ : ByteArray) = J at *
  have HI := Lib.hid HI
  have a1 := cat_run S ⟨#[101]⟩ _ (by show S.size + 1 ≤ _; omega) rfl
  have a2 := cat_run (S ++ ⟨#[101]⟩) J _ (by rw [ByteArray.size_append']; show S.size + 1 + J.size ≤ _; omega) rfl
  have s1 : ¬ (9223372036854775806 < S.size) := by omega
  have s2 : ¬ (9223372036854775806 < S.size + J.size) := by omega
  have s2' : ¬ (9223372036854775807 < S.size + 1 + J.size) := by omega
  have s3 : ¬ (9223372036854775807 < 1 + (S.size + 1 + J.size)) := by omega
  have s4 : S.size ≤ 9223372036854775806 := by omega
  have s5 : S.size + 1 + J.size ≤ 9223372036854775807 := by omega
  have s6 : 1 + (S.size + 1 + J.size) ≤ 9223372036854775807 := by omega
  have HB := Lib.hid (Bk.start w 23 #[.int .i64 0, .bool true, .string S, .int .i64 x])
  have HL := Lib.hid (alloc_below w (.cells #[.int .i64 0, .bool true, .string S, .int .i64 x] 23))
  have HW := Lib.hid (hp.below HL.out)
  clear M1 hp
  go_enter Tryz.func20, Tryz.ntmps20
  go_wp2_with (go_at_call 14; (with_reducible refine (HM.out _).mono ?_); rintro e w1 ⟨rfl, b1⟩; have x1 := HB.out.below b1; have k1 := four x1; have p1 := HW.out.below b1)
  have z1 := (four (x1.below (Below.refl _ _).drew)).2
  have pz := p1.below (Below.refl _ _).drew
  go_region_held3 (fun w' => w'.cell? ⟨w.heap.size, 1, none⟩ = some (.bool true) ∧ w'.cell? ⟨w.heap.size, 2, none⟩ = some (.string S) ∧ w'.cell? ⟨w.heap.size, 3, none⟩ = some (.int .i64 x))
    (first
      | (with_reducible exact z1)
      | (with_reducible exact z2))
    (first
      | (go_at_call 38; (with_reducible refine (HI.out _ pz).mono ?_); rintro e w2 ⟨rfl, b2⟩; have x2 := (x1.below (Below.refl _ _).drew).below b2; have z2 := (four x2).2))
  all_goals
    go_wp2
    go_ret2
    exact ⟨rfl, on (on HL.out b1) ((Below.refl _ _).drew.trans (b2.mono (by simp)))⟩
/-- what dec.Print answers -/
def numT (g : Bool) (l : List UInt8) (x : Int) : List UInt8 := (if g then [45] else []) ++ (l ++ 101 :: Lib.itoa x)
def printV (c : Int) (g : Bool) (l : List UInt8) (x : Int) : List UInt8 × Int :=
  if mayB c g l x = false then ([], 52) else if c = 2 then ([110, 97, 110], 0)
  else if c = 1 then ((if g then [45] else []) ++ [105, 110, 102], 0) else if l = [] then ((if g then [45] else []) ++ [48], 0) else (numT g l x, 0)
theorem print_calls (c : Int) (g : Bool) (l : List UInt8) (x : Int) (w : World) (hp : Pow w) (hl : l.length ≤ 9223372036854775807) :
    Calls Tryz.prog 20 #[.agg (dec c g l x)] w fun e w' => e = .returned (.tuple #[str (printV c g l x).1, .int .i64 (printV c g l x).2]) ∧ Below w.heap.size w w' := by
  have M1 := fun w1 => dmay_calls c g l x w1 hl
  obtain ⟨e1, e2⟩ := emp_iff l
  unfold printV
  by_cases m1 : mayB c g l x = false
  · rw [if_pos m1]
    rw [m1] at M1
    exact print_bad c g ⟨l.toArray⟩ x w M1
  have m1 : mayB c g l x = true := by simpa using m1
  rw [m1] at M1
  rw [if_neg (by rw [m1]; decide)]
  by_cases h2 : c = 2
  · subst h2
    rw [if_pos rfl]
    exact print_nan g ⟨l.toArray⟩ x w M1
  rw [if_neg h2]
  by_cases h1 : c = 1
  · subst h1
    rw [if_pos rfl]
    cases g
    · exact print_inff ⟨l.toArray⟩ x w M1
    · exact print_inft ⟨l.toArray⟩ x w M1
  rw [if_neg h1]
  obtain rfl : c = 0 := by have := (may_cls m1).1; omega
  by_cases hl0 : l = []
  · rw [if_pos hl0]
    rw [decide_eq_true hl0] at e1 e2
    cases g
    · exact print_zerof ⟨l.toArray⟩ x w e1 e2 M1
    · exact print_zerot ⟨l.toArray⟩ x w e1 e2 M1
  · rw [if_neg hl0]
    rw [decide_eq_false hl0] at e1 e2
    obtain ⟨_, hF, hf⟩ := may_str m1 hl0
    obtain ⟨f1, f2, f3⟩ := hf
    unfold numT str
    have ht : (⟨(l ++ 101 :: Lib.itoa x).toArray⟩ : ByteArray) = ⟨l.toArray⟩ ++ ⟨#[101]⟩ ++ ⟨(Lib.itoa x).toArray⟩ := by
      rw [show (⟨#[101]⟩ : ByteArray) = ⟨[(101 : UInt8)].toArray⟩ from rfl, ByteArray.mk_append_mk, ByteArray.mk_append_mk]
      simp
    cases g
    · have := print_numf ⟨l.toArray⟩ x w hp (by omega) (by omega) (by rw [size_of]; exact f1) e1 e2 M1
      rw [← ht] at this
      exact this
    · have := print_numt ⟨l.toArray⟩ x w hp (by omega) (by omega) (by rw [size_of]; exact f1) e1 e2 M1
      rw [← ht, show (⟨#[45]⟩ : ByteArray) = ⟨[(45 : UInt8)].toArray⟩ from rfl, ByteArray.mk_append_mk] at this
      exact this
end Go.Proofs.YtkanddmihmdagaaGreatDoor.Dc

/- Layer 5: dec.exponent. -/
set_option linter.unusedSimpArgs false
set_option linter.unusedVariables false
namespace Go.Proofs.YtkanddmihmdagaaGreatDoor.Dc
open Go.RowKit Go.Proofs.YtkanddmihmdagaaGreatDoor.Dig Go.Proofs.YtkanddmihmdagaaGreatDoor.W Go.Proofs.YtkanddmihmdagaaGreatDoor.Nat Go.Proofs.YtkanddmihmdagaaGreatDoor.Wh Go.Proofs.YtkanddmihmdagaaGreatDoor.Td Go.Proofs.YtkanddmihmdagaaGreatDoor.Bu Go.Proofs.YtkanddmihmdagaaGreatDoor.Tx Go.Proofs.YtkanddmihmdagaaGreatDoor.Sp Go.Proofs.YtkanddmihmdagaaGreatDoor.Rd
theorem left2_calls (s : ByteArray) (w : World) :
    Calls Tryz.prog 62 #[.string s, .string ⟨#[43, 45]⟩] w fun e w' => e = .returned (.string ⟨(Lib.trimLeftS s.data.toList [43, 45]).toArray⟩) ∧ Below w.heap.size w w' :=
  Any.strings_TrimLeft_laid Tryz.lays161 (by kernel_rfl) s ⟨#[43, 45]⟩ w (by decide) (ascii_of_all (by decide))
theorem atoi_calls (s : ByteArray) (n : Int) (hl : s.size ≤ 18) (h : Lib.atoi s.data.toList = some n) (w : World) :
    Calls Tryz.prog 63 #[.string s] w fun e w' => e = .returned (.tuple #[.int .i64 n, .nilIface]) ∧ Below w.heap.size w w' :=
  (Tryz.strconv_Atoi s n hl h w).mono fun e w' ⟨a, t, b⟩ => ⟨a, by rw [b]; exact Lib.bytesWorld_below _ _ _⟩
set_option maxHeartbeats 8000000 in
set_option maxRecDepth 100000 in
theorem exp_head (S D T : ByteArray) (n : Int) (w : World) (h0 : 0 < S.size) (h1 : (1 : Int) ≤ (S.size : Int)) (hs : S.size ≤ 9223372036854775807) (hDS : D.size + 1 ≤ S.size) (e1 : S.toList.isEmpty = false) (e2 : (S.toList == []) = false)
    (y : Int) (hb : (S[0].toNat : Int) = y) (z1 : ¬ y = 101) (z2 : ¬ y = 69) (HL : Hid (∀ w1, Calls Tryz.prog 62 #[.string (S.extract 1 S.size), .string ⟨#[43, 45]⟩] w1 fun e w' => e = .returned (.string D) ∧ Below w1.heap.size w1 w')) :
    Calls Tryz.prog 34 #[.string S] w fun e w' => e = .returned (.tuple #[.int .i64 0, .bool false]) ∧ Below w.heap.size w w' := by
  have y1 := eqB z1
  have y2 := eqB z2
  have y3 : (y != 101) = true := by simp [bne, y1]
  have y4 : (y != 69) = true := by simp [bne, y2]
  have w1 : IntKind.i64.wrap ((S.size : Int) - 1) = (S.size : Int) - 1 := by rw [IntKind.wrap_i64]; omega
  have w2 : IntKind.i64.wrap ((S.size : Int) - 1 - (D.size : Int)) = (S.size : Int) - 1 - (D.size : Int) := by rw [IntKind.wrap_i64]; omega
  go_enter Tryz.func34, Tryz.ntmps34
  go_wp2_with (first
    | (go_at_call 62; (with_reducible refine (HL.out _).mono ?_); rintro e v1 ⟨rfl, b1⟩))
  go_ret2
  exact ⟨rfl, b1⟩
set_option maxHeartbeats 8000000 in
set_option maxRecDepth 100000 in
theorem exp_signse (S D T : ByteArray) (n : Int) (w : World) (h0 : 0 < S.size) (h1 : (1 : Int) ≤ (S.size : Int)) (hs : S.size ≤ 9223372036854775807) (hDS : D.size + 1 ≤ S.size) (e1 : S.toList.isEmpty = false) (e2 : (S.toList == []) = false)
    (hb : (S[0].toNat : Int) = 101) (HL : Hid (∀ w1, Calls Tryz.prog 62 #[.string (S.extract 1 S.size), .string ⟨#[43, 45]⟩] w1 fun e w' => e = .returned (.string D) ∧ Below w1.heap.size w1 w')) (d1 : decide (1 < (S.size : Int) - 1 - (D.size : Int)) = true) :
    Calls Tryz.prog 34 #[.string S] w fun e w' => e = .returned (.tuple #[.int .i64 0, .bool false]) ∧ Below w.heap.size w w' := by
  have w1 : IntKind.i64.wrap ((S.size : Int) - 1) = (S.size : Int) - 1 := by rw [IntKind.wrap_i64]; omega
  have w2 : IntKind.i64.wrap ((S.size : Int) - 1 - (D.size : Int)) = (S.size : Int) - 1 - (D.size : Int) := by rw [IntKind.wrap_i64]; omega
  go_enter Tryz.func34, Tryz.ntmps34
  go_wp2_with (first
    | (go_at_call 62; (with_reducible refine (HL.out _).mono ?_); rintro e v1 ⟨rfl, b1⟩))
  go_ret2
  exact ⟨rfl, b1⟩
set_option maxHeartbeats 8000000 in
set_option maxRecDepth 100000 in
theorem exp_nonee (S D T : ByteArray) (n : Int) (w : World) (h0 : 0 < S.size) (h1 : (1 : Int) ≤ (S.size : Int)) (hs : S.size ≤ 9223372036854775807) (hDS : D.size + 1 ≤ S.size) (e1 : S.toList.isEmpty = false) (e2 : (S.toList == []) = false)
    (hb : (S[0].toNat : Int) = 101) (HL : Hid (∀ w1, Calls Tryz.prog 62 #[.string (S.extract 1 S.size), .string ⟨#[43, 45]⟩] w1 fun e w' => e = .returned (.string D) ∧ Below w1.heap.size w1 w')) (d1 : decide (1 < (S.size : Int) - 1 - (D.size : Int)) = false) (i1 : D.toList.isEmpty = true) (i2 : (D.toList == []) = true) :
    Calls Tryz.prog 34 #[.string S] w fun e w' => e = .returned (.tuple #[.int .i64 0, .bool false]) ∧ Below w.heap.size w w' := by
  have w1 : IntKind.i64.wrap ((S.size : Int) - 1) = (S.size : Int) - 1 := by rw [IntKind.wrap_i64]; omega
  have w2 : IntKind.i64.wrap ((S.size : Int) - 1 - (D.size : Int)) = (S.size : Int) - 1 - (D.size : Int) := by rw [IntKind.wrap_i64]; omega
  go_enter Tryz.func34, Tryz.ntmps34
  go_wp2_with (first
    | (go_at_call 62; (with_reducible refine (HL.out _).mono ?_); rintro e v1 ⟨rfl, b1⟩))
  go_ret2
  exact ⟨rfl, b1⟩
set_option maxHeartbeats 8000000 in
set_option maxRecDepth 100000 in
theorem exp_longe (S D T : ByteArray) (n : Int) (w : World) (h0 : 0 < S.size) (h1 : (1 : Int) ≤ (S.size : Int)) (hs : S.size ≤ 9223372036854775807) (hDS : D.size + 1 ≤ S.size) (e1 : S.toList.isEmpty = false) (e2 : (S.toList == []) = false)
    (hb : (S[0].toNat : Int) = 101) (HL : Hid (∀ w1, Calls Tryz.prog 62 #[.string (S.extract 1 S.size), .string ⟨#[43, 45]⟩] w1 fun e w' => e = .returned (.string D) ∧ Below w1.heap.size w1 w')) (d1 : decide (1 < (S.size : Int) - 1 - (D.size : Int)) = false) (i1 : D.toList.isEmpty = false) (i2 : (D.toList == []) = false) (d5 : decide (5 < (D.size : Int)) = true) :
    Calls Tryz.prog 34 #[.string S] w fun e w' => e = .returned (.tuple #[.int .i64 0, .bool false]) ∧ Below w.heap.size w w' := by
  have w1 : IntKind.i64.wrap ((S.size : Int) - 1) = (S.size : Int) - 1 := by rw [IntKind.wrap_i64]; omega
  have w2 : IntKind.i64.wrap ((S.size : Int) - 1 - (D.size : Int)) = (S.size : Int) - 1 - (D.size : Int) := by rw [IntKind.wrap_i64]; omega
  go_enter Tryz.func34, Tryz.ntmps34
  go_wp2_with (first
    | (go_at_call 62; (with_reducible refine (HL.out _).mono ?_); rintro e v1 ⟨rfl, b1⟩))
  go_ret2
  exact ⟨rfl, b1⟩
set_option maxHeartbeats 8000000 in
set_option maxRecDepth 100000 in
theorem exp_othere (S D T : ByteArray) (n : Int) (w : World) (h0 : 0 < S.size) (h1 : (1 : Int) ≤ (S.size : Int)) (hs : S.size ≤ 9223372036854775807) (hDS : D.size + 1 ≤ S.size) (e1 : S.toList.isEmpty = false) (e2 : (S.toList == []) = false)
    (hb : (S[0].toNat : Int) = 101) (HL : Hid (∀ w1, Calls Tryz.prog 62 #[.string (S.extract 1 S.size), .string ⟨#[43, 45]⟩] w1 fun e w' => e = .returned (.string D) ∧ Below w1.heap.size w1 w')) (d1 : decide (1 < (S.size : Int) - 1 - (D.size : Int)) = false) (i1 : D.toList.isEmpty = false) (i2 : (D.toList == []) = false) (d5 : decide (5 < (D.size : Int)) = false) (HT : Hid (∀ w1, Calls Tryz.prog 32 #[.string D, .string ⟨#[48, 49, 50, 51, 52, 53, 54, 55, 56, 57]⟩] w1 fun e w' => e = .returned (.string T) ∧ Below w1.heap.size w1 w')) (j1 : T.toList.isEmpty = false) (j2 : (T.toList == []) = false) :
    Calls Tryz.prog 34 #[.string S] w fun e w' => e = .returned (.tuple #[.int .i64 0, .bool false]) ∧ Below w.heap.size w w' := by
  have w1 : IntKind.i64.wrap ((S.size : Int) - 1) = (S.size : Int) - 1 := by rw [IntKind.wrap_i64]; omega
  have w2 : IntKind.i64.wrap ((S.size : Int) - 1 - (D.size : Int)) = (S.size : Int) - 1 - (D.size : Int) := by rw [IntKind.wrap_i64]; omega
  go_enter Tryz.func34, Tryz.ntmps34
  go_wp2_with (first
    | (go_at_call 62; (with_reducible refine (HL.out _).mono ?_); rintro e v1 ⟨rfl, b1⟩)
    | (go_at_call 32; (with_reducible refine (HT.out _).mono ?_); rintro e v2 ⟨rfl, b2⟩))
  go_ret2
  exact ⟨rfl, on b1 b2⟩
set_option maxHeartbeats 8000000 in
set_option maxRecDepth 100000 in
theorem exp_goode (S D T : ByteArray) (n : Int) (w : World) (h0 : 0 < S.size) (h1 : (1 : Int) ≤ (S.size : Int)) (hs : S.size ≤ 9223372036854775807) (hDS : D.size + 1 ≤ S.size) (e1 : S.toList.isEmpty = false) (e2 : (S.toList == []) = false)
    (hb : (S[0].toNat : Int) = 101) (HL : Hid (∀ w1, Calls Tryz.prog 62 #[.string (S.extract 1 S.size), .string ⟨#[43, 45]⟩] w1 fun e w' => e = .returned (.string D) ∧ Below w1.heap.size w1 w')) (d1 : decide (1 < (S.size : Int) - 1 - (D.size : Int)) = false) (i1 : D.toList.isEmpty = false) (i2 : (D.toList == []) = false) (d5 : decide (5 < (D.size : Int)) = false) (HT : Hid (∀ w1, Calls Tryz.prog 32 #[.string D, .string ⟨#[48, 49, 50, 51, 52, 53, 54, 55, 56, 57]⟩] w1 fun e w' => e = .returned (.string T) ∧ Below w1.heap.size w1 w')) (j1 : T.toList.isEmpty = true) (j2 : (T.toList == []) = true) (HA : Hid (∀ w1, Calls Tryz.prog 63 #[.string (S.extract 1 S.size)] w1 fun e w' => e = .returned (.tuple #[.int .i64 n, .nilIface]) ∧ Below w1.heap.size w1 w')) :
    Calls Tryz.prog 34 #[.string S] w fun e w' => e = .returned (.tuple #[.int .i64 n, .bool true]) ∧ Below w.heap.size w w' := by
  have w1 : IntKind.i64.wrap ((S.size : Int) - 1) = (S.size : Int) - 1 := by rw [IntKind.wrap_i64]; omega
  have w2 : IntKind.i64.wrap ((S.size : Int) - 1 - (D.size : Int)) = (S.size : Int) - 1 - (D.size : Int) := by rw [IntKind.wrap_i64]; omega
  go_enter Tryz.func34, Tryz.ntmps34
  go_wp2_with (first
    | (go_at_call 62; (with_reducible refine (HL.out _).mono ?_); rintro e v1 ⟨rfl, b1⟩)
    | (go_at_call 32; (with_reducible refine (HT.out _).mono ?_); rintro e v2 ⟨rfl, b2⟩)
    | (go_at_call 63; (with_reducible refine (HA.out _).mono ?_); rintro e v3 ⟨rfl, b3⟩))
  go_ret2
  exact ⟨rfl, on (on b1 b2) b3⟩
set_option maxHeartbeats 8000000 in
set_option maxRecDepth 100000 in
theorem exp_signsE (S D T : ByteArray) (n : Int) (w : World) (h0 : 0 < S.size) (h1 : (1 : Int) ≤ (S.size : Int)) (hs : S.size ≤ 9223372036854775807) (hDS : D.size + 1 ≤ S.size) (e1 : S.toList.isEmpty = false) (e2 : (S.toList == []) = false)
    (hb : (S[0].toNat : Int) = 69) (HL : Hid (∀ w1, Calls Tryz.prog 62 #[.string (S.extract 1 S.size), .string ⟨#[43, 45]⟩] w1 fun e w' => e = .returned (.string D) ∧ Below w1.heap.size w1 w')) (d1 : decide (1 < (S.size : Int) - 1 - (D.size : Int)) = true) :
    Calls Tryz.prog 34 #[.string S] w fun e w' => e = .returned (.tuple #[.int .i64 0, .bool false]) ∧ Below w.heap.size w w' := by
  have w1 : IntKind.i64.wrap ((S.size : Int) - 1) = (S.size : Int) - 1 := by rw [IntKind.wrap_i64]; omega
  have w2 : IntKind.i64.wrap ((S.size : Int) - 1 - (D.size : Int)) = (S.size : Int) - 1 - (D.size : Int) := by rw [IntKind.wrap_i64]; omega
  go_enter Tryz.func34, Tryz.ntmps34
  go_wp2_with (first
    | (go_at_call 62; (with_reducible refine (HL.out _).mono ?_); rintro e v1 ⟨rfl, b1⟩))
  go_ret2
  exact ⟨rfl, b1⟩
set_option maxHeartbeats 8000000 in
set_option maxRecDepth 100000 in
theorem exp_noneE (S D T : ByteArray) (n : Int) (w : World) (h0 : 0 < S.size) (h1 : (1 : Int) ≤ (S.size : Int)) (hs : S.size ≤ 9223372036854775807) (hDS : D.size + 1 ≤ S.size) (e1 : S.toList.isEmpty = false) (e2 : (S.toList == []) = false)
    (hb : (S[0].toNat : Int) = 69) (HL : Hid (∀ w1, Calls Tryz.prog 62 #[.string (S.extract 1 S.size), .string ⟨#[43, 45]⟩] w1 fun e w' => e = .returned (.string D) ∧ Below w1.heap.size w1 w')) (d1 : decide (1 < (S.size : Int) - 1 - (D.size : Int)) = false) (i1 : D.toList.isEmpty = true) (i2 : (D.toList == []) = true) :
    Calls Tryz.prog 34 #[.string S] w fun e w' => e = .returned (.tuple #[.int .i64 0, .bool false]) ∧ Below w.heap.size w w' := by
  have w1 : IntKind.i64.wrap ((S.size : Int) - 1) = (S.size : Int) - 1 := by rw [IntKind.wrap_i64]; omega
  have w2 : IntKind.i64.wrap ((S.size : Int) - 1 - (D.size : Int)) = (S.size : Int) - 1 - (D.size : Int) := by rw [IntKind.wrap_i64]; omega
  go_enter Tryz.func34, Tryz.ntmps34
  go_wp2_with (first
    | (go_at_call 62; (with_reducible refine (HL.out _).mono ?_); rintro e v1 ⟨rfl, b1⟩))
  go_ret2
  exact ⟨rfl, b1⟩
set_option maxHeartbeats 8000000 in
set_option maxRecDepth 100000 in
theorem exp_longE (S D T : ByteArray) (n : Int) (w : World) (h0 : 0 < S.size) (h1 : (1 : Int) ≤ (S.size : Int)) (hs : S.size ≤ 9223372036854775807) (hDS : D.size + 1 ≤ S.size) (e1 : S.toList.isEmpty = false) (e2 : (S.toList == []) = false)
    (hb : (S[0].toNat : Int) = 69) (HL : Hid (∀ w1, Calls Tryz.prog 62 #[.string (S.extract 1 S.size), .string ⟨#[43, 45]⟩] w1 fun e w' => e = .returned (.string D) ∧ Below w1.heap.size w1 w')) (d1 : decide (1 < (S.size : Int) - 1 - (D.size : Int)) = false) (i1 : D.toList.isEmpty = false) (i2 : (D.toList == []) = false) (d5 : decide (5 < (D.size : Int)) = true) :
    Calls Tryz.prog 34 #[.string S] w fun e w' => e = .returned (.tuple #[.int .i64 0, .bool false]) ∧ Below w.heap.size w w' := by
  have w1 : IntKind.i64.wrap ((S.size : Int) - 1) = (S.size : Int) - 1 := by rw [IntKind.wrap_i64]; omega
  have w2 : IntKind.i64.wrap ((S.size : Int) - 1 - (D.size : Int)) = (S.size : Int) - 1 - (D.size : Int) := by rw [IntKind.wrap_i64]; omega
  go_enter Tryz.func34, Tryz.ntmps34
  go_wp2_with (first
    | (go_at_call 62; (with_reducible refine (HL.out _).mono ?_); rintro e v1 ⟨rfl, b1⟩))
  go_ret2
  exact ⟨rfl, b1⟩
set_option maxHeartbeats 8000000 in
set_option maxRecDepth 100000 in
theorem exp_otherE (S D T : ByteArray) (n : Int) (w : World) (h0 : 0 < S.size) (h1 : (1 : Int) ≤ (S.size : Int)) (hs : S.size ≤ 9223372036854775807) (hDS : D.size + 1 ≤ S.size) (e1 : S.toList.isEmpty = false) (e2 : (S.toList == []) = false)
    (hb : (S[0].toNat : Int) = 69) (HL : Hid (∀ w1, Calls Tryz.prog 62 #[.string (S.extract 1 S.size), .string ⟨#[43, 45]⟩] w1 fun e w' => e = .returned (.string D) ∧ Below w1.heap.size w1 w')) (d1 : decide (1 < (S.size : Int) - 1 - (D.size : Int)) = false) (i1 : D.toList.isEmpty = false) (i2 : (D.toList == []) = false) (d5 : decide (5 < (D.size : Int)) = false) (HT : Hid (∀ w1, Calls Tryz.prog 32 #[.string D, .string ⟨#[48, 49, 50, 51, 52, 53, 54, 55, 56, 57]⟩] w1 fun e w' => e = .returned (.string T) ∧ Below w1.heap.size w1 w')) (j1 : T.toList.isEmpty = false) (j2 : (T.toList == []) = false) :
    Calls Tryz.prog 34 #[.string S] w fun e w' => e = .returned (.tuple #[.int .i64 0, .bool false]) ∧ Below w.heap.size w w' := by
  have w1 : IntKind.i64.wrap ((S.size : Int) - 1) = (S.size : Int) - 1 := by rw [IntKind.wrap_i64]; omega
  have w2 : IntKind.i64.wrap ((S.size : Int) - 1 - (D.size : Int)) = (S.size : Int) - 1 - (D.size : Int) := by rw [IntKind.wrap_i64]; omega
  go_enter Tryz.func34, Tryz.ntmps34
  go_wp2_with (first
    | (go_at_call 62; (with_reducible refine (HL.out _).mono ?_); rintro e v1 ⟨rfl, b1⟩)
    | (go_at_call 32; (with_reducible refine (HT.out _).mono ?_); rintro e v2 ⟨rfl, b2⟩))
  go_ret2
  exact ⟨rfl, on b1 b2⟩
set_option maxHeartbeats 8000000 in
set_option maxRecDepth 100000 in
theorem exp_goodE (S D T : ByteArray) (n : Int) (w : World) (h0 : 0 < S.size) (h1 : (1 : Int) ≤ (S.size : Int)) (hs : S.size ≤ 9223372036854775807) (hDS : D.size + 1 ≤ S.size) (e1 : S.toList.isEmpty = false) (e2 : (S.toList == []) = false)
    (hb : (S[0].toNat : Int) = 69) (HL : Hid (∀ w1, Calls Tryz.prog 62 #[.string (S.extract 1 S.size), .string ⟨#[43, 45]⟩] w1 fun e w' => e = .returned (.string D) ∧ Below w1.heap.size w1 w')) (d1 : decide (1 < (S.size : Int) - 1 - (D.size : Int)) = false) (i1 : D.toList.isEmpty = false) (i2 : (D.toList == []) = false) (d5 : decide (5 < (D.size : Int)) = false) (HT : Hid (∀ w1, Calls Tryz.prog 32 #[.string D, .string ⟨#[48, 49, 50, 51, 52, 53, 54, 55, 56, 57]⟩] w1 fun e w' => e = .returned (.string T) ∧ Below w1.heap.size w1 w')) (j1 : T.toList.isEmpty = true) (j2 : (T.toList == []) = true) (HA : Hid (∀ w1, Calls Tryz.prog 63 #[.string (S.extract 1 S.size)] w1 fun e w' => e = .returned (.tuple #[.int .i64 n, .nilIface]) ∧ Below w1.heap.size w1 w')) :
    Calls Tryz.prog 34 #[.string S] w fun e w' => e = .returned (.tuple #[.int .i64 n, .bool true]) ∧ Below w.heap.size w w' := by
  have w1 : IntKind.i64.wrap ((S.size : Int) - 1) = (S.size : Int) - 1 := by rw [IntKind.wrap_i64]; omega
  have w2 : IntKind.i64.wrap ((S.size : Int) - 1 - (D.size : Int)) = (S.size : Int) - 1 - (D.size : Int) := by rw [IntKind.wrap_i64]; omega
  go_enter Tryz.func34, Tryz.ntmps34
  go_wp2_with (first
    | (go_at_call 62; (with_reducible refine (HL.out _).mono ?_); rintro e v1 ⟨rfl, b1⟩)
    | (go_at_call 32; (with_reducible refine (HT.out _).mono ?_); rintro e v2 ⟨rfl, b2⟩)
    | (go_at_call 63; (with_reducible refine (HA.out _).mono ?_); rintro e v3 ⟨rfl, b3⟩))
  go_ret2
  exact ⟨rfl, on (on b1 b2) b3⟩
set_option maxHeartbeats 8000000 in
set_option maxRecDepth 100000 in
theorem exp_nil (w : World) : Calls Tryz.prog 34 #[.string ⟨#[]⟩] w fun e w' => e = .returned (.tuple #[.int .i64 0, .bool true]) ∧ Below w.heap.size w w' := by
  go_enter Tryz.func34, Tryz.ntmps34
  go_wp2
  go_ret2
  exact ⟨rfl, Below.refl _ _⟩
theorem decFrom_nv : ∀ (l : List UInt8) (a : Nat), (∀ b ∈ l, isDig b) → Lib.decFrom a l = some (nv a l)
  | [], a, _ => by rw [nv_nil]; rfl
  | c :: r, a, h => by
    have hc : isDig c := h c (by simp)
    have e := decFrom_nv r (a * 10 + (c.toNat - 48)) (fun b hb => h b (by simp [hb]))
    unfold isDig at hc
    rw [nv_cons, Lib.decFrom, Lib.digitVal, if_pos ⟨by omega, by omega⟩]
    exact e
theorem decNat_nv {l : List UInt8} (h : ∀ b ∈ l, isDig b) (hn : l ≠ []) : Lib.decNat l = some (nv 0 l) := by
  unfold Lib.decNat
  rw [if_neg (by simpa using hn)]
  exact decFrom_nv l 0 h
theorem atoi_cons (b : UInt8) (r : List UInt8) : Lib.atoi (b :: r) = if b == 45 then (Lib.decNat r).map (fun (m : Nat) => -(m : Int)) else if b == 43 then (Lib.decNat r).map (fun (m : Nat) => (m : Int)) else (Lib.decNat (b :: r)).map (fun (m : Nat) => (m : Int)) := rfl
/-- an exponent's sign and digits -/
def ExpOk (r : List UInt8) : Prop := r.length ≤ (Lib.trimLeftS r [43, 45]).length + 1 ∧ Lib.trimLeftS r [43, 45] ≠ [] ∧ (Lib.trimLeftS r [43, 45]).length ≤ 5 ∧ ∀ b ∈ Lib.trimLeftS r [43, 45], isDig b
theorem exp_ok {r : List UInt8} (h : ExpOk r) : ∃ n, Lib.atoi r = some n ∧ -100000 < n ∧ n < 100000 ∧ r.length ≤ 6 := by
  obtain ⟨h1, h2, h3, h4⟩ := h
  have hs := List.takeWhile_append_dropWhile (p := (([43, 45] : List UInt8).contains ·)) (l := r)
  have ht : r.dropWhile (([43, 45] : List UInt8).contains ·) = Lib.trimLeftS r [43, 45] := rfl
  rw [ht] at hs
  have hw := fun b hb => takeWhile_has (p := (([43, 45] : List UInt8).contains ·)) (l := r) (b := b) hb
  generalize r.takeWhile (([43, 45] : List UInt8).contains ·) = k at *
  generalize Lib.trimLeftS r [43, 45] = t at *
  subst hs
  rw [List.length_append] at h1
  have hb := nv_lt h4
  have hb2 : (10 : Nat) ^ t.length ≤ 10 ^ 5 := Nat.pow_le_pow_right (by omega) h3
  have hd := decNat_nv h4 h2
  have hlen : (k ++ t).length ≤ 6 := by rw [List.length_append]; omega
  match k, h1, hw, hlen with
  | [], _, _, hlen =>
    obtain ⟨c, u, rfl⟩ : ∃ c u, t = c :: u := by
      cases t with
      | nil => exact absurd rfl h2
      | cons c u => exact ⟨c, u, rfl⟩
    have hc : isDig c := h4 c (by simp)
    unfold isDig at hc
    refine ⟨(nv 0 (c :: u) : Nat), ?_, by omega, by omega, hlen⟩
    show Lib.atoi (c :: u) = _
    rw [atoi_cons, if_neg (by rw [beq_iff_eq]; rintro rfl; exact absurd hc.1 (by decide)), if_neg (by rw [beq_iff_eq]; rintro rfl; exact absurd hc.1 (by decide)), hd]
    rfl
  | [c], _, hw, hlen =>
    have hc := hw c (by simp)
    have hc : c = 43 ∨ c = 45 := by simpa using hc
    rcases hc with rfl | rfl
    · refine ⟨(nv 0 t : Nat), ?_, by omega, by omega, hlen⟩
      show Lib.atoi (43 :: t) = _
      rw [atoi_cons, if_neg (by decide), if_pos (by decide), hd]
      rfl
    · refine ⟨-(nv 0 t : Nat), ?_, by omega, by omega, hlen⟩
      show Lib.atoi (45 :: t) = _
      rw [atoi_cons, if_pos (by decide), hd]
      rfl
  | _ :: _ :: _, h1, _, _ => simp at h1; omega
instance expDec (r : List UInt8) : Decidable (ExpOk r) := by unfold ExpOk isDig; exact inferInstance
/-- what dec.exponent answers -/
def expV : List UInt8 → Option Int
  | [] => some 0
  | a :: r => if (a = 101 ∨ a = 69) ∧ ExpOk r then Lib.atoi r else none
theorem expV_cons (a : UInt8) (r : List UInt8) : expV (a :: r) = if (a = 101 ∨ a = 69) ∧ ExpOk r then Lib.atoi r else none := rfl
theorem exp_calls (l : List UInt8) (w : World) (hl : l.length ≤ 9223372036854775807) :
    Calls Tryz.prog 34 #[str l] w fun e w' => e = .returned (.tuple #[.int .i64 ((expV l).getD 0), .bool (expV l).isSome]) ∧ Below w.heap.size w w' := by
  unfold str
  match l, hl with
  | [], _ => exact exp_nil w
  | a :: r, hl =>
    have hs : (⟨(a :: r).toArray⟩ : ByteArray).size = r.length + 1 := by rw [size_of]; rfl
    have hx : ((⟨(a :: r).toArray⟩ : ByteArray).extract 1 (⟨(a :: r).toArray⟩ : ByteArray).size) = ⟨r.toArray⟩ := by
      rw [hs]
      apply ByteArray.ext
      rw [ByteArray.data_extract]
      apply Array.ext'
      rw [Array.toList_extract]
      simp [List.extract]
    have hb : ((⟨(a :: r).toArray⟩ : ByteArray)[0]'(by rw [hs]; omega)) = a := rfl
    have hll : r.length + 1 ≤ 9223372036854775807 := hl
    have TL := fun w1 => left2_calls ⟨r.toArray⟩ w1
    rw [show (⟨r.toArray⟩ : ByteArray).data.toList = r by simp, ← hx] at TL
    have hD : (⟨(Lib.trimLeftS r [43, 45]).toArray⟩ : ByteArray).size = (Lib.trimLeftS r [43, 45]).length := size_of _
    have hDl : (Lib.trimLeftS r [43, 45]).length ≤ r.length := (List.dropWhile_sublist _).length_le
    obtain ⟨e1, e2⟩ := emp_iff (a :: r)
    obtain ⟨i1, i2⟩ := emp_iff (Lib.trimLeftS r [43, 45])
    have TT := fun w1 => trimset_calls ⟨(Lib.trimLeftS r [43, 45]).toArray⟩ (by omega) w1
    rw [show (⟨(Lib.trimLeftS r [43, 45]).toArray⟩ : ByteArray).data.toList = Lib.trimLeftS r [43, 45] by simp] at TT
    obtain ⟨j1, j2⟩ := emp_iff (Lib.trimS (Lib.trimLeftS r [43, 45]) digset)
    have AT := fun n (h : Lib.atoi r = some n) (hl : r.length ≤ 6) w1 => atoi_calls ⟨r.toArray⟩ n (by rw [size_of]; omega) h w1
    rw [← hx] at AT
    rw [decide_eq_false (by simp)] at e1 e2
    by_cases ha : a = 101 ∨ a = 69
    · have key : ∀ (P : Prop), (¬ ExpOk r → P) → (ExpOk r → P) → P := fun P h1 h2 => by by_cases h : ExpOk r; exact h2 h; exact h1 h
      by_cases hok : ExpOk r
      · have hv : expV (a :: r) = Lib.atoi r := by rw [expV_cons, if_pos ⟨ha, hok⟩]
        obtain ⟨n, hn, _, _, h6⟩ := exp_ok hok
        obtain ⟨k1, k2, k3, k4⟩ := hok
        rw [hv, hn]
        rw [decide_eq_false k2] at i1 i2
        rw [trim_all k4] at TT
        have A := Lib.hid (AT n hn h6)
        have d1 : decide (1 < ((⟨(a :: r).toArray⟩ : ByteArray).size : Int) - 1 - ((⟨(Lib.trimLeftS r [43, 45]).toArray⟩ : ByteArray).size : Int)) = false := decide_eq_false (by omega)
        have d5 : decide (5 < ((⟨(Lib.trimLeftS r [43, 45]).toArray⟩ : ByteArray).size : Int)) = false := decide_eq_false (by omega)
        rcases ha with rfl | rfl
        · exact exp_goode _ _ ⟨#[]⟩ n w (by omega) (by omega) (by omega) (by omega) e1 e2 (by rw [hb]; rfl) (Lib.hid TL) d1 i1 i2 d5 (Lib.hid TT) (by rw [Lib.toList_data]; rfl) (by rw [Lib.toList_data]; rfl) A
        · exact exp_goodE _ _ ⟨#[]⟩ n w (by omega) (by omega) (by omega) (by omega) e1 e2 (by rw [hb]; rfl) (Lib.hid TL) d1 i1 i2 d5 (Lib.hid TT) (by rw [Lib.toList_data]; rfl) (by rw [Lib.toList_data]; rfl) A
      · have hv : expV (a :: r) = none := by rw [expV_cons, if_neg (fun h => hok h.2)]
        rw [hv]
        by_cases k1 : r.length ≤ (Lib.trimLeftS r [43, 45]).length + 1
        · have d1 : decide (1 < ((⟨(a :: r).toArray⟩ : ByteArray).size : Int) - 1 - ((⟨(Lib.trimLeftS r [43, 45]).toArray⟩ : ByteArray).size : Int)) = false := decide_eq_false (by omega)
          by_cases k2 : Lib.trimLeftS r [43, 45] = []
          · rw [decide_eq_true k2] at i1 i2
            rcases ha with rfl | rfl
            · exact exp_nonee _ _ ⟨#[]⟩ 0 w (by omega) (by omega) (by omega) (by omega) e1 e2 (by rw [hb]; rfl) (Lib.hid TL) d1 i1 i2
            · exact exp_noneE _ _ ⟨#[]⟩ 0 w (by omega) (by omega) (by omega) (by omega) e1 e2 (by rw [hb]; rfl) (Lib.hid TL) d1 i1 i2
          · rw [decide_eq_false k2] at i1 i2
            by_cases k3 : (Lib.trimLeftS r [43, 45]).length ≤ 5
            · have d5 : decide (5 < ((⟨(Lib.trimLeftS r [43, 45]).toArray⟩ : ByteArray).size : Int)) = false := decide_eq_false (by omega)
              have k4 : ¬ ∀ b ∈ Lib.trimLeftS r [43, 45], isDig b := fun k4 => hok ⟨k1, k2, k3, k4⟩
              have he := trim_some k4
              have hne : Lib.trimS (Lib.trimLeftS r [43, 45]) digset ≠ [] := fun e => by rw [e] at he; exact absurd he (by decide)
              rw [decide_eq_false hne] at j1 j2
              rcases ha with rfl | rfl
              · exact exp_othere _ _ _ 0 w (by omega) (by omega) (by omega) (by omega) e1 e2 (by rw [hb]; rfl) (Lib.hid TL) d1 i1 i2 d5 (Lib.hid TT) j1 j2
              · exact exp_otherE _ _ _ 0 w (by omega) (by omega) (by omega) (by omega) e1 e2 (by rw [hb]; rfl) (Lib.hid TL) d1 i1 i2 d5 (Lib.hid TT) j1 j2
            · have d5 : decide (5 < ((⟨(Lib.trimLeftS r [43, 45]).toArray⟩ : ByteArray).size : Int)) = true := decide_eq_true (by omega)
              rcases ha with rfl | rfl
              · exact exp_longe _ _ ⟨#[]⟩ 0 w (by omega) (by omega) (by omega) (by omega) e1 e2 (by rw [hb]; rfl) (Lib.hid TL) d1 i1 i2 d5
              · exact exp_longE _ _ ⟨#[]⟩ 0 w (by omega) (by omega) (by omega) (by omega) e1 e2 (by rw [hb]; rfl) (Lib.hid TL) d1 i1 i2 d5
        · have d1 : decide (1 < ((⟨(a :: r).toArray⟩ : ByteArray).size : Int) - 1 - ((⟨(Lib.trimLeftS r [43, 45]).toArray⟩ : ByteArray).size : Int)) = true := decide_eq_true (by omega)
          rcases ha with rfl | rfl
          · exact exp_signse _ _ ⟨#[]⟩ 0 w (by omega) (by omega) (by omega) (by omega) e1 e2 (by rw [hb]; rfl) (Lib.hid TL) d1
          · exact exp_signsE _ _ ⟨#[]⟩ 0 w (by omega) (by omega) (by omega) (by omega) e1 e2 (by rw [hb]; rfl) (Lib.hid TL) d1
    · have hv : expV (a :: r) = none := by rw [expV_cons, if_neg (fun h => ha h.1)]
      rw [hv]
      have q : ∀ v : UInt8, a ≠ v → ¬ ((a.toNat : Int) = (v.toNat : Int)) := fun v h e => h (UInt8.toNat_inj.mp (by omega))
      exact exp_head _ _ ⟨#[]⟩ 0 w (by omega) (by omega) (by omega) (by omega) e1 e2 a.toNat (by rw [hb]) (q 101 fun e => ha (.inl e)) (q 69 fun e => ha (.inr e)) (Lib.hid TL)
end Go.Proofs.YtkanddmihmdagaaGreatDoor.Dc

/- Layer 5: dec.Parse. -/
set_option linter.unusedSimpArgs false
set_option linter.unusedVariables false
namespace Go.Proofs.YtkanddmihmdagaaGreatDoor.Dc
open Go.RowKit Go.Proofs.YtkanddmihmdagaaGreatDoor.Dig Go.Proofs.YtkanddmihmdagaaGreatDoor.W Go.Proofs.YtkanddmihmdagaaGreatDoor.Nat Go.Proofs.YtkanddmihmdagaaGreatDoor.Wh Go.Proofs.YtkanddmihmdagaaGreatDoor.Td Go.Proofs.YtkanddmihmdagaaGreatDoor.Bu Go.Proofs.YtkanddmihmdagaaGreatDoor.Tx Go.Proofs.YtkanddmihmdagaaGreatDoor.Sp Go.Proofs.YtkanddmihmdagaaGreatDoor.Rd
/-- the scan: digits, those behind the point, where it ends -/
def scan : Nat → Nat → Nat → Bool → List UInt8 → Nat × Nat × Nat
  | D, B, i, _, [] => (D, B, i)
  | D, B, i, p, c :: r => if 48 ≤ c.toNat ∧ c.toNat ≤ 57 then scan (D + 1) (if p then B + 1 else B) (i + 1) p r else if c.toNat = 46 ∧ p = false then scan D B (i + 1) true r else (D, B, i)
theorem scan_nil (D B i : Nat) (p : Bool) : scan D B i p [] = (D, B, i) := rfl
theorem scan_cons (D B i : Nat) (p : Bool) (c : UInt8) (r : List UInt8) : scan D B i p (c :: r) = if 48 ≤ c.toNat ∧ c.toNat ≤ 57 then scan (D + 1) (if p then B + 1 else B) (i + 1) p r else if c.toNat = 46 ∧ p = false then scan D B (i + 1) true r else (D, B, i) := rfl
theorem drop_at {l : List UInt8} {i : Nat} {c : UInt8} (h : l[i]? = some c) : l.drop i = c :: l.drop (i + 1) := by
  obtain ⟨hi, e⟩ := List.getElem?_eq_some_iff.1 h
  rw [← e, List.drop_eq_getElem_cons hi]
theorem trip {a b c d e f : Nat} (h : (a, b, c) = (d, e, f)) : a = d ∧ b = e ∧ c = f := by
  injection h with h1 h2
  injection h2 with h2 h3
  exact ⟨h1, h2, h3⟩
theorem ext_end (S : ByteArray) : S.extract S.size S.size = ByteArray.empty := by
  apply ByteArray.ext
  rw [ByteArray.data_extract]
  apply Array.ext'
  simp
theorem ext_all (S : ByteArray) : S.extract 0 S.size = S := by
  apply ByteArray.ext
  rw [ByteArray.data_extract]
  apply Array.ext'
  simp
  exact List.take_of_length_le (by rw [← Lib.size_eq]; exact Nat.le_refl _)
/-- a cell that the builder reads -/
def Mx (w : World) : Prop := ∃ m, w.cell? ⟨6, 0, none⟩ = some (.int .i64 m)
theorem Mx.below {w w' : World} (h : Mx w) (hb : Below w.heap.size w w') : Mx w' := by
  obtain ⟨m, hm⟩ := h
  have h2 : (6 : Nat) < w.heap.size := Lib.lt_of_cell hm
  exact ⟨m, by rw [hb.cell (p := ⟨6, 0, none⟩) h2]; exact hm⟩
set_option maxHeartbeats 32000000 in
set_option maxRecDepth 100000 in
theorem parse_none (s S R : ByteArray) (neg ex : Bool) (D B e : Nat) (X : Int) (G : Bool) (L : ByteArray) (Y er : Int) (w : World) (hS : S.size ≤ 100000000) (hn : (s.toList == [110, 97, 110]) = false) (hi : (s.toList == [105, 110, 102]) = false) (hm : (s.toList == [45, 105, 110, 102]) = false)
    (HC : Hid (∀ w1, Calls Tryz.prog 33 #[.string s, .string ⟨#[45]⟩] w1 fun e w' => e = .returned (.tuple #[.string S, .bool neg]) ∧ w' = w1))
    (hsc : Hid (scan 0 0 0 false S.data.toList = (D, B, e))) (he : e ≤ S.size)
    (HE : Hid (∀ w1, Calls Tryz.prog 34 #[.string (S.extract e S.size)] w1 fun e w' => e = .returned (.tuple #[.int .i64 X, .bool ex]) ∧ Below w1.heap.size w1 w'))
    (z0 : ((D : Int) == 0) = true) (z1 : (D : Int) = 0) :
    Calls Tryz.prog 18 #[.string s] w fun e w' => e = .returned (.tuple #[.agg #[.int .i64 0, .bool false, .string ⟨#[]⟩, .int .i64 0], .int .i64 50]) ∧ Below w.heap.size w w' := by
  have HB0 := Lib.hid (Bk.start w 23 #[.int .i64 0, .bool false, .string ⟨#[]⟩, .int .i64 0])
  have HL := Lib.hid (alloc_below w (.cells #[.int .i64 0, .bool false, .string ⟨#[]⟩, .int .i64 0] 23))
  have HZ := Lib.hid (And.intro z0 z1)
  clear z0 z1
  go_enter Tryz.func18, Tryz.ntmps18
  go_wp2
  go_step3
  go_wp2_with (go_at_call 33; (with_reducible refine (HC.out _).mono ?_); rintro e v1 ⟨rfl, rfl⟩)
  go_step3
  go_wp2
  go_loop [6, 7, 8, 9, 34] (fun z6 z7 z8 z9 z34 => ∃ (i d b : Nat) (p : Bool), z34 = .int .i64 (i : Nat) ∧ z6 = .int .i64 (d : Nat) ∧ z7 = .int .i64 (b : Nat) ∧ z8 = .bool p ∧ z9 = .int .i64 (S.size : Nat) ∧ i ≤ S.size ∧ d ≤ i ∧ b ≤ i ∧ Hid (scan d b i p (S.data.toList.drop i) = (D, B, e))) (fun _ _ _ _ z34 => S.size - (intOf z34).toNat)
  case atStart => exact ⟨0, 0, 0, false, rfl, rfl, rfl, rfl, rfl, Nat.zero_le _, Nat.le_refl _, Nat.le_refl _, hsc⟩
  case round =>
    obtain ⟨i, d, b, p, rfl, rfl, rfl, rfl, rfl, hi1, hd1, hb1, HS⟩ := hrel
    have wd : IntKind.i64.wrap ((d : Int) + 1) = (d : Int) + 1 := by rw [IntKind.wrap_i64]; omega
    have wb : IntKind.i64.wrap ((b : Int) + 1) = (b : Int) + 1 := by rw [IntKind.wrap_i64]; omega
    by_cases hin : i < S.size
    · obtain ⟨ch, hch, hSi⟩ := byte_at' hin
      obtain ⟨y, hy⟩ : ∃ y, (S[i].toNat : Int) = ((y : Nat) : Int) := ⟨_, rfl⟩
      have hyc : ch.toNat = y := by rw [hSi] at hy; omega
      have hs1 := HS.out
      rw [drop_at hch, scan_cons, hyc] at hs1
      clear hch hSi hyc HS
      by_cases hdg : 48 ≤ y ∧ y ≤ 57
      · rw [if_pos hdg] at hs1
        have c1 : decide ((48 : Int) ≤ (y : Int)) = true := decide_eq_true (by omega)
        have c2 : decide ((y : Int) ≤ 57) = true := decide_eq_true (by omega)
        have HS := Lib.hid hs1
        clear hs1
        cases p
        · go_wp2
          go_round
          case rel => exact ⟨i + 1, d + 1, b, false, rfl, rfl, rfl, rfl, rfl, by omega, by omega, by omega, HS⟩
          case measure => simp [intOf]; omega
        · go_wp2
          go_round
          case rel => exact ⟨i + 1, d + 1, b + 1, true, rfl, rfl, rfl, rfl, rfl, by omega, by omega, by omega, HS⟩
          case measure => simp [intOf]; omega
      · rw [if_neg hdg] at hs1
        by_cases h46 : y = 46
        · subst h46
          cases p
          · rw [if_pos ⟨rfl, rfl⟩] at hs1
            have HS := Lib.hid hs1
            clear hs1
            go_wp2
            go_round
            case rel => exact ⟨i + 1, d, b, true, rfl, rfl, rfl, rfl, rfl, by omega, by omega, by omega, HS⟩
            case measure => simp [intOf]; omega
          · rw [if_neg (by simp)] at hs1
            obtain ⟨rfl, rfl, rfl⟩ := trip hs1
            clear hs1
            obtain ⟨z0, z1⟩ := HZ.out
            go_wp2_with (first | (go_at_call 34; (with_reducible refine (HE.out _).mono ?_); rintro e v2 ⟨rfl, b2⟩; have x2 := HB0.out.below b2; have k2 := four x2; have f2 := frz x2))
            rw [Exit.noGoto_ret]
            exact bodyPost_ret (res_bk_t rfl _ (x2.set4 _ _ _ _ rfl) rfl Tryz.underlying23 rfl (by kernel_rfl)) rfl ⟨rfl, below_set4 (on HL.out b2) (Nat.le_refl _) _ _ _ _⟩
        · rw [if_neg (by simp [h46])] at hs1
          obtain ⟨rfl, rfl, rfl⟩ := trip hs1
          have h46' : ((y : Int) == 46) = false := eqB (by omega)
          have h46n : ¬ (y : Int) = 46 := by omega
          clear hs1
          rcases Nat.lt_or_ge y 48 with hlt | hge
          · have c1 : decide ((48 : Int) ≤ (y : Int)) = false := decide_eq_false (by omega)
            obtain ⟨z0, z1⟩ := HZ.out
            go_wp2_with (first | (go_at_call 34; (with_reducible refine (HE.out _).mono ?_); rintro e v2 ⟨rfl, b2⟩; have x2 := HB0.out.below b2; have k2 := four x2; have f2 := frz x2))
            rw [Exit.noGoto_ret]
            exact bodyPost_ret (res_bk_t rfl _ (x2.set4 _ _ _ _ rfl) rfl Tryz.underlying23 rfl (by kernel_rfl)) rfl ⟨rfl, below_set4 (on HL.out b2) (Nat.le_refl _) _ _ _ _⟩
          · have c1 : decide ((48 : Int) ≤ (y : Int)) = true := decide_eq_true (by omega)
            have c2 : decide ((y : Int) ≤ 57) = false := decide_eq_false (by omega)
            obtain ⟨z0, z1⟩ := HZ.out
            go_wp2_with (first | (go_at_call 34; (with_reducible refine (HE.out _).mono ?_); rintro e v2 ⟨rfl, b2⟩; have x2 := HB0.out.below b2; have k2 := four x2; have f2 := frz x2))
            rw [Exit.noGoto_ret]
            exact bodyPost_ret (res_bk_t rfl _ (x2.set4 _ _ _ _ rfl) rfl Tryz.underlying23 rfl (by kernel_rfl)) rfl ⟨rfl, below_set4 (on HL.out b2) (Nat.le_refl _) _ _ _ _⟩
    · obtain rfl : i = S.size := by omega
      have hs1 := HS.out
      rw [List.drop_of_length_le (by rw [← Lib.size_eq]; exact Nat.le_refl _), scan_nil] at hs1
      obtain ⟨rfl, rfl, rfl⟩ := trip hs1
      clear hs1 HS
      have h9 := HE.out
      rw [ext_end] at h9
      have HE := Lib.hid h9
      clear h9
      obtain ⟨z0, z1⟩ := HZ.out
      go_wp2_with (first | (go_at_call 34; (with_reducible refine (HE.out _).mono ?_); rintro e v2 ⟨rfl, b2⟩; have x2 := HB0.out.below b2; have k2 := four x2; have f2 := frz x2))
      rw [Exit.noGoto_ret]
      exact bodyPost_ret (res_bk_t rfl _ (x2.set4 _ _ _ _ rfl) rfl Tryz.underlying23 rfl (by kernel_rfl)) rfl ⟨rfl, below_set4 (on HL.out b2) (Nat.le_refl _) _ _ _ _⟩
set_option maxHeartbeats 32000000 in
set_option maxRecDepth 100000 in
theorem parse_noexp (s S R : ByteArray) (neg ex : Bool) (D B e : Nat) (X : Int) (G : Bool) (L : ByteArray) (Y er : Int) (w : World) (hS : S.size ≤ 100000000) (hn : (s.toList == [110, 97, 110]) = false) (hi : (s.toList == [105, 110, 102]) = false) (hm : (s.toList == [45, 105, 110, 102]) = false)
    (HC : Hid (∀ w1, Calls Tryz.prog 33 #[.string s, .string ⟨#[45]⟩] w1 fun e w' => e = .returned (.tuple #[.string S, .bool neg]) ∧ w' = w1))
    (hsc : Hid (scan 0 0 0 false S.data.toList = (D, B, e))) (he : e ≤ S.size)
    (HE : Hid (∀ w1, Calls Tryz.prog 34 #[.string (S.extract e S.size)] w1 fun e w' => e = .returned (.tuple #[.int .i64 X, .bool ex]) ∧ Below w1.heap.size w1 w'))
    (z0 : ((D : Int) == 0) = false) (z1 : ¬ (D : Int) = 0) (z2 : ex = false) :
    Calls Tryz.prog 18 #[.string s] w fun e w' => e = .returned (.tuple #[.agg #[.int .i64 0, .bool false, .string ⟨#[]⟩, .int .i64 0], .int .i64 50]) ∧ Below w.heap.size w w' := by
  subst z2
  have HB0 := Lib.hid (Bk.start w 23 #[.int .i64 0, .bool false, .string ⟨#[]⟩, .int .i64 0])
  have HL := Lib.hid (alloc_below w (.cells #[.int .i64 0, .bool false, .string ⟨#[]⟩, .int .i64 0] 23))
  have HZ := Lib.hid (And.intro z0 z1)
  clear z0 z1
  go_enter Tryz.func18, Tryz.ntmps18
  go_wp2
  go_step3
  go_wp2_with (go_at_call 33; (with_reducible refine (HC.out _).mono ?_); rintro e v1 ⟨rfl, rfl⟩)
  go_step3
  go_wp2
  go_loop [6, 7, 8, 9, 34] (fun z6 z7 z8 z9 z34 => ∃ (i d b : Nat) (p : Bool), z34 = .int .i64 (i : Nat) ∧ z6 = .int .i64 (d : Nat) ∧ z7 = .int .i64 (b : Nat) ∧ z8 = .bool p ∧ z9 = .int .i64 (S.size : Nat) ∧ i ≤ S.size ∧ d ≤ i ∧ b ≤ i ∧ Hid (scan d b i p (S.data.toList.drop i) = (D, B, e))) (fun _ _ _ _ z34 => S.size - (intOf z34).toNat)
  case atStart => exact ⟨0, 0, 0, false, rfl, rfl, rfl, rfl, rfl, Nat.zero_le _, Nat.le_refl _, Nat.le_refl _, hsc⟩
  case round =>
    obtain ⟨i, d, b, p, rfl, rfl, rfl, rfl, rfl, hi1, hd1, hb1, HS⟩ := hrel
    have wd : IntKind.i64.wrap ((d : Int) + 1) = (d : Int) + 1 := by rw [IntKind.wrap_i64]; omega
    have wb : IntKind.i64.wrap ((b : Int) + 1) = (b : Int) + 1 := by rw [IntKind.wrap_i64]; omega
    by_cases hin : i < S.size
    · obtain ⟨ch, hch, hSi⟩ := byte_at' hin
      obtain ⟨y, hy⟩ : ∃ y, (S[i].toNat : Int) = ((y : Nat) : Int) := ⟨_, rfl⟩
      have hyc : ch.toNat = y := by rw [hSi] at hy; omega
      have hs1 := HS.out
      rw [drop_at hch, scan_cons, hyc] at hs1
      clear hch hSi hyc HS
      by_cases hdg : 48 ≤ y ∧ y ≤ 57
      · rw [if_pos hdg] at hs1
        have c1 : decide ((48 : Int) ≤ (y : Int)) = true := decide_eq_true (by omega)
        have c2 : decide ((y : Int) ≤ 57) = true := decide_eq_true (by omega)
        have HS := Lib.hid hs1
        clear hs1
        cases p
        · go_wp2
          go_round
          case rel => exact ⟨i + 1, d + 1, b, false, rfl, rfl, rfl, rfl, rfl, by omega, by omega, by omega, HS⟩
          case measure => simp [intOf]; omega
        · go_wp2
          go_round
          case rel => exact ⟨i + 1, d + 1, b + 1, true, rfl, rfl, rfl, rfl, rfl, by omega, by omega, by omega, HS⟩
          case measure => simp [intOf]; omega
      · rw [if_neg hdg] at hs1
        by_cases h46 : y = 46
        · subst h46
          cases p
          · rw [if_pos ⟨rfl, rfl⟩] at hs1
            have HS := Lib.hid hs1
            clear hs1
            go_wp2
            go_round
            case rel => exact ⟨i + 1, d, b, true, rfl, rfl, rfl, rfl, rfl, by omega, by omega, by omega, HS⟩
            case measure => simp [intOf]; omega
          · rw [if_neg (by simp)] at hs1
            obtain ⟨rfl, rfl, rfl⟩ := trip hs1
            clear hs1
            obtain ⟨z0, z1⟩ := HZ.out
            go_wp2_with (first | (go_at_call 34; (with_reducible refine (HE.out _).mono ?_); rintro e v2 ⟨rfl, b2⟩; have x2 := HB0.out.below b2; have k2 := four x2; have f2 := frz x2))
            rw [Exit.noGoto_ret]
            exact bodyPost_ret (res_bk_t rfl _ (x2.set4 _ _ _ _ rfl) rfl Tryz.underlying23 rfl (by kernel_rfl)) rfl ⟨rfl, below_set4 (on HL.out b2) (Nat.le_refl _) _ _ _ _⟩
        · rw [if_neg (by simp [h46])] at hs1
          obtain ⟨rfl, rfl, rfl⟩ := trip hs1
          have h46' : ((y : Int) == 46) = false := eqB (by omega)
          have h46n : ¬ (y : Int) = 46 := by omega
          clear hs1
          rcases Nat.lt_or_ge y 48 with hlt | hge
          · have c1 : decide ((48 : Int) ≤ (y : Int)) = false := decide_eq_false (by omega)
            obtain ⟨z0, z1⟩ := HZ.out
            go_wp2_with (first | (go_at_call 34; (with_reducible refine (HE.out _).mono ?_); rintro e v2 ⟨rfl, b2⟩; have x2 := HB0.out.below b2; have k2 := four x2; have f2 := frz x2))
            rw [Exit.noGoto_ret]
            exact bodyPost_ret (res_bk_t rfl _ (x2.set4 _ _ _ _ rfl) rfl Tryz.underlying23 rfl (by kernel_rfl)) rfl ⟨rfl, below_set4 (on HL.out b2) (Nat.le_refl _) _ _ _ _⟩
          · have c1 : decide ((48 : Int) ≤ (y : Int)) = true := decide_eq_true (by omega)
            have c2 : decide ((y : Int) ≤ 57) = false := decide_eq_false (by omega)
            obtain ⟨z0, z1⟩ := HZ.out
            go_wp2_with (first | (go_at_call 34; (with_reducible refine (HE.out _).mono ?_); rintro e v2 ⟨rfl, b2⟩; have x2 := HB0.out.below b2; have k2 := four x2; have f2 := frz x2))
            rw [Exit.noGoto_ret]
            exact bodyPost_ret (res_bk_t rfl _ (x2.set4 _ _ _ _ rfl) rfl Tryz.underlying23 rfl (by kernel_rfl)) rfl ⟨rfl, below_set4 (on HL.out b2) (Nat.le_refl _) _ _ _ _⟩
    · obtain rfl : i = S.size := by omega
      have hs1 := HS.out
      rw [List.drop_of_length_le (by rw [← Lib.size_eq]; exact Nat.le_refl _), scan_nil] at hs1
      obtain ⟨rfl, rfl, rfl⟩ := trip hs1
      clear hs1 HS
      have h9 := HE.out
      rw [ext_end] at h9
      have HE := Lib.hid h9
      clear h9
      obtain ⟨z0, z1⟩ := HZ.out
      go_wp2_with (first | (go_at_call 34; (with_reducible refine (HE.out _).mono ?_); rintro e v2 ⟨rfl, b2⟩; have x2 := HB0.out.below b2; have k2 := four x2; have f2 := frz x2))
      rw [Exit.noGoto_ret]
      exact bodyPost_ret (res_bk_t rfl _ (x2.set4 _ _ _ _ rfl) rfl Tryz.underlying23 rfl (by kernel_rfl)) rfl ⟨rfl, below_set4 (on HL.out b2) (Nat.le_refl _) _ _ _ _⟩
set_option maxHeartbeats 32000000 in
set_option maxRecDepth 100000 in
theorem parse_made (s S R : ByteArray) (neg ex : Bool) (D B e : Nat) (X : Int) (G : Bool) (L : ByteArray) (Y er : Int) (w : World) (hS : S.size ≤ 100000000) (hn : (s.toList == [110, 97, 110]) = false) (hi : (s.toList == [105, 110, 102]) = false) (hm : (s.toList == [45, 105, 110, 102]) = false)
    (HC : Hid (∀ w1, Calls Tryz.prog 33 #[.string s, .string ⟨#[45]⟩] w1 fun e w' => e = .returned (.tuple #[.string S, .bool neg]) ∧ w' = w1))
    (hsc : Hid (scan 0 0 0 false S.data.toList = (D, B, e))) (he : e ≤ S.size)
    (HE : Hid (∀ w1, Calls Tryz.prog 34 #[.string (S.extract e S.size)] w1 fun e w' => e = .returned (.tuple #[.int .i64 X, .bool ex]) ∧ Below w1.heap.size w1 w'))
    (z0 : ((D : Int) == 0) = false) (z1 : ¬ (D : Int) = 0) (z2 : ex = true) (hX : -1000000 ≤ X ∧ X ≤ 1000000) (hMx : Mx w)
    (HR : Hid (∀ w1, Mx w1 → Calls Tryz.prog 36 #[.string (S.extract 0 e), .string ⟨#[46]⟩, .string ⟨#[]⟩] w1 fun e w' => e = .returned (.string R) ∧ Below w1.heap.size w1 w'))
    (HM : Hid (∀ w1, Calls Tryz.prog 35 #[.bool neg, .string R, .int .i64 (X - (B : Int))] w1 fun e w' => e = .returned (.tuple #[.agg #[.int .i64 0, .bool G, .string L, .int .i64 Y], .int .i64 er]) ∧ Below w1.heap.size w1 w')) :
    Calls Tryz.prog 18 #[.string s] w fun e w' => e = .returned (.tuple #[.agg #[.int .i64 0, .bool G, .string L, .int .i64 Y], .int .i64 er]) ∧ Below w.heap.size w w' := by
  subst z2
  have HB0 := Lib.hid (Bk.start w 23 #[.int .i64 0, .bool false, .string ⟨#[]⟩, .int .i64 0])
  have HL := Lib.hid (alloc_below w (.cells #[.int .i64 0, .bool false, .string ⟨#[]⟩, .int .i64 0] 23))
  have HZ := Lib.hid (And.intro z0 z1)
  clear z0 z1
  have HX := Lib.hid hX
  clear hX
  have HMx := Lib.hid (hMx.below HL.out)
  clear hMx
  go_enter Tryz.func18, Tryz.ntmps18
  go_wp2
  go_step3
  go_wp2_with (go_at_call 33; (with_reducible refine (HC.out _).mono ?_); rintro e v1 ⟨rfl, rfl⟩)
  go_step3
  go_wp2
  go_loop [6, 7, 8, 9, 34] (fun z6 z7 z8 z9 z34 => ∃ (i d b : Nat) (p : Bool), z34 = .int .i64 (i : Nat) ∧ z6 = .int .i64 (d : Nat) ∧ z7 = .int .i64 (b : Nat) ∧ z8 = .bool p ∧ z9 = .int .i64 (S.size : Nat) ∧ i ≤ S.size ∧ d ≤ i ∧ b ≤ i ∧ Hid (scan d b i p (S.data.toList.drop i) = (D, B, e))) (fun _ _ _ _ z34 => S.size - (intOf z34).toNat)
  case atStart => exact ⟨0, 0, 0, false, rfl, rfl, rfl, rfl, rfl, Nat.zero_le _, Nat.le_refl _, Nat.le_refl _, hsc⟩
  case round =>
    obtain ⟨i, d, b, p, rfl, rfl, rfl, rfl, rfl, hi1, hd1, hb1, HS⟩ := hrel
    have wd : IntKind.i64.wrap ((d : Int) + 1) = (d : Int) + 1 := by rw [IntKind.wrap_i64]; omega
    have wb : IntKind.i64.wrap ((b : Int) + 1) = (b : Int) + 1 := by rw [IntKind.wrap_i64]; omega
    by_cases hin : i < S.size
    · obtain ⟨ch, hch, hSi⟩ := byte_at' hin
      obtain ⟨y, hy⟩ : ∃ y, (S[i].toNat : Int) = ((y : Nat) : Int) := ⟨_, rfl⟩
      have hyc : ch.toNat = y := by rw [hSi] at hy; omega
      have hs1 := HS.out
      rw [drop_at hch, scan_cons, hyc] at hs1
      clear hch hSi hyc HS
      by_cases hdg : 48 ≤ y ∧ y ≤ 57
      · rw [if_pos hdg] at hs1
        have c1 : decide ((48 : Int) ≤ (y : Int)) = true := decide_eq_true (by omega)
        have c2 : decide ((y : Int) ≤ 57) = true := decide_eq_true (by omega)
        have HS := Lib.hid hs1
        clear hs1
        cases p
        · go_wp2
          go_round
          case rel => exact ⟨i + 1, d + 1, b, false, rfl, rfl, rfl, rfl, rfl, by omega, by omega, by omega, HS⟩
          case measure => simp [intOf]; omega
        · go_wp2
          go_round
          case rel => exact ⟨i + 1, d + 1, b + 1, true, rfl, rfl, rfl, rfl, rfl, by omega, by omega, by omega, HS⟩
          case measure => simp [intOf]; omega
      · rw [if_neg hdg] at hs1
        by_cases h46 : y = 46
        · subst h46
          cases p
          · rw [if_pos ⟨rfl, rfl⟩] at hs1
            have HS := Lib.hid hs1
            clear hs1
            go_wp2
            go_round
            case rel => exact ⟨i + 1, d, b, true, rfl, rfl, rfl, rfl, rfl, by omega, by omega, by omega, HS⟩
            case measure => simp [intOf]; omega
          · rw [if_neg (by simp)] at hs1
            obtain ⟨rfl, rfl, rfl⟩ := trip hs1
            clear hs1
            obtain ⟨z0, z1⟩ := HZ.out
            have wX : IntKind.i64.wrap (X - (b : Int)) = X - (b : Int) := by have := HX.out; rw [IntKind.wrap_i64]; omega
            go_wp2_with (first | (go_at_call 34; (with_reducible refine (HE.out _).mono ?_); rintro e v2 ⟨rfl, b2⟩; have x2 := HB0.out.below b2; have k2 := four x2; have f2 := frz x2) | (go_at_call 36; (with_reducible refine (HR.out _ (HMx.out.below b2)).mono ?_); rintro e v3 ⟨rfl, b3⟩; have x3 := x2.below b3) | (go_at_call 35; (with_reducible refine (HM.out _).mono ?_); rintro e v4 ⟨rfl, b4⟩; have x4 := x3.below b4; have k4 := four x4; have f4 := frz x4))
            rw [Exit.noGoto_ret]
            exact bodyPost_ret (res_bk_t rfl _ (x4.set4 _ _ _ _ rfl) rfl Tryz.underlying23 rfl (by kernel_rfl)) rfl ⟨rfl, below_set4 (on (on (on HL.out b2) b3) b4) (Nat.le_refl _) _ _ _ _⟩
        · rw [if_neg (by simp [h46])] at hs1
          obtain ⟨rfl, rfl, rfl⟩ := trip hs1
          have h46' : ((y : Int) == 46) = false := eqB (by omega)
          have h46n : ¬ (y : Int) = 46 := by omega
          clear hs1
          rcases Nat.lt_or_ge y 48 with hlt | hge
          · have c1 : decide ((48 : Int) ≤ (y : Int)) = false := decide_eq_false (by omega)
            obtain ⟨z0, z1⟩ := HZ.out
            have wX : IntKind.i64.wrap (X - (b : Int)) = X - (b : Int) := by have := HX.out; rw [IntKind.wrap_i64]; omega
            go_wp2_with (first | (go_at_call 34; (with_reducible refine (HE.out _).mono ?_); rintro e v2 ⟨rfl, b2⟩; have x2 := HB0.out.below b2; have k2 := four x2; have f2 := frz x2) | (go_at_call 36; (with_reducible refine (HR.out _ (HMx.out.below b2)).mono ?_); rintro e v3 ⟨rfl, b3⟩; have x3 := x2.below b3) | (go_at_call 35; (with_reducible refine (HM.out _).mono ?_); rintro e v4 ⟨rfl, b4⟩; have x4 := x3.below b4; have k4 := four x4; have f4 := frz x4))
            rw [Exit.noGoto_ret]
            exact bodyPost_ret (res_bk_t rfl _ (x4.set4 _ _ _ _ rfl) rfl Tryz.underlying23 rfl (by kernel_rfl)) rfl ⟨rfl, below_set4 (on (on (on HL.out b2) b3) b4) (Nat.le_refl _) _ _ _ _⟩
          · have c1 : decide ((48 : Int) ≤ (y : Int)) = true := decide_eq_true (by omega)
            have c2 : decide ((y : Int) ≤ 57) = false := decide_eq_false (by omega)
            obtain ⟨z0, z1⟩ := HZ.out
            have wX : IntKind.i64.wrap (X - (b : Int)) = X - (b : Int) := by have := HX.out; rw [IntKind.wrap_i64]; omega
            go_wp2_with (first | (go_at_call 34; (with_reducible refine (HE.out _).mono ?_); rintro e v2 ⟨rfl, b2⟩; have x2 := HB0.out.below b2; have k2 := four x2; have f2 := frz x2) | (go_at_call 36; (with_reducible refine (HR.out _ (HMx.out.below b2)).mono ?_); rintro e v3 ⟨rfl, b3⟩; have x3 := x2.below b3) | (go_at_call 35; (with_reducible refine (HM.out _).mono ?_); rintro e v4 ⟨rfl, b4⟩; have x4 := x3.below b4; have k4 := four x4; have f4 := frz x4))
            rw [Exit.noGoto_ret]
            exact bodyPost_ret (res_bk_t rfl _ (x4.set4 _ _ _ _ rfl) rfl Tryz.underlying23 rfl (by kernel_rfl)) rfl ⟨rfl, below_set4 (on (on (on HL.out b2) b3) b4) (Nat.le_refl _) _ _ _ _⟩
    · obtain rfl : i = S.size := by omega
      have hs1 := HS.out
      rw [List.drop_of_length_le (by rw [← Lib.size_eq]; exact Nat.le_refl _), scan_nil] at hs1
      obtain ⟨rfl, rfl, rfl⟩ := trip hs1
      clear hs1 HS
      have h9 := HE.out
      rw [ext_end] at h9
      have HE := Lib.hid h9
      clear h9
      have h9 := HR.out
      rw [ext_all] at h9
      have HR := Lib.hid h9
      clear h9
      obtain ⟨z0, z1⟩ := HZ.out
      have wX : IntKind.i64.wrap (X - (b : Int)) = X - (b : Int) := by have := HX.out; rw [IntKind.wrap_i64]; omega
      go_wp2_with (first | (go_at_call 34; (with_reducible refine (HE.out _).mono ?_); rintro e v2 ⟨rfl, b2⟩; have x2 := HB0.out.below b2; have k2 := four x2; have f2 := frz x2) | (go_at_call 36; (with_reducible refine (HR.out _ (HMx.out.below b2)).mono ?_); rintro e v3 ⟨rfl, b3⟩; have x3 := x2.below b3) | (go_at_call 35; (with_reducible refine (HM.out _).mono ?_); rintro e v4 ⟨rfl, b4⟩; have x4 := x3.below b4; have k4 := four x4; have f4 := frz x4))
      rw [Exit.noGoto_ret]
      exact bodyPost_ret (res_bk_t rfl _ (x4.set4 _ _ _ _ rfl) rfl Tryz.underlying23 rfl (by kernel_rfl)) rfl ⟨rfl, below_set4 (on (on (on HL.out b2) b3) b4) (Nat.le_refl _) _ _ _ _⟩
--REST
end Go.Proofs.YtkanddmihmdagaaGreatDoor.Dc
