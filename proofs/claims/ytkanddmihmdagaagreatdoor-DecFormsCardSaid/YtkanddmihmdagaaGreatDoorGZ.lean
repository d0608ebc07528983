/- Texts of one layer, joined: Ci. -/
import Derived.Test.YtkanddmihmdagaaGreatDoorGP
set_option linter.unusedVariables false
set_option linter.unusedSimpArgs false
set_option linter.unusedSectionVars false
/- Layer 5's laws: DecForms. -/
set_option linter.unusedSimpArgs false
set_option linter.unusedVariables false
namespace Go.Proofs.YtkanddmihmdagaaGreatDoor.Dc
open Go.RowKit Go.Proofs.YtkanddmihmdagaaGreatDoor.Dig Go.Proofs.YtkanddmihmdagaaGreatDoor.W Go.Proofs.YtkanddmihmdagaaGreatDoor.Nat Go.Proofs.YtkanddmihmdagaaGreatDoor.Wh Go.Proofs.YtkanddmihmdagaaGreatDoor.Td Go.Proofs.YtkanddmihmdagaaGreatDoor.Bu Go.Proofs.YtkanddmihmdagaaGreatDoor.Tx Go.Proofs.YtkanddmihmdagaaGreatDoor.Sp Go.Proofs.YtkanddmihmdagaaGreatDoor.Rd
set_option maxHeartbeats 8000000 in
set_option maxRecDepth 100000 in
theorem place_e (c : Int) (g : Bool) (S : ByteArray) (x : Int) (w : World) (e1 : S.toList.isEmpty = true) (e2 : (S.toList == []) = true) :
    Calls Tryz.prog 16 #[.agg #[.int .i64 c, .bool g, .string S, .int .i64 x]] w fun e w' => e = .returned (.int .i64 0) ∧ Below w.heap.size w w' := by
  have HB := Lib.hid (alloc_below w (.cells #[.int .i64 c, .bool g, .string S, .int .i64 x] 23))
  have HK := Lib.hid (Bk.start w 23 #[.int .i64 c, .bool g, .string S, .int .i64 x])
  go_enter Tryz.func16, Tryz.ntmps16
  go_wp2
  go_ret
  exact ⟨rfl, HB.out⟩
set_option maxHeartbeats 8000000 in
set_option maxRecDepth 100000 in
theorem place_m (c : Int) (g : Bool) (S : ByteArray) (x : Int) (w : World) (e1 : S.toList.isEmpty = false) (e2 : (S.toList == []) = false)
    (M1 : ∀ w1, Calls Tryz.prog 14 #[.agg #[.int .i64 c, .bool g, .string S, .int .i64 x]] w1 fun e w' => e = .returned (.bool false) ∧ Below w1.heap.size w1 w') :
    Calls Tryz.prog 16 #[.agg #[.int .i64 c, .bool g, .string S, .int .i64 x]] w fun e w' => e = .returned (.int .i64 0) ∧ Below w.heap.size w w' := by
  have HB := Lib.hid (alloc_below w (.cells #[.int .i64 c, .bool g, .string S, .int .i64 x] 23))
  have HK := Lib.hid (Bk.start w 23 #[.int .i64 c, .bool g, .string S, .int .i64 x])
  have HM := Lib.hid M1
  clear M1
  go_enter Tryz.func16, Tryz.ntmps16
  go_wp2_with (go_at_call 14; (with_reducible refine (HM.out _).mono ?_); rintro e w1 ⟨rfl, b1⟩; have q := four (HK.out.below b1))
  go_ret
  exact ⟨rfl, on HB.out b1⟩
set_option maxHeartbeats 8000000 in
set_option maxRecDepth 100000 in
theorem rplace_m (c : Int) (g : Bool) (S : ByteArray) (x : Int) (w : World)
    (M1 : ∀ w1, Calls Tryz.prog 15 #[.agg #[.int .i64 c, .bool g, .string S, .int .i64 x]] w1 fun e w' => e = .returned (.bool false) ∧ Below w1.heap.size w1 w') :
    Calls Tryz.prog 17 #[.agg #[.int .i64 c, .bool g, .string S, .int .i64 x]] w fun e w' => e = .returned (.int .i64 0) ∧ Below w.heap.size w w' := by
  have HB := Lib.hid (alloc_below w (.cells #[.int .i64 c, .bool g, .string S, .int .i64 x] 23))
  have HK := Lib.hid (Bk.start w 23 #[.int .i64 c, .bool g, .string S, .int .i64 x])
  have HM := Lib.hid M1
  clear M1
  go_enter Tryz.func17, Tryz.ntmps17
  go_wp2_with (go_at_call 15; (with_reducible refine (HM.out _).mono ?_); rintro e w1 ⟨rfl, b1⟩; have q := four (HK.out.below b1))
  go_ret
  exact ⟨rfl, on HB.out b1⟩
set_option maxHeartbeats 8000000 in
set_option maxRecDepth 100000 in
theorem rplace_e (c : Int) (g : Bool) (S : ByteArray) (x : Int) (w : World) (e1 : S.toList.isEmpty = true) (e2 : (S.toList == []) = true)
    (M1 : ∀ w1, Calls Tryz.prog 15 #[.agg #[.int .i64 c, .bool g, .string S, .int .i64 x]] w1 fun e w' => e = .returned (.bool true) ∧ Below w1.heap.size w1 w') :
    Calls Tryz.prog 17 #[.agg #[.int .i64 c, .bool g, .string S, .int .i64 x]] w fun e w' => e = .returned (.int .i64 0) ∧ Below w.heap.size w w' := by
  have HB := Lib.hid (alloc_below w (.cells #[.int .i64 c, .bool g, .string S, .int .i64 x] 23))
  have HK := Lib.hid (Bk.start w 23 #[.int .i64 c, .bool g, .string S, .int .i64 x])
  have HM := Lib.hid M1
  clear M1
  go_enter Tryz.func17, Tryz.ntmps17
  go_wp2_with (go_at_call 15; (with_reducible refine (HM.out _).mono ?_); rintro e w1 ⟨rfl, b1⟩; have q := four (HK.out.below b1))
  go_ret
  exact ⟨rfl, on HB.out b1⟩
set_option maxHeartbeats 8000000 in
set_option maxRecDepth 100000 in
theorem rplace_n (c : Int) (g : Bool) (S : ByteArray) (x : Int) (w : World) (e1 : S.toList.isEmpty = false) (e2 : (S.toList == []) = false) (f1 : S.size ≤ 1000) (f2 : -10000 ≤ x) (f3 : x ≤ 10000)
    (M1 : ∀ w1, Calls Tryz.prog 15 #[.agg #[.int .i64 c, .bool g, .string S, .int .i64 x]] w1 fun e w' => e = .returned (.bool true) ∧ Below w1.heap.size w1 w') :
    Calls Tryz.prog 17 #[.agg #[.int .i64 c, .bool g, .string S, .int .i64 x]] w fun e w' => e = .returned (.int .i64 ((S.size : Int) + x)) ∧ Below w.heap.size w w' := by
  have HB := Lib.hid (alloc_below w (.cells #[.int .i64 c, .bool g, .string S, .int .i64 x] 23))
  have HK := Lib.hid (Bk.start w 23 #[.int .i64 c, .bool g, .string S, .int .i64 x])
  have HM := Lib.hid M1
  clear M1
  go_enter Tryz.func17, Tryz.ntmps17
  go_wp2_with (go_at_call 15; (with_reducible refine (HM.out _).mono ?_); rintro e w1 ⟨rfl, b1⟩; have q := four (HK.out.below b1))
  go_ret
  exact ⟨rfl, on HB.out b1⟩
/-- where the first digit stands -/
def placeV (c : Int) (g : Bool) (l : List UInt8) (x : Int) : Int := if mayB c g l x = true ∧ l ≠ [] then (l.length : Int) + x else 0
theorem place_all (c : Int) (g : Bool) (l : List UInt8) (x : Int) (w : World) (hl : l.length ≤ 9223372036854775807) :
    Calls Tryz.prog 16 #[.agg (dec c g l x)] w fun e w' => e = .returned (.int .i64 (placeV c g l x)) ∧ Below w.heap.size w w' := by
  obtain ⟨e1, e2⟩ := emp_iff l
  have M := fun w1 => dmay_calls c g l x w1 hl
  unfold placeV
  by_cases hn : l = []
  · rw [if_neg (fun h => h.2 hn)]
    rw [decide_eq_true hn] at e1 e2
    exact place_e c g ⟨l.toArray⟩ x w e1 e2
  · rw [decide_eq_false hn] at e1 e2
    cases m : mayB c g l x with
    | false =>
      rw [if_neg (fun h => by cases h.1)]
      rw [m] at M
      exact place_m c g ⟨l.toArray⟩ x w e1 e2 M
    | true =>
      rw [if_pos ⟨rfl, hn⟩]
      obtain ⟨rfl, hF, hf⟩ := may_str m hn
      exact place_calls g l x w hF hf
theorem rplace_all (c : Int) (g : Bool) (l : List UInt8) (x : Int) (w : World) :
    Calls Tryz.prog 17 #[.agg (dec c g l x)] w fun e w' => e = .returned (.int .i64 (placeV c g l x)) ∧ Below w.heap.size w w' := by
  obtain ⟨e1, e2⟩ := emp_iff l
  have M := fun w1 => rmay_calls c g l x w1
  unfold placeV
  cases m : mayB c g l x with
  | false =>
    rw [if_neg (fun h => by cases h.1)]
    rw [m] at M
    exact rplace_m c g ⟨l.toArray⟩ x w M
  | true =>
    rw [m] at M
    by_cases hn : l = []
    · rw [if_neg (fun h => h.2 hn)]
      rw [decide_eq_true hn] at e1 e2
      exact rplace_e c g ⟨l.toArray⟩ x w e1 e2 M
    · rw [decide_eq_false hn] at e1 e2
      rw [if_pos ⟨rfl, hn⟩, ← size_of]
      obtain ⟨_, hF, hf⟩ := may_str m hn
      obtain ⟨f1, f2, f3⟩ := hf
      exact rplace_n c g ⟨l.toArray⟩ x w e1 e2 (by rw [size_of]; exact f1) (by omega) (by omega) M
set_option maxHeartbeats 16000000 in
set_option maxRecDepth 100000 in
theorem decForms_calls (c : Int) (g : Bool) (l : List UInt8) (x : Int) (w : World) (hp : PM w) (hl : l.length ≤ 9223372036854775807) :
    Calls Tryz.prog 3 #[.agg (dec c g l x)] w fun e w' => e = .returned (.bool true) ∧ Below w.heap.size w w' := by
  have M := fun w1 => dmay_calls c g l x w1 hl
  have R := fun w1 => rmay_calls c g l x w1
  have P := fun w1 => place_all c g l x w1 hl
  have Q := fun w1 => rplace_all c g l x w1
  generalize mayB c g l x = m at *
  generalize placeV c g l x = pl at *
  unfold dec str at *
  generalize (⟨l.toArray⟩ : ByteArray) = S at *
  have HM := Lib.hid M
  have HR := Lib.hid R
  have HP := Lib.hid P
  have HQ := Lib.hid Q
  have HB := Lib.hid (alloc_below w (.cells #[.int .i64 c, .bool g, .string S, .int .i64 x] 23))
  have HK := Lib.hid (Bk.start w 23 #[.int .i64 c, .bool g, .string S, .int .i64 x])
  have HW := Lib.hid (hp.below HB.out)
  clear M R P Q hp
  go_enter Tryz.func3, Tryz.ntmps3
  go_wp2
  have z0 := HK.out.below (Below.refl _ _).drew
  have p0 := HW.out.below (Below.refl _ _).drew
  have l0 := HB.out.drew
  have k0 := four z0
  go_region_held3 (fun w' => w'.cell? ⟨w.heap.size, 0, none⟩ = some (.int .i64 c) ∧ w'.cell? ⟨w.heap.size, 1, none⟩ = some (.bool g) ∧ w'.cell? ⟨w.heap.size, 2, none⟩ = some (.string S) ∧ w'.cell? ⟨w.heap.size, 3, none⟩ = some (.int .i64 x))
    (first
      | (with_reducible exact k0)
      | (with_reducible exact k1)
      | (with_reducible exact k2)
      | (with_reducible exact k3)
      | (with_reducible exact k4)
      | (with_reducible exact k5))
    (first
      | (go_at_call 13; (with_reducible refine (awake_calls _ p0).mono ?_); rintro e u1 ⟨rfl, b1⟩; have z1 := z0.below b1; have k1 := four z1; have l1 := on l0 b1)
      | (go_at_call 14; (with_reducible refine (HM.out u1).mono ?_); rintro e u2 ⟨rfl, b2⟩; have z2 := z1.below b2; have k2 := four z2; have l2 := on l1 b2)
      | (go_at_call 15; (with_reducible refine (HR.out u2).mono ?_); rintro e u3 ⟨rfl, b3⟩; have z3 := z2.below b3; have k3 := four z3; have l3 := on l2 b3)
      | (go_at_call 16; (with_reducible refine (HP.out u3).mono ?_); rintro e u4 ⟨rfl, b4⟩; have z4 := z3.below b4; have k4 := four z4; have l4 := on l3 b4)
      | (go_at_call 17; (with_reducible refine (HQ.out u4).mono ?_); rintro e u5 ⟨rfl, b5⟩; have z5 := z4.below b5; have k5 := four z5; have l5 := on l4 b5))
  all_goals
    go_wp2
    go_ret
    exact ⟨by simp, l5⟩
end Go.Proofs.YtkanddmihmdagaaGreatDoor.Dc
