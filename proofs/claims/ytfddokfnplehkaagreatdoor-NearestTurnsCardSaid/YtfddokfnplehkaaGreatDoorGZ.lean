/- Texts of one layer, joined: Fo. -/
import Derived.Test.YtfddokfnplehkaaGreatDoorFC
import Derived.Test.YtfddokfnplehkaaGreatDoorGJ
set_option linter.unusedVariables false
set_option linter.unusedSimpArgs false
set_option linter.unusedSectionVars false
/- Layer 4's laws: NearestWide, NearestNarrow, NearestTurns. -/
set_option linter.unusedSimpArgs false
set_option linter.unusedVariables false
namespace Go.Proofs.YtfddokfnplehkaaGreatDoor.Nr
open Go.RowKit Go.Proofs.YtfddokfnplehkaaGreatDoor.Dig Go.Proofs.YtfddokfnplehkaaGreatDoor.W Go.Proofs.YtfddokfnplehkaaGreatDoor.Nat Go.Proofs.YtfddokfnplehkaaGreatDoor.Wh Go.Proofs.YtfddokfnplehkaaGreatDoor.Td Go.Proofs.YtfddokfnplehkaaGreatDoor.Bu Go.Proofs.YtfddokfnplehkaaGreatDoor.Tx Go.Proofs.YtfddokfnplehkaaGreatDoor.Sp
open Go.Proofs.YtfddokfnplehkaaGreatDoor.Rd (stand Formed fits mayB)
open Go.Proofs.YtfddokfnplehkaaGreatDoor.Dc (on dec str four)

theorem rmay_p (p : Pt) (w : World) (hl : p.2.2.1.length ≤ 9223372036854775807) : Calls Tryz.prog 13 #[.agg (pV p)] w fun e w' => e = .returned (.bool (pM p)) ∧ Below w.heap.size w w' := Dc.rmay_calls p.1 p.2.1 p.2.2.1 p.2.2.2 w
theorem pT_not_w {p : Pt} (hm : pM p = false) : pT_w p = 0 := by
  unfold pT_w tV_w
  exact if_pos hm
set_option maxHeartbeats 8000000 in
set_option maxRecDepth 100000 in
theorem law_off_w (c : Int) (g : Bool) (S : ByteArray) (x : Int) (w : World) (hp : Pow w)
    (HT : ∀ w1, Calls Tryz.prog 11 #[.agg #[.int .i64 c, .bool g, .string S, .int .i64 x]] w1 fun e w' => e = .returned (.tuple #[.int .u64 0, .int .i64 40]) ∧ Below w1.heap.size w1 w')
    (HM : ∀ w1, Calls Tryz.prog 13 #[.agg #[.int .i64 c, .bool g, .string S, .int .i64 x]] w1 fun e w' => e = .returned (.bool false) ∧ Below w1.heap.size w1 w') :
    Calls Tryz.prog 3 #[.agg #[.int .i64 c, .bool g, .string S, .int .i64 x]] w fun e w' => e = .returned (.bool true) ∧ Below w.heap.size w w' := by
  have b0 := alloc_below w (.cells #[.int .i64 c, .bool g, .string S, .int .i64 x] 23)
  have HB := Lib.hid b0
  have HK := Lib.hid (Bk.start w 23 #[.int .i64 c, .bool g, .string S, .int .i64 x])
  have HA := Lib.hid (fun w1 (b : Below w.heap.size w w1) => awake_calls w1 (hp.below b))
  replace HT := Lib.hid HT
  replace HM := Lib.hid HM
  clear b0 hp
  go_enter Tryz.func3, Tryz.ntmps3
  go_wp2_with (first
    | (go_at_call 11; (with_reducible refine (HT.out _).mono ?_); rintro e w1 ⟨rfl, b1⟩; have z1 := on HB.out b1; have q1 := HK.out.below b1; have k1 := four q1)
    | (go_at_call 12; (with_reducible refine (HA.out _ z1).mono ?_); rintro e w2 ⟨rfl, b2⟩; have z2 := on z1 b2; have q2 := q1.below b2; have k2 := four q2)
    | (go_at_call 13; first
      | (have tag := q3; (with_reducible refine (HM.out _).mono ?_); rintro e w4 ⟨rfl, b4⟩; have z4 := on z3 b4)
      | ((with_reducible refine (HM.out _).mono ?_); rintro e w3 ⟨rfl, b3⟩; have z3 := on z2 b3; have q3 := q2.below b3; have k3 := four q3)))
  go_ret
  exact ⟨rfl, z4⟩
set_option maxHeartbeats 8000000 in
set_option maxRecDepth 100000 in
theorem law_on_w (c : Int) (g : Bool) (S : ByteArray) (x : Int) (t : Nat) (ht : t < 18446744073709551616) (w : World) (hp : Pow w)
    (HT : ∀ w1, Calls Tryz.prog 11 #[.agg #[.int .i64 c, .bool g, .string S, .int .i64 x]] w1 fun e w' => e = .returned (.tuple #[.int .u64 (t : Nat), .int .i64 0]) ∧ Below w1.heap.size w1 w')
    (HR : ∀ w1, Calls Tryz.prog 14 #[.agg #[.int .i64 52, .int .i64 11], .agg #[.int .i64 c, .bool g, .string S, .int .i64 x]] w1 fun e w' => e = .returned (.int .u64 (t : Nat)) ∧ Below w1.heap.size w1 w')
    (HM : ∀ w1, Calls Tryz.prog 13 #[.agg #[.int .i64 c, .bool g, .string S, .int .i64 x]] w1 fun e w' => e = .returned (.bool true) ∧ Below w1.heap.size w1 w') :
    Calls Tryz.prog 3 #[.agg #[.int .i64 c, .bool g, .string S, .int .i64 x]] w fun e w' => e = .returned (.bool true) ∧ Below w.heap.size w w' := by
  have b0 := alloc_below w (.cells #[.int .i64 c, .bool g, .string S, .int .i64 x] 23)
  have HB := Lib.hid b0
  have HK := Lib.hid (Bk.start w 23 #[.int .i64 c, .bool g, .string S, .int .i64 x])
  have HA := Lib.hid (fun w1 (b : Below w.heap.size w w1) => awake_calls w1 (hp.below b))
  replace HT := Lib.hid HT
  replace HM := Lib.hid HM
  replace HR := Lib.hid HR
  clear b0 hp
  go_enter Tryz.func3, Tryz.ntmps3
  go_wp2_with (first
    | (go_at_call 11; (with_reducible refine (HT.out _).mono ?_); rintro e w1 ⟨rfl, b1⟩; have z1 := on HB.out b1; have q1 := HK.out.below b1; have k1 := four q1)
    | (go_at_call 12; (with_reducible refine (HA.out _ z1).mono ?_); rintro e w2 ⟨rfl, b2⟩; have z2 := on z1 b2; have q2 := q1.below b2; have k2 := four q2)
    | (go_at_call 13; first
      | (have tag := q3; (with_reducible refine (HM.out _).mono ?_); rintro e w4 ⟨rfl, b4⟩; have z4 := on z3 b4; have q4 := q3.below b4; have k4 := four q4)
      | ((with_reducible refine (HM.out _).mono ?_); rintro e w3 ⟨rfl, b3⟩; have z3 := on z2 b3; have q3 := q2.below b3; have k3 := four q3)))
  have d4 := q4.drew
  clear k1 k2 k3 k4 q1 q2 q3
  go_region_held3 (fun w' => w'.cell? ⟨w.heap.size, 0, none⟩ = some (.int .i64 c) ∧ w'.cell? ⟨w.heap.size, 1, none⟩ = some (.bool g) ∧ w'.cell? ⟨w.heap.size, 2, none⟩ = some (.string S) ∧ w'.cell? ⟨w.heap.size, 3, none⟩ = some (.int .i64 x))
    (first | (with_reducible exact four d4) | (with_reducible exact four d5) | (with_reducible exact four d6))
    (first
      | (go_at_call 15; (with_reducible refine (Sh.wide_calls _).mono ?_); rintro e v5 ⟨rfl, b5⟩; have d5 := d4.below b5)
      | (go_at_call 14; (with_reducible refine (HR.out _).mono ?_); rintro e v6 ⟨rfl, b6⟩; have d6 := d5.below b6))
  all_goals
    go_wp2
    go_ret
    exact ⟨by first | (simp; done) | (simp; rw [IntKind.wrap_u64]; omega), on (on (on z4 (Below.refl _ _).drew) b5) b6⟩
theorem nearestWide_calls (p : Pt) (w : World) (hp : Pow w) (hl : p.2.2.1.length ≤ 9223372036854775807) :
    Calls Tryz.prog 3 #[.agg (pV p)] w fun e w' => e = .returned (.bool true) ∧ Below w.heap.size w w' := by
  have HT := fun w1 => To64_calls p w1 hl
  have HM := fun w1 => rmay_p p w1 hl
  cases hm : pM p
  · unfold pE at HT
    simp only [hm, pT_not_w hm] at HT HM
    exact law_off_w p.1 p.2.1 ⟨p.2.2.1.toArray⟩ p.2.2.2 w hp HT HM
  · unfold pE at HT
    simp only [hm] at HT HM
    exact law_on_w p.1 p.2.1 ⟨p.2.2.1.toArray⟩ p.2.2.2 _ (pT_lt_w p) w hp HT (rTo_w p hm) HM
theorem pT_not_n {p : Pt} (hm : pM p = false) : pT_n p = 0 := by
  unfold pT_n tV_n
  exact if_pos hm
set_option maxHeartbeats 8000000 in
set_option maxRecDepth 100000 in
theorem law_off_n (c : Int) (g : Bool) (S : ByteArray) (x : Int) (w : World) (hp : Pow w)
    (HT : ∀ w1, Calls Tryz.prog 16 #[.agg #[.int .i64 c, .bool g, .string S, .int .i64 x]] w1 fun e w' => e = .returned (.tuple #[.int .u32 0, .int .i64 40]) ∧ Below w1.heap.size w1 w')
    (HM : ∀ w1, Calls Tryz.prog 13 #[.agg #[.int .i64 c, .bool g, .string S, .int .i64 x]] w1 fun e w' => e = .returned (.bool false) ∧ Below w1.heap.size w1 w') :
    Calls Tryz.prog 4 #[.agg #[.int .i64 c, .bool g, .string S, .int .i64 x]] w fun e w' => e = .returned (.bool true) ∧ Below w.heap.size w w' := by
  have b0 := alloc_below w (.cells #[.int .i64 c, .bool g, .string S, .int .i64 x] 23)
  have HB := Lib.hid b0
  have HK := Lib.hid (Bk.start w 23 #[.int .i64 c, .bool g, .string S, .int .i64 x])
  have HA := Lib.hid (fun w1 (b : Below w.heap.size w w1) => awake_calls w1 (hp.below b))
  replace HT := Lib.hid HT
  replace HM := Lib.hid HM
  clear b0 hp
  go_enter Tryz.func4, Tryz.ntmps4
  go_wp2_with (first
    | (go_at_call 16; (with_reducible refine (HT.out _).mono ?_); rintro e w1 ⟨rfl, b1⟩; have z1 := on HB.out b1; have q1 := HK.out.below b1; have k1 := four q1)
    | (go_at_call 12; (with_reducible refine (HA.out _ z1).mono ?_); rintro e w2 ⟨rfl, b2⟩; have z2 := on z1 b2; have q2 := q1.below b2; have k2 := four q2)
    | (go_at_call 13; first
      | (have tag := q3; (with_reducible refine (HM.out _).mono ?_); rintro e w4 ⟨rfl, b4⟩; have z4 := on z3 b4)
      | ((with_reducible refine (HM.out _).mono ?_); rintro e w3 ⟨rfl, b3⟩; have z3 := on z2 b3; have q3 := q2.below b3; have k3 := four q3)))
  go_ret
  exact ⟨rfl, z4⟩
set_option maxHeartbeats 8000000 in
set_option maxRecDepth 100000 in
theorem law_on_n (c : Int) (g : Bool) (S : ByteArray) (x : Int) (t : Nat) (ht : t < 4294967296) (w : World) (hp : Pow w)
    (HT : ∀ w1, Calls Tryz.prog 16 #[.agg #[.int .i64 c, .bool g, .string S, .int .i64 x]] w1 fun e w' => e = .returned (.tuple #[.int .u32 (t : Nat), .int .i64 0]) ∧ Below w1.heap.size w1 w')
    (HR : ∀ w1, Calls Tryz.prog 14 #[.agg #[.int .i64 23, .int .i64 8], .agg #[.int .i64 c, .bool g, .string S, .int .i64 x]] w1 fun e w' => e = .returned (.int .u64 (t : Nat)) ∧ Below w1.heap.size w1 w')
    (HM : ∀ w1, Calls Tryz.prog 13 #[.agg #[.int .i64 c, .bool g, .string S, .int .i64 x]] w1 fun e w' => e = .returned (.bool true) ∧ Below w1.heap.size w1 w') :
    Calls Tryz.prog 4 #[.agg #[.int .i64 c, .bool g, .string S, .int .i64 x]] w fun e w' => e = .returned (.bool true) ∧ Below w.heap.size w w' := by
  have b0 := alloc_below w (.cells #[.int .i64 c, .bool g, .string S, .int .i64 x] 23)
  have HB := Lib.hid b0
  have HK := Lib.hid (Bk.start w 23 #[.int .i64 c, .bool g, .string S, .int .i64 x])
  have HA := Lib.hid (fun w1 (b : Below w.heap.size w w1) => awake_calls w1 (hp.below b))
  replace HT := Lib.hid HT
  replace HM := Lib.hid HM
  replace HR := Lib.hid HR
  clear b0 hp
  go_enter Tryz.func4, Tryz.ntmps4
  go_wp2_with (first
    | (go_at_call 16; (with_reducible refine (HT.out _).mono ?_); rintro e w1 ⟨rfl, b1⟩; have z1 := on HB.out b1; have q1 := HK.out.below b1; have k1 := four q1)
    | (go_at_call 12; (with_reducible refine (HA.out _ z1).mono ?_); rintro e w2 ⟨rfl, b2⟩; have z2 := on z1 b2; have q2 := q1.below b2; have k2 := four q2)
    | (go_at_call 13; first
      | (have tag := q3; (with_reducible refine (HM.out _).mono ?_); rintro e w4 ⟨rfl, b4⟩; have z4 := on z3 b4; have q4 := q3.below b4; have k4 := four q4)
      | ((with_reducible refine (HM.out _).mono ?_); rintro e w3 ⟨rfl, b3⟩; have z3 := on z2 b3; have q3 := q2.below b3; have k3 := four q3)))
  have d4 := q4.drew
  clear k1 k2 k3 k4 q1 q2 q3
  go_region_held3 (fun w' => w'.cell? ⟨w.heap.size, 0, none⟩ = some (.int .i64 c) ∧ w'.cell? ⟨w.heap.size, 1, none⟩ = some (.bool g) ∧ w'.cell? ⟨w.heap.size, 2, none⟩ = some (.string S) ∧ w'.cell? ⟨w.heap.size, 3, none⟩ = some (.int .i64 x))
    (first | (with_reducible exact four d4) | (with_reducible exact four d5) | (with_reducible exact four d6))
    (first
      | (go_at_call 17; (with_reducible refine (Sh.narrow_calls _).mono ?_); rintro e v5 ⟨rfl, b5⟩; have d5 := d4.below b5)
      | (go_at_call 14; (with_reducible refine (HR.out _).mono ?_); rintro e v6 ⟨rfl, b6⟩; have d6 := d5.below b6))
  all_goals
    go_wp2
    go_ret
    exact ⟨by first | (simp; done) | (simp; rw [IntKind.wrap_u64]; omega), on (on (on z4 (Below.refl _ _).drew) b5) b6⟩
theorem nearestNarrow_calls (p : Pt) (w : World) (hp : Pow w) (hl : p.2.2.1.length ≤ 9223372036854775807) :
    Calls Tryz.prog 4 #[.agg (pV p)] w fun e w' => e = .returned (.bool true) ∧ Below w.heap.size w w' := by
  have HT := fun w1 => To32_calls p w1 hl
  have HM := fun w1 => rmay_p p w1 hl
  cases hm : pM p
  · unfold pE at HT
    simp only [hm, pT_not_n hm] at HT HM
    exact law_off_n p.1 p.2.1 ⟨p.2.2.1.toArray⟩ p.2.2.2 w hp HT HM
  · unfold pE at HT
    simp only [hm] at HT HM
    exact law_on_n p.1 p.2.1 ⟨p.2.2.1.toArray⟩ p.2.2.2 _ (pT_lt_n p) w hp HT (rTo_n p hm) HM
set_option maxHeartbeats 8000000 in
set_option maxRecDepth 100000 in
theorem nearestTurns_calls {wide narrow : Nat} (hw : wide < 18446744073709551616) (hn : narrow < 4294967296) (w : World) (hp : Pow w) :
    Calls Tryz.prog 5 #[.int .u64 (wide : Nat), .int .u32 (narrow : Nat)] w fun e w' => e = .returned (.bool true) ∧ Below w.heap.size w w' := by
  have HA := Lib.hid (awake_calls w hp)
  have H1 := Lib.hid (fun w1 (b : Below w.heap.size w w1) => Narrow_calls hw w1 (hp.below b))
  have H2 := Lib.hid (fun w1 => rNarrow_calls hw w1)
  have H3 := Lib.hid (fun w1 (b : Below w.heap.size w w1) => Widen_calls hn w1 (hp.below b))
  have H4 := Lib.hid (fun w1 => rWiden_calls hn w1)
  clear hp
  generalize pT_n (eP_w wide) = t at *
  generalize pT_w (eP_n narrow) = u at *
  go_enter Tryz.func5, Tryz.ntmps5
  go_wp2_with (first
    | (go_at_call 12; (with_reducible refine HA.out.mono ?_); rintro e w1 ⟨rfl, b1⟩)
    | (go_at_call 18; (with_reducible refine (H1.out _ b1).mono ?_); rintro e w2 ⟨rfl, b2⟩; have z2 := on b1 b2)
    | (go_at_call 19; (with_reducible refine (H2.out _).mono ?_); rintro e w3 ⟨rfl, b3⟩; have z3 := on z2 b3)
    | (go_at_call 20; (with_reducible refine (H3.out _ z3).mono ?_); rintro e w4 ⟨rfl, b4⟩; have z4 := on z3 b4)
    | (go_at_call 21; (with_reducible refine (H4.out _).mono ?_); rintro e w5 ⟨rfl, b5⟩; have z5 := on z4 b5))
  go_ret
  exact ⟨by simp, z5⟩
theorem nearestTurns_row (z y : Int) (h0 : 0 ≤ z) (h1 : z < 18446744073709551616) (h2 : 0 ≤ y) (h3 : y < 4294967296) (w : World) (hp : Pow w) :
    Calls Tryz.prog 5 #[.int .u64 z, .int .u32 y] w fun e w' => e = .returned (.bool true) ∧ Below w.heap.size w w' := by
  obtain ⟨n, rfl⟩ : ∃ n : Nat, z = n := ⟨z.toNat, by omega⟩
  obtain ⟨m, rfl⟩ : ∃ m : Nat, y = m := ⟨y.toNat, by omega⟩
  exact nearestTurns_calls (by omega) (by omega) w hp
end Go.Proofs.YtfddokfnplehkaaGreatDoor.Nr
