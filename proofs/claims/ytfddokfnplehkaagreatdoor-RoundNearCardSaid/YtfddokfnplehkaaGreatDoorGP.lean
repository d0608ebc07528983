/- Texts of one layer, joined: Du, Dv. -/
import Derived.Test.YtfddokfnplehkaaGreatDoorGO
set_option linter.unusedVariables false
set_option linter.unusedSimpArgs false
set_option linter.unusedSectionVars false
/- Layer 6's laws: awake. -/
set_option linter.unusedSimpArgs false
set_option linter.unusedVariables false
namespace Go.Proofs.YtfddokfnplehkaaGreatDoor.Dc
open Go.RowKit Go.Proofs.YtfddokfnplehkaaGreatDoor.Dig Go.Proofs.YtfddokfnplehkaaGreatDoor.W Go.Proofs.YtfddokfnplehkaaGreatDoor.Nat Go.Proofs.YtfddokfnplehkaaGreatDoor.Wh Go.Proofs.YtfddokfnplehkaaGreatDoor.Td Go.Proofs.YtfddokfnplehkaaGreatDoor.Bu Go.Proofs.YtfddokfnplehkaaGreatDoor.Tx Go.Proofs.YtfddokfnplehkaaGreatDoor.Sp Go.Proofs.YtfddokfnplehkaaGreatDoor.Rd

theorem num_calls (l : ByteArray) (x : Int) (w : World) : Calls Tryz.prog 58 #[.string l, .int .i64 x] w fun e w' => e = .returned (.agg #[.int .i64 0, .bool false, .string l, .int .i64 x]) ∧ Below w.heap.size w w' := by
  go_enter Tryz.func58, Tryz.ntmps58
  go_wp2
  exact bodyPost_ret (res_bk rfl _ (Bk.start w 23 #[.int .i64 0, .bool false, .string l, .int .i64 x]) rfl Tryz.underlying23 rfl (by kernel_rfl)) rfl ⟨rfl, alloc_below _ _⟩
theorem formed_3 : Formed [51] := ⟨by decide, ⟨51, [], rfl, rfl⟩, ⟨[], 51, rfl, rfl⟩⟩
theorem formed_1 : Formed [49] := ⟨by decide, ⟨49, [], rfl, rfl⟩, ⟨[], 49, rfl, rfl⟩⟩
theorem lit_a : atV 0 false [50, 53] (-1) 0 7 = (dec 0 false [51] 0, 0) := by
  have e1 : askE (mayB 0 false [50, 53] (-1)) 7 = 0 := by decide
  have e2 : rto 7 false (nv 0 [50, 53]) (-1) 1 0 = nv 0 [51] := by decide
  have e3 : pw 7 false [50, 53] (-1) 0 = some ([51], 0) := by
    unfold pw
    rw [e2]
    exact told_own formed_3 (by decide)
  unfold atV fin
  rw [e1, if_neg (by decide), if_neg (by decide), if_neg (by decide), show (7 : Int).toNat = 7 from rfl, e3]
  rfl
theorem lit_b : dgV 0 false [57, 57, 57, 53] 0 3 4 = (dec 0 false [49] 4, 0) := by
  have e1 : askE (mayB 0 false [57, 57, 57, 53] 0) 4 = 0 := by decide
  have e2 : rto 4 false (nv 0 [57, 57, 57, 53]) 0 1 1 = nv 0 [49] * 10 ^ 3 := by decide
  have e3 : pw 4 false [57, 57, 57, 53] 0 1 = some ([49], 4) := by
    unfold pw
    rw [e2, told_mul]
    exact told_own formed_1 (by decide)
  unfold dgV fin
  rw [e1, if_neg (by decide), if_neg (by decide), if_neg (by decide), show (4 : Int).toNat = 4 from rfl, show (([57, 57, 57, 53] : List UInt8).length : Int) + 0 - 3 = 1 from rfl, e3]
  rfl
theorem lit_c : stV 0 false [49, 50] (-1) 0 false [53] (-1) 4 = (dec 0 false [49] 0, 0) := by
  have e1 : askE (mayB 0 false [49, 50] (-1)) 4 = 0 := by decide
  have e2 : rto 4 false (nv 0 [49, 50]) (-1) (nv 0 [53]) (-1) * nv 0 [53] = nv 0 [49] * 10 ^ 1 := by decide
  have e3 : told false (rto 4 false (nv 0 [49, 50]) (-1) (nv 0 [53]) (-1) * nv 0 [53]) (-1) = some ([49], 0) := by
    rw [e2, told_mul]
    exact told_own formed_1 (by decide)
  unfold stV
  rw [if_neg (by decide), e1, if_neg (by decide), if_neg (by decide), if_neg (by decide), show (4 : Int).toNat = 4 from rfl, e3]
  rfl
theorem lit_d : atV 0 false [49] 0 0 8 = (dec 0 false [] 0, 60) := by
  have e1 : askE (mayB 0 false [49] 0) 8 = 60 := by decide
  unfold atV
  rw [e1, if_pos (by decide)]
theorem lit_e : dgV 0 false [49] 0 0 0 = (dec 0 false [] 0, 61) := by
  have e1 : askE (mayB 0 false [49] 0) 0 = 0 := by decide
  unfold dgV
  rw [e1, if_neg (by decide), if_pos (by decide)]
theorem lit_f : stV 0 false [49] 0 0 false [] 0 0 = (dec 0 false [] 0, 62) := by
  have e1 : askE (mayB 0 false [49] 0) 0 = 0 := by decide
  unfold stV
  rw [if_neg (by decide), e1, if_neg (by decide), if_pos (by decide)]
theorem lit_g : atV 0 false [49, 48] 0 0 0 = (dec 0 false [] 0, 52) := by
  have e1 : askE (mayB 0 false [49, 48] 0) 0 = 52 := by decide
  unfold atV
  rw [e1, if_pos (by decide)]
theorem aw_a (w : World) (hp : Pow w) : Calls Tryz.prog 57 #[.agg #[.int .i64 0, .bool false, .string ⟨#[50, 53]⟩, .int .i64 (-1)], .int .i64 0, .int .i64 7] w fun e w' => e = .returned (.tuple #[.agg #[.int .i64 0, .bool false, .string ⟨#[51]⟩, .int .i64 0], .int .i64 0]) ∧ Below w.heap.size w w' := by
  have e := at_calls 0 false [50, 53] (-1) 0 7 w hp (by decide)
  rw [lit_a] at e
  exact e
theorem aw_b (w : World) (hp : Pow w) : Calls Tryz.prog 59 #[.agg #[.int .i64 0, .bool false, .string ⟨#[57, 57, 57, 53]⟩, .int .i64 0], .int .i64 3, .int .i64 4] w fun e w' => e = .returned (.tuple #[.agg #[.int .i64 0, .bool false, .string ⟨#[49]⟩, .int .i64 4], .int .i64 0]) ∧ Below w.heap.size w w' := by
  have e := dig_calls 0 false [57, 57, 57, 53] 0 3 4 w hp (by decide)
  rw [lit_b] at e
  exact e
theorem aw_c (w : World) (hp : Pow w) : Calls Tryz.prog 36 #[.agg #[.int .i64 0, .bool false, .string ⟨#[49, 50]⟩, .int .i64 (-1)], .agg #[.int .i64 0, .bool false, .string ⟨#[53]⟩, .int .i64 (-1)], .int .i64 4] w fun e w' => e = .returned (.tuple #[.agg #[.int .i64 0, .bool false, .string ⟨#[49]⟩, .int .i64 0], .int .i64 0]) ∧ Below w.heap.size w w' := by
  have e := step_calls 0 false [49, 50] (-1) 0 false [53] (-1) 4 w hp (by decide) (by decide)
  rw [lit_c] at e
  exact e
theorem aw_d (w : World) (hp : Pow w) : Calls Tryz.prog 57 #[.agg #[.int .i64 0, .bool false, .string ⟨#[49]⟩, .int .i64 0], .int .i64 0, .int .i64 8] w fun e w' => e = .returned (.tuple #[.agg #[.int .i64 0, .bool false, .string ⟨#[]⟩, .int .i64 0], .int .i64 60]) ∧ Below w.heap.size w w' := by
  have e := at_calls 0 false [49] 0 0 8 w hp (by decide)
  rw [lit_d] at e
  exact e
theorem aw_e (w : World) (hp : Pow w) : Calls Tryz.prog 59 #[.agg #[.int .i64 0, .bool false, .string ⟨#[49]⟩, .int .i64 0], .int .i64 0, .int .i64 0] w fun e w' => e = .returned (.tuple #[.agg #[.int .i64 0, .bool false, .string ⟨#[]⟩, .int .i64 0], .int .i64 61]) ∧ Below w.heap.size w w' := by
  have e := dig_calls 0 false [49] 0 0 0 w hp (by decide)
  rw [lit_e] at e
  exact e
theorem aw_f (w : World) (hp : Pow w) : Calls Tryz.prog 36 #[.agg #[.int .i64 0, .bool false, .string ⟨#[49]⟩, .int .i64 0], .agg #[.int .i64 0, .bool false, .string ⟨#[]⟩, .int .i64 0], .int .i64 0] w fun e w' => e = .returned (.tuple #[.agg #[.int .i64 0, .bool false, .string ⟨#[]⟩, .int .i64 0], .int .i64 62]) ∧ Below w.heap.size w w' := by
  have e := step_calls 0 false [49] 0 0 false [] 0 0 w hp (by decide) (by decide)
  rw [lit_f] at e
  exact e
theorem aw_g (w : World) (hp : Pow w) : Calls Tryz.prog 57 #[.agg #[.int .i64 0, .bool false, .string ⟨#[49, 48]⟩, .int .i64 0], .int .i64 0, .int .i64 0] w fun e w' => e = .returned (.tuple #[.agg #[.int .i64 0, .bool false, .string ⟨#[]⟩, .int .i64 0], .int .i64 52]) ∧ Below w.heap.size w w' := by
  have e := at_calls 0 false [49, 48] 0 0 0 w hp (by decide)
  rw [lit_g] at e
  exact e
theorem keepA {w : World} {g1 g2 g3 : Nat} {t : TypeId} {a0 a1 a2 a3 c0 c1 c2 c3 d0 d1 d2 d3 : Value} (C : Bk w g1 t #[a0, a1, a2, a3]) (D : Bk w g2 t #[c0, c1, c2, c3]) (E : Bk w g3 t #[d0, d1, d2, d3]) :
    w.cell? ⟨g1, 0, none⟩ = some a0 ∧ w.cell? ⟨g1, 1, none⟩ = some a1 ∧ w.cell? ⟨g1, 2, none⟩ = some a2 ∧ w.cell? ⟨g1, 3, none⟩ = some a3 ∧ w.cell? ⟨g2, 0, none⟩ = some c0 ∧ w.cell? ⟨g2, 1, none⟩ = some c1 ∧ w.cell? ⟨g2, 2, none⟩ = some c2 ∧ w.cell? ⟨g2, 3, none⟩ = some c3 ∧ w.cell? ⟨g3, 0, none⟩ = some d0 ∧ w.cell? ⟨g3, 1, none⟩ = some d1 ∧ w.cell? ⟨g3, 2, none⟩ = some d2 ∧ w.cell? ⟨g3, 3, none⟩ = some d3 :=
  ⟨C.at_ 0 rfl, C.at_ 1 rfl, C.at_ 2 rfl, C.at_ 3 rfl, D.at_ 0 rfl, D.at_ 1 rfl, D.at_ 2 rfl, D.at_ 3 rfl, E.at_ 0 rfl, E.at_ 1 rfl, E.at_ 2 rfl, E.at_ 3 rfl⟩
attribute [local go_sem ↓] eq_dec
set_option maxHeartbeats 8000000 in
set_option maxRecDepth 100000 in
theorem awake_calls (w : World) (hp : Pow w) : Calls Tryz.prog 37 #[] w fun e w' => e = .returned (.bool true) ∧ Below w.heap.size w w' := by
  have P0 := Lib.hid hp
  have L0 := Lib.hid (Below.refl w.heap.size w)
  have ng := no_guard
  clear hp
  go_enter Tryz.func37, Tryz.ntmps37
  go_upto_region 2 with (first
    | (go_at_call 58; (with_reducible refine (num_calls _ _ _).mono ?_); rintro e u1 ⟨rfl, b1⟩)
    | (go_at_call 57; (with_reducible refine (aw_a u1 (P0.out.below b1)).mono ?_); rintro e v1 ⟨rfl, c1⟩))
  have P1 := Lib.hid (((P0.out.below b1).below c1).below (alloc_below v1 (.cells #[.int .i64 0, .bool false, .string ⟨#[51]⟩, .int .i64 0] 23)))
  have L1 := Lib.hid (on (on (on L0.out b1) c1) (alloc_below v1 (.cells #[.int .i64 0, .bool false, .string ⟨#[51]⟩, .int .i64 0] 23)))
  have Ba := Bk.start v1 23 #[.int .i64 0, .bool false, .string ⟨#[51]⟩, .int .i64 0]
  obtain ⟨V1, hV1⟩ : ∃ V, V = v1.alloc (.cells #[.int .i64 0, .bool false, .string ⟨#[51]⟩, .int .i64 0] 23) := ⟨_, rfl⟩
  rw [← hV1] at P1 L1 Ba ⊢
  generalize v1.heap.size = ga at *
  clear hV1 P0 L0 c1 b1
  go_upto_region 3 with (first
    | (go_at_call 58; (with_reducible refine (num_calls _ _ _).mono ?_); rintro e u2 ⟨rfl, b2⟩)
    | (go_at_call 59; (with_reducible refine (aw_b u2 (P1.out.below b2)).mono ?_); rintro e v2 ⟨rfl, c2⟩))
  have P2 := Lib.hid (((P1.out.below b2).below c2).below (alloc_below v2 (.cells #[.int .i64 0, .bool false, .string ⟨#[49]⟩, .int .i64 4] 23)))
  have L2 := Lib.hid (on (on (on L1.out b2) c2) (alloc_below v2 (.cells #[.int .i64 0, .bool false, .string ⟨#[49]⟩, .int .i64 4] 23)))
  replace Ba := ((Ba.below b2).below c2).alloc (.cells #[.int .i64 0, .bool false, .string ⟨#[49]⟩, .int .i64 4] 23)
  have Bb := Bk.start v2 23 #[.int .i64 0, .bool false, .string ⟨#[49]⟩, .int .i64 4]
  obtain ⟨V2, hV2⟩ : ∃ V, V = v2.alloc (.cells #[.int .i64 0, .bool false, .string ⟨#[49]⟩, .int .i64 4] 23) := ⟨_, rfl⟩
  rw [← hV2] at P2 L2 Ba Bb ⊢
  generalize v2.heap.size = gb at *
  clear hV2 P1 L1 c2 b2
  go_upto_region 4 with (first
    | (go_at_call 58; first
      | ((with_reducible refine (num_calls _ _ V2).mono ?_); rintro e u3 ⟨rfl, b3⟩)
      | ((with_reducible refine (num_calls _ _ u3).mono ?_); rintro e s3 ⟨rfl, f3⟩))
    | (go_at_call 36; (with_reducible refine (aw_c s3 ((P2.out.below b3).below f3)).mono ?_); rintro e v3 ⟨rfl, c3⟩))
  have P3 := Lib.hid ((((P2.out.below b3).below f3).below c3).below (alloc_below v3 (.cells #[.int .i64 0, .bool false, .string ⟨#[49]⟩, .int .i64 0] 23)))
  have L3 := Lib.hid (on (on (on (on L2.out b3) f3) c3) (alloc_below v3 (.cells #[.int .i64 0, .bool false, .string ⟨#[49]⟩, .int .i64 0] 23)))
  replace Ba := (((Ba.below b3).below f3).below c3).alloc (.cells #[.int .i64 0, .bool false, .string ⟨#[49]⟩, .int .i64 0] 23)
  replace Bb := (((Bb.below b3).below f3).below c3).alloc (.cells #[.int .i64 0, .bool false, .string ⟨#[49]⟩, .int .i64 0] 23)
  have Bc := Bk.start v3 23 #[.int .i64 0, .bool false, .string ⟨#[49]⟩, .int .i64 0]
  obtain ⟨V3, hV3⟩ : ∃ V, V = v3.alloc (.cells #[.int .i64 0, .bool false, .string ⟨#[49]⟩, .int .i64 0] 23) := ⟨_, rfl⟩
  rw [← hV3] at P3 L3 Ba Bb Bc ⊢
  generalize v3.heap.size = gc at *
  clear hV3 P2 L2 c3 b3 f3
  go_upto_region 5 with (first
    | (go_at_call 58; (with_reducible refine (num_calls _ _ _).mono ?_); rintro e u4 ⟨rfl, b4⟩)
    | (go_at_call 57; (with_reducible refine (aw_d u4 (P3.out.below b4)).mono ?_); rintro e v4 ⟨rfl, c4⟩))
  have P4 := Lib.hid (((P3.out.below b4).below c4).below (alloc_below v4 (.cells #[.int .i64 0, .bool false, .string ⟨#[]⟩, .int .i64 0] 23)))
  have L4 := Lib.hid (on (on (on L3.out b4) c4) (alloc_below v4 (.cells #[.int .i64 0, .bool false, .string ⟨#[]⟩, .int .i64 0] 23)))
  replace Ba := ((Ba.below b4).below c4).alloc (.cells #[.int .i64 0, .bool false, .string ⟨#[]⟩, .int .i64 0] 23)
  replace Bb := ((Bb.below b4).below c4).alloc (.cells #[.int .i64 0, .bool false, .string ⟨#[]⟩, .int .i64 0] 23)
  replace Bc := ((Bc.below b4).below c4).alloc (.cells #[.int .i64 0, .bool false, .string ⟨#[]⟩, .int .i64 0] 23)
  obtain ⟨V4, hV4⟩ : ∃ V, V = v4.alloc (.cells #[.int .i64 0, .bool false, .string ⟨#[]⟩, .int .i64 0] 23) := ⟨_, rfl⟩
  rw [← hV4] at P4 L4 Ba Bb Bc ⊢
  clear hV4 P3 L3 c4 b4
  go_upto_region 6 with (first
    | (go_at_call 58; (with_reducible refine (num_calls _ _ _).mono ?_); rintro e u5 ⟨rfl, b5⟩)
    | (go_at_call 59; (with_reducible refine (aw_e u5 (P4.out.below b5)).mono ?_); rintro e v5 ⟨rfl, c5⟩))
  have P5 := Lib.hid (((P4.out.below b5).below c5).below (alloc_below v5 (.cells #[.int .i64 0, .bool false, .string ⟨#[]⟩, .int .i64 0] 23)))
  have L5 := Lib.hid (on (on (on L4.out b5) c5) (alloc_below v5 (.cells #[.int .i64 0, .bool false, .string ⟨#[]⟩, .int .i64 0] 23)))
  replace Ba := ((Ba.below b5).below c5).alloc (.cells #[.int .i64 0, .bool false, .string ⟨#[]⟩, .int .i64 0] 23)
  replace Bb := ((Bb.below b5).below c5).alloc (.cells #[.int .i64 0, .bool false, .string ⟨#[]⟩, .int .i64 0] 23)
  replace Bc := ((Bc.below b5).below c5).alloc (.cells #[.int .i64 0, .bool false, .string ⟨#[]⟩, .int .i64 0] 23)
  obtain ⟨V5, hV5⟩ : ∃ V, V = v5.alloc (.cells #[.int .i64 0, .bool false, .string ⟨#[]⟩, .int .i64 0] 23) := ⟨_, rfl⟩
  rw [← hV5] at P5 L5 Ba Bb Bc ⊢
  clear hV5 P4 L4 c5 b5
  go_upto_region 7 with (first
    | (go_at_call 58; (with_reducible refine (num_calls _ _ _).mono ?_); rintro e u6 ⟨rfl, b6⟩)
    | (go_at_call 36; (with_reducible refine (aw_f u6 (P5.out.below b6)).mono ?_); rintro e v6 ⟨rfl, c6⟩))
  have P6 := Lib.hid (((P5.out.below b6).below c6).below (alloc_below v6 (.cells #[.int .i64 0, .bool false, .string ⟨#[]⟩, .int .i64 0] 23)))
  have L6 := Lib.hid (on (on (on L5.out b6) c6) (alloc_below v6 (.cells #[.int .i64 0, .bool false, .string ⟨#[]⟩, .int .i64 0] 23)))
  replace Ba := ((Ba.below b6).below c6).alloc (.cells #[.int .i64 0, .bool false, .string ⟨#[]⟩, .int .i64 0] 23)
  replace Bb := ((Bb.below b6).below c6).alloc (.cells #[.int .i64 0, .bool false, .string ⟨#[]⟩, .int .i64 0] 23)
  replace Bc := ((Bc.below b6).below c6).alloc (.cells #[.int .i64 0, .bool false, .string ⟨#[]⟩, .int .i64 0] 23)
  obtain ⟨V6, hV6⟩ : ∃ V, V = v6.alloc (.cells #[.int .i64 0, .bool false, .string ⟨#[]⟩, .int .i64 0] 23) := ⟨_, rfl⟩
  rw [← hV6] at P6 L6 Ba Bb Bc ⊢
  clear hV6 P5 L5 c6 b6
  go_upto_region 8 with (first
    | (go_at_call 58; (with_reducible refine (num_calls _ _ _).mono ?_); rintro e u7 ⟨rfl, b7⟩)
    | (go_at_call 57; (with_reducible refine (aw_g u7 (P6.out.below b7)).mono ?_); rintro e v7 ⟨rfl, c7⟩))
  have P7 := Lib.hid (((P6.out.below b7).below c7).below (alloc_below v7 (.cells #[.int .i64 0, .bool false, .string ⟨#[]⟩, .int .i64 0] 23)))
  have L7 := Lib.hid (on (on (on L6.out b7) c7) (alloc_below v7 (.cells #[.int .i64 0, .bool false, .string ⟨#[]⟩, .int .i64 0] 23)))
  replace Ba := ((Ba.below b7).below c7).alloc (.cells #[.int .i64 0, .bool false, .string ⟨#[]⟩, .int .i64 0] 23)
  replace Bb := ((Bb.below b7).below c7).alloc (.cells #[.int .i64 0, .bool false, .string ⟨#[]⟩, .int .i64 0] 23)
  replace Bc := ((Bc.below b7).below c7).alloc (.cells #[.int .i64 0, .bool false, .string ⟨#[]⟩, .int .i64 0] 23)
  obtain ⟨V7, hV7⟩ : ∃ V, V = v7.alloc (.cells #[.int .i64 0, .bool false, .string ⟨#[]⟩, .int .i64 0] 23) := ⟨_, rfl⟩
  rw [← hV7] at P7 L7 Ba Bb Bc ⊢
  clear hV7 P6 L6 c7 b7
  have A8 := Ba.drew
  have B8 := Bb.drew
  have C8 := Bc.drew
  have l8 := L7.out.drew
  have k8 := keepA A8 B8 C8
  clear P7
  go_region_held3 (fun w' => w'.cell? ⟨ga, 0, none⟩ = some (.int .i64 0) ∧ w'.cell? ⟨ga, 1, none⟩ = some (.bool false) ∧ w'.cell? ⟨ga, 2, none⟩ = some (.string ⟨#[51]⟩) ∧ w'.cell? ⟨ga, 3, none⟩ = some (.int .i64 0) ∧ w'.cell? ⟨gb, 0, none⟩ = some (.int .i64 0) ∧ w'.cell? ⟨gb, 1, none⟩ = some (.bool false) ∧ w'.cell? ⟨gb, 2, none⟩ = some (.string ⟨#[49]⟩) ∧ w'.cell? ⟨gb, 3, none⟩ = some (.int .i64 4) ∧ w'.cell? ⟨gc, 0, none⟩ = some (.int .i64 0) ∧ w'.cell? ⟨gc, 1, none⟩ = some (.bool false) ∧ w'.cell? ⟨gc, 2, none⟩ = some (.string ⟨#[49]⟩) ∧ w'.cell? ⟨gc, 3, none⟩ = some (.int .i64 0))
    (first
      | (with_reducible exact k8)
      | (with_reducible exact k9)
      | (with_reducible exact k10)
      | (with_reducible exact k11))
    ((go_at_call 58; first
      | ((with_reducible refine (num_calls _ _ V7.drew).mono ?_); rintro e u9 ⟨rfl, b9⟩; have A9 := A8.below b9; have B9 := B8.below b9; have C9 := C8.below b9; have k9 := keepA A9 B9 C9; have l9 := on l8 b9)
      | ((with_reducible refine (num_calls _ _ u9).mono ?_); rintro e u10 ⟨rfl, b10⟩; have A10 := A9.below b10; have B10 := B9.below b10; have C10 := C9.below b10; have k10 := keepA A10 B10 C10; have l10 := on l9 b10)
      | ((with_reducible refine (num_calls _ _ u10).mono ?_); rintro e u11 ⟨rfl, b11⟩; have k11 := keepA (A10.below b11) (B10.below b11) (C10.below b11); have l11 := on l10 b11)))
  go_wp2
  go_ret
  exact ⟨rfl, l11⟩
end Go.Proofs.YtfddokfnplehkaaGreatDoor.Dc

/- Layer 6's laws: RoundPlaces. -/
set_option linter.unusedSimpArgs false
set_option linter.unusedVariables false
namespace Go.Proofs.YtfddokfnplehkaaGreatDoor.Dc
open Go.RowKit Go.Proofs.YtfddokfnplehkaaGreatDoor.Dig Go.Proofs.YtfddokfnplehkaaGreatDoor.W Go.Proofs.YtfddokfnplehkaaGreatDoor.Nat Go.Proofs.YtfddokfnplehkaaGreatDoor.Wh Go.Proofs.YtfddokfnplehkaaGreatDoor.Td Go.Proofs.YtfddokfnplehkaaGreatDoor.Bu Go.Proofs.YtfddokfnplehkaaGreatDoor.Tx Go.Proofs.YtfddokfnplehkaaGreatDoor.Sp Go.Proofs.YtfddokfnplehkaaGreatDoor.Rd
theorem fin_four (mode c : Int) (g : Bool) (l : List UInt8) (x place : Int) : ∃ c4 g4 l4 x4, (fin mode c g l x place).1 = #[.int .i64 c4, .bool g4, .string l4, .int .i64 x4] := by
  unfold fin
  split
  · exact ⟨_, _, _, _, rfl⟩
  · obtain ⟨g', l', x', e⟩ := oc_four g (pw mode.toNat g l x place)
    exact ⟨0, g', l', x', e⟩
theorem atV_four (c : Int) (g : Bool) (l : List UInt8) (x place mode : Int) : ∃ c4 g4 l4 x4, (atV c g l x place mode).1 = #[.int .i64 c4, .bool g4, .string l4, .int .i64 x4] := by
  unfold atV
  split
  · exact ⟨_, _, _, _, rfl⟩
  · split
    · exact ⟨_, _, _, _, rfl⟩
    · exact fin_four ..
theorem dgV_four (c : Int) (g : Bool) (l : List UInt8) (x n mode : Int) : ∃ c4 g4 l4 x4, (dgV c g l x n mode).1 = #[.int .i64 c4, .bool g4, .string l4, .int .i64 x4] := by
  unfold dgV
  split
  · exact ⟨_, _, _, _, rfl⟩
  · split
    · exact ⟨_, _, _, _, rfl⟩
    · exact fin_four ..
attribute [local go_sem ↓] eq_dec
end Go.Proofs.YtfddokfnplehkaaGreatDoor.Dc
