/- Texts of one layer, joined: Ia, Ib, Ic, Id, Ie, If. -/
import Derived.Test.YtfddokfnplehkaaGreatDoorHA
import Derived.Test.YtfddokfnplehkaaGreatDoorGF
import Derived.Deep.DeepCutAuto
import Derived.Deep.CutBlock
set_option linter.unusedVariables false
set_option linter.unusedSimpArgs false
set_option linter.unusedSectionVars false
/- Layer 3, the document: the parts of a float. -/
set_option linter.unusedSimpArgs false
set_option linter.unusedVariables false
namespace Go.Proofs.YtfddokfnplehkaaGreatDoor.Sh
open Go.RowKit Go.Proofs.YtfddokfnplehkaaGreatDoor.Dig Go.Proofs.YtfddokfnplehkaaGreatDoor.W Go.Proofs.YtfddokfnplehkaaGreatDoor.Nat Go.Proofs.YtfddokfnplehkaaGreatDoor.Wh Go.Proofs.YtfddokfnplehkaaGreatDoor.Td Go.Proofs.YtfddokfnplehkaaGreatDoor.Bu Go.Proofs.YtfddokfnplehkaaGreatDoor.Tx Go.Proofs.YtfddokfnplehkaaGreatDoor.Sp

theorem blk1 (w : World) (cs : Array Value) (t : TypeId) (n : Nat) : Bk ((w.alloc (.cells cs t)).drewN n) w.heap.size t cs ∧ Below w.heap.size w ((w.alloc (.cells cs t)).drewN n) :=
  ⟨(Bk.start w t cs).drewN n, (alloc_below w _).trans (((drewN_below _ _)).mono (by simp))⟩
theorem keep2 {w : World} {g : Nat} {t : TypeId} {M X : Int} (C1 : Bk w g t #[.int .i64 M, .int .i64 X]) : w.cell? ⟨g, 0, none⟩ = some (.int .i64 M) ∧ w.cell? ⟨g, 1, none⟩ = some (.int .i64 X) := ⟨C1.at_ 0 rfl, C1.at_ 1 rfl⟩
theorem bias_w (w : World) :
    Calls Tryz.prog 43 #[.agg #[.int .i64 52, .int .i64 11]] w fun e w' => e = .returned (.int .i64 1074) ∧ Below w.heap.size w w' := by
  go_enter Tryz.func43, Tryz.ntmps43
  go_wp2
  go_quiet (fail)
  go_wp2
  go_ret
  exact ⟨rfl, (blk1 w _ _ _).2⟩
theorem Fl.and1_w {bits x m : Nat} {ng : Bool} (H : Fl 52 11 bits ng x m) : (Go.bits .and .u64 ((bits : Int) / 9223372036854775808) 1 == 1) = ng := by
  have h1 := H.lt; have h2 := H.neg
  simp only [Nat.reducePow, Nat.reduceAdd] at h1 h2
  have := and_low (bits / 9223372036854775808) 1 (by omega) (by omega)
  rw [show ((bits : Int) / 9223372036854775808) = ((bits / 9223372036854775808 : Nat) : Int) by omega, show (1 : Int) = ((2 ^ 1 - 1 : Nat) : Int) from rfl, this]
  cases ng <;> simp at h2 ⊢ <;> omega
set_option maxHeartbeats 4000000 in
set_option maxRecDepth 100000 in
theorem rparts_inf_w {bits : Nat} {ng : Bool} (H : Fl 52 11 bits ng 2047 0) (w : World) :
    Calls Tryz.prog 73 #[.agg #[.int .i64 52, .int .i64 11], .int .u64 (bits : Nat)] w fun e w' =>
      e = .returned (.tuple #[.bool ng, .int .i64 1, .int .u64 0, .int .i64 0]) ∧ Below w.heap.size w w' := by
  obtain ⟨_, e1, e2, e3, x1, m1⟩ := H.facts_w
  have e0 := H.and1_w
  go_enter Tryz.func73, Tryz.ntmps73
  go_wp2
  go_quiet (fail)
  go_wp2
  refine bodyPost_ret (v := .tuple #[.bool ng, .int .i64 1, .int .u64 0, .int .i64 0]) (by simp [results, Tryz.results73, go_sem]) rfl ⟨rfl, (blk1 w _ _ _).2⟩
set_option maxHeartbeats 4000000 in
set_option maxRecDepth 100000 in
theorem rparts_nan_w {bits m : Nat} {ng : Bool} (H : Fl 52 11 bits ng 2047 m) (hm : m ≠ 0) (w : World) :
    Calls Tryz.prog 73 #[.agg #[.int .i64 52, .int .i64 11], .int .u64 (bits : Nat)] w fun e w' =>
      e = .returned (.tuple #[.bool false, .int .i64 2, .int .u64 0, .int .i64 0]) ∧ Below w.heap.size w w' := by
  obtain ⟨_, e1, e2, e3, x1, m1⟩ := H.facts_w
  have e0 := H.and1_w
  have h0 : ((m : Int) == 0) = false := by simp; omega
  have h0' : (m == 0) = false := by simp; omega
  go_enter Tryz.func73, Tryz.ntmps73
  go_wp2
  go_quiet (fail)
  go_wp2
  refine bodyPost_ret (v := .tuple #[.bool false, .int .i64 2, .int .u64 0, .int .i64 0]) (by simp [results, Tryz.results73, go_sem]) rfl ⟨rfl, (blk1 w _ _ _).2⟩
set_option maxHeartbeats 4000000 in
set_option maxRecDepth 100000 in
theorem rparts_sub_w {bits m : Nat} {ng : Bool} (H : Fl 52 11 bits ng 0 m) (w : World) :
    Calls Tryz.prog 73 #[.agg #[.int .i64 52, .int .i64 11], .int .u64 (bits : Nat)] w fun e w' =>
      e = .returned (.tuple #[.bool ng, .int .i64 0, .int .u64 (m : Nat), .int .i64 (-1074)]) ∧ Below w.heap.size w w' := by
  obtain ⟨_, e1, e2, e3, x1, m1⟩ := H.facts_w
  have e0 := H.and1_w
  go_enter Tryz.func73, Tryz.ntmps73
  go_wp2
  go_quiet (fail)
  obtain ⟨B1, bl⟩ := blk1 w #[.int .i64 52, .int .i64 11] 32 nq
  generalize (w.alloc (.cells #[.int .i64 52, .int .i64 11] 32)).drewN nq = Y at *
  have k0 := B1.at_ 0 rfl
  have k1 := B1.at_ 1 rfl
  go_wp2_with (go_at_call 43; (with_reducible refine (bias_w _).mono ?_); rintro e w1 ⟨rfl, b1⟩)
  refine bodyPost_ret (v := .tuple #[.bool ng, .int .i64 0, .int .u64 (m : Nat), .int .i64 (-1074)]) (by simp [results, Tryz.results73, go_sem]) rfl ⟨rfl, on bl b1⟩
set_option maxHeartbeats 4000000 in
set_option maxRecDepth 100000 in
theorem rparts_norm_w {bits x m : Nat} {ng : Bool} (H : Fl 52 11 bits ng (x + 1) m) (hx : x + 1 < 2047) (w : World) :
    Calls Tryz.prog 73 #[.agg #[.int .i64 52, .int .i64 11], .int .u64 (bits : Nat)] w fun e w' =>
      e = .returned (.tuple #[.bool ng, .int .i64 0, .int .u64 ((m + 4503599627370496 : Nat) : Int), .int .i64 ((x : Int) - 1074)]) ∧ Below w.heap.size w w' := by
  obtain ⟨_, e1, e2, e3, x1, m1⟩ := H.facts_w
  have e0 := H.and1_w
  have x2 : ((x : Int) + 1 == 2047) = false := by simp; omega
  have x3 : ((x : Int) + 1 == 0) = false := by simp; omega
  have s1 : IntKind.i64.wrap ((x : Int) + 1 - 1) = (x : Int) := by rw [IntWalk.i64_in _ (by omega)]; omega
  have s3 : IntKind.i64.wrap (x : Int) = (x : Int) := IntWalk.i64_in _ (by omega)
  have s2 : IntKind.i64.wrap ((x : Int) - 1074) = (x : Int) - 1074 := IntWalk.i64_in _ (by omega)
  have S1 := Lib.hid s1
  have S2 := Lib.hid s2
  have S3 := Lib.hid s3
  clear s1 s2 s3
  go_enter Tryz.func73, Tryz.ntmps73
  go_wp2
  go_quiet (fail)
  obtain ⟨B1, bl⟩ := blk1 w #[.int .i64 52, .int .i64 11] 32 nq
  generalize (w.alloc (.cells #[.int .i64 52, .int .i64 11] 32)).drewN nq = Y at *
  have k0 := B1.at_ 0 rfl
  have k1 := B1.at_ 1 rfl
  go_wp2_with fail
  clear k0 k1 x2 x3 e1 e2 e0
  have s1 := S1.out
  have s2 := S2.out
  have s3 := S3.out
  have kp : Y.drew.cell? ⟨w.heap.size, 0, none⟩ = some (.int .i64 52) ∧ Y.drew.cell? ⟨w.heap.size, 1, none⟩ = some (.int .i64 11) := ⟨B1.drew.at_ 0 rfl, B1.drew.at_ 1 rfl⟩
  go_region_held3 (fun w' => w'.cell? ⟨w.heap.size, 0, none⟩ = some (.int .i64 52) ∧ w'.cell? ⟨w.heap.size, 1, none⟩ = some (.int .i64 11))
    (first | (with_reducible exact kp) | (with_reducible exact kq))
    (first | (go_at_call 43; (with_reducible refine (bias_w _).mono ?_); rintro e w1 ⟨rfl, b1⟩; have C1 := B1.drew.below b1; have kq := keep2 C1))
  have p1 : IntKind.u64.wrap 4503599627370496 = 4503599627370496 := by decide
  all_goals
    go_wp2
    refine bodyPost_ret (v := .tuple #[.bool ng, .int .i64 0, .int .u64 ((m + 4503599627370496 : Nat) : Int), .int .i64 ((x : Int) - 1074)]) (by simp [results, Tryz.results73, go_sem, p1, e3]) rfl ⟨rfl, on (on bl (Below.refl _ _).drew) b1⟩
theorem rparts_fin_w {bits b : Nat} {ng : Bool} (H : Fb 9223372036854775808 bits ng b) (hx : b / 4503599627370496 < 2047) (w : World) :
    Calls Tryz.prog 73 #[.agg #[.int .i64 52, .int .i64 11], .int .u64 (bits : Nat)] w fun e w' =>
      e = .returned (.tuple #[.bool ng, .int .i64 0, .int .u64 (am 52 b : Nat), .int .i64 (((b / 4503599627370496 - 1 : Nat) : Int) - 1074)]) ∧ Below w.heap.size w w' := by
  have hF := H.fl_w
  unfold am
  simp only [Nat.reducePow]
  obtain ⟨x, hx'⟩ : ∃ x, x = b / 4503599627370496 := ⟨_, rfl⟩
  rw [← hx'] at hF hx ⊢
  cases x with
  | zero => rw [if_pos rfl]; exact rparts_sub_w hF w
  | succ x => rw [if_neg (by omega)]; exact rparts_norm_w hF hx w
theorem bias_n (w : World) :
    Calls Tryz.prog 43 #[.agg #[.int .i64 23, .int .i64 8]] w fun e w' => e = .returned (.int .i64 149) ∧ Below w.heap.size w w' := by
  go_enter Tryz.func43, Tryz.ntmps43
  go_wp2
  go_quiet (fail)
  go_wp2
  go_ret
  exact ⟨rfl, (blk1 w _ _ _).2⟩
theorem Fl.and1_n {bits x m : Nat} {ng : Bool} (H : Fl 23 8 bits ng x m) : (Go.bits .and .u64 ((bits : Int) / 2147483648) 1 == 1) = ng := by
  have h1 := H.lt; have h2 := H.neg
  simp only [Nat.reducePow, Nat.reduceAdd] at h1 h2
  have := and_low (bits / 2147483648) 1 (by omega) (by omega)
  rw [show ((bits : Int) / 2147483648) = ((bits / 2147483648 : Nat) : Int) by omega, show (1 : Int) = ((2 ^ 1 - 1 : Nat) : Int) from rfl, this]
  cases ng <;> simp at h2 ⊢ <;> omega
set_option maxHeartbeats 4000000 in
set_option maxRecDepth 100000 in
theorem rparts_inf_n {bits : Nat} {ng : Bool} (H : Fl 23 8 bits ng 255 0) (w : World) :
    Calls Tryz.prog 73 #[.agg #[.int .i64 23, .int .i64 8], .int .u64 (bits : Nat)] w fun e w' =>
      e = .returned (.tuple #[.bool ng, .int .i64 1, .int .u64 0, .int .i64 0]) ∧ Below w.heap.size w w' := by
  obtain ⟨_, e1, e2, e3, x1, m1⟩ := H.facts_n
  have e0 := H.and1_n
  go_enter Tryz.func73, Tryz.ntmps73
  go_wp2
  go_quiet (fail)
  go_wp2
  refine bodyPost_ret (v := .tuple #[.bool ng, .int .i64 1, .int .u64 0, .int .i64 0]) (by simp [results, Tryz.results73, go_sem]) rfl ⟨rfl, (blk1 w _ _ _).2⟩
set_option maxHeartbeats 4000000 in
set_option maxRecDepth 100000 in
theorem rparts_nan_n {bits m : Nat} {ng : Bool} (H : Fl 23 8 bits ng 255 m) (hm : m ≠ 0) (w : World) :
    Calls Tryz.prog 73 #[.agg #[.int .i64 23, .int .i64 8], .int .u64 (bits : Nat)] w fun e w' =>
      e = .returned (.tuple #[.bool false, .int .i64 2, .int .u64 0, .int .i64 0]) ∧ Below w.heap.size w w' := by
  obtain ⟨_, e1, e2, e3, x1, m1⟩ := H.facts_n
  have e0 := H.and1_n
  have h0 : ((m : Int) == 0) = false := by simp; omega
  have h0' : (m == 0) = false := by simp; omega
  go_enter Tryz.func73, Tryz.ntmps73
  go_wp2
  go_quiet (fail)
  go_wp2
  refine bodyPost_ret (v := .tuple #[.bool false, .int .i64 2, .int .u64 0, .int .i64 0]) (by simp [results, Tryz.results73, go_sem]) rfl ⟨rfl, (blk1 w _ _ _).2⟩
set_option maxHeartbeats 4000000 in
set_option maxRecDepth 100000 in
theorem rparts_sub_n {bits m : Nat} {ng : Bool} (H : Fl 23 8 bits ng 0 m) (w : World) :
    Calls Tryz.prog 73 #[.agg #[.int .i64 23, .int .i64 8], .int .u64 (bits : Nat)] w fun e w' =>
      e = .returned (.tuple #[.bool ng, .int .i64 0, .int .u64 (m : Nat), .int .i64 (-149)]) ∧ Below w.heap.size w w' := by
  obtain ⟨_, e1, e2, e3, x1, m1⟩ := H.facts_n
  have e0 := H.and1_n
  go_enter Tryz.func73, Tryz.ntmps73
  go_wp2
  go_quiet (fail)
  obtain ⟨B1, bl⟩ := blk1 w #[.int .i64 23, .int .i64 8] 32 nq
  generalize (w.alloc (.cells #[.int .i64 23, .int .i64 8] 32)).drewN nq = Y at *
  have k0 := B1.at_ 0 rfl
  have k1 := B1.at_ 1 rfl
  go_wp2_with (go_at_call 43; (with_reducible refine (bias_n _).mono ?_); rintro e w1 ⟨rfl, b1⟩)
  refine bodyPost_ret (v := .tuple #[.bool ng, .int .i64 0, .int .u64 (m : Nat), .int .i64 (-149)]) (by simp [results, Tryz.results73, go_sem]) rfl ⟨rfl, on bl b1⟩
set_option maxHeartbeats 4000000 in
set_option maxRecDepth 100000 in
theorem rparts_norm_n {bits x m : Nat} {ng : Bool} (H : Fl 23 8 bits ng (x + 1) m) (hx : x + 1 < 255) (w : World) :
    Calls Tryz.prog 73 #[.agg #[.int .i64 23, .int .i64 8], .int .u64 (bits : Nat)] w fun e w' =>
      e = .returned (.tuple #[.bool ng, .int .i64 0, .int .u64 ((m + 8388608 : Nat) : Int), .int .i64 ((x : Int) - 149)]) ∧ Below w.heap.size w w' := by
  obtain ⟨_, e1, e2, e3, x1, m1⟩ := H.facts_n
  have e0 := H.and1_n
  have x2 : ((x : Int) + 1 == 255) = false := by simp; omega
  have x3 : ((x : Int) + 1 == 0) = false := by simp; omega
  have s1 : IntKind.i64.wrap ((x : Int) + 1 - 1) = (x : Int) := by rw [IntWalk.i64_in _ (by omega)]; omega
  have s3 : IntKind.i64.wrap (x : Int) = (x : Int) := IntWalk.i64_in _ (by omega)
  have s2 : IntKind.i64.wrap ((x : Int) - 149) = (x : Int) - 149 := IntWalk.i64_in _ (by omega)
  have S1 := Lib.hid s1
  have S2 := Lib.hid s2
  have S3 := Lib.hid s3
  clear s1 s2 s3
  go_enter Tryz.func73, Tryz.ntmps73
  go_wp2
  go_quiet (fail)
  obtain ⟨B1, bl⟩ := blk1 w #[.int .i64 23, .int .i64 8] 32 nq
  generalize (w.alloc (.cells #[.int .i64 23, .int .i64 8] 32)).drewN nq = Y at *
  have k0 := B1.at_ 0 rfl
  have k1 := B1.at_ 1 rfl
  go_wp2_with fail
  clear k0 k1 x2 x3 e1 e2 e0
  have s1 := S1.out
  have s2 := S2.out
  have s3 := S3.out
  have kp : Y.drew.cell? ⟨w.heap.size, 0, none⟩ = some (.int .i64 23) ∧ Y.drew.cell? ⟨w.heap.size, 1, none⟩ = some (.int .i64 8) := ⟨B1.drew.at_ 0 rfl, B1.drew.at_ 1 rfl⟩
  go_region_held3 (fun w' => w'.cell? ⟨w.heap.size, 0, none⟩ = some (.int .i64 23) ∧ w'.cell? ⟨w.heap.size, 1, none⟩ = some (.int .i64 8))
    (first | (with_reducible exact kp) | (with_reducible exact kq))
    (first | (go_at_call 43; (with_reducible refine (bias_n _).mono ?_); rintro e w1 ⟨rfl, b1⟩; have C1 := B1.drew.below b1; have kq := keep2 C1))
  have p1 : IntKind.u64.wrap 8388608 = 8388608 := by decide
  all_goals
    go_wp2
    refine bodyPost_ret (v := .tuple #[.bool ng, .int .i64 0, .int .u64 ((m + 8388608 : Nat) : Int), .int .i64 ((x : Int) - 149)]) (by simp [results, Tryz.results73, go_sem, p1, e3]) rfl ⟨rfl, on (on bl (Below.refl _ _).drew) b1⟩
theorem rparts_fin_n {bits b : Nat} {ng : Bool} (H : Fb 2147483648 bits ng b) (hx : b / 8388608 < 255) (w : World) :
    Calls Tryz.prog 73 #[.agg #[.int .i64 23, .int .i64 8], .int .u64 (bits : Nat)] w fun e w' =>
      e = .returned (.tuple #[.bool ng, .int .i64 0, .int .u64 (am 23 b : Nat), .int .i64 (((b / 8388608 - 1 : Nat) : Int) - 149)]) ∧ Below w.heap.size w w' := by
  have hF := H.fl_n
  unfold am
  simp only [Nat.reducePow]
  obtain ⟨x, hx'⟩ : ∃ x, x = b / 8388608 := ⟨_, rfl⟩
  rw [← hx'] at hF hx ⊢
  cases x with
  | zero => rw [if_pos rfl]; exact rparts_sub_n hF w
  | succ x => rw [if_neg (by omega)]; exact rparts_norm_n hF hx w
end Go.Proofs.YtfddokfnplehkaaGreatDoor.Sh

/- Layer 3, the document: limb, Amount, within. -/
set_option linter.unusedSimpArgs false
set_option linter.unusedVariables false
namespace Go.Proofs.YtfddokfnplehkaaGreatDoor.Sh
open Go.RowKit Go.Proofs.YtfddokfnplehkaaGreatDoor.Dig Go.Proofs.YtfddokfnplehkaaGreatDoor.W Go.Proofs.YtfddokfnplehkaaGreatDoor.Nat Go.Proofs.YtfddokfnplehkaaGreatDoor.Wh Go.Proofs.YtfddokfnplehkaaGreatDoor.Td Go.Proofs.YtfddokfnplehkaaGreatDoor.Bu Go.Proofs.YtfddokfnplehkaaGreatDoor.Tx Go.Proofs.YtfddokfnplehkaaGreatDoor.Sp
open Go.Proofs.YtfddokfnplehkaaGreatDoor.Rf (V V_two V_pos)

theorem rone_len {m : Nat} (h : m < U) : (digs V m).length ≤ 4 := (digs_length_le V_two _ _).2 (by unfold U at h; unfold Rf.V; omega)
theorem limb_calls (m : Nat) (x : Int) (w : World) (hm : m < U) (hx : x = (m : Nat)) :
    Calls Tryz.prog 75 #[.int .u64 x] w (Gives w .u32 (digs V m)) := by
  subst hx
  have e := Rf.in_calls (some ⟨w.heap.size, 0, none⟩) 1 1 [m] _ (lit_one w m) (fun y hy => by rw [List.mem_singleton] at hy; rw [hy]; exact hm) (by omega)
  rw [show val U [m] = m by rw [val_cons, val_nil, Nat.mul_zero, Nat.add_zero]] at e
  have HE := Lib.hid e
  have HB := Lib.hid (alloc_below w (.cells #[.int .u64 (m : Nat)] 24))
  clear e
  go_enter Tryz.func75, Tryz.ntmps75
  go_wp2_with (go_at_call 112; (with_reducible refine HE.out.mono ?_); rintro e w1 ⟨A1, n1, c1, rfl, r1, _, b1⟩)
  go_ret
  exact ⟨_, _, _, rfl, r1, on HB.out b1⟩
theorem rshl_e (A : Option Addr) (n c m k : Nat) (w : World) (h : SI w .u32 A n c (digs V m)) (hn : n ≤ 4398046511104) (hk : k ≤ 65536) :
    Calls Tryz.prog 50 #[.slice A n c, .int .i64 (k : Nat)] w (Rf.GivesF w .u32 (digs V (m * 2 ^ k))) := by
  have e := Rf.shl_calls A n c (digs V m) k w h (digs_lt V_two m) hn hk
  rw [val_digs V_two] at e
  exact e
theorem rpow5e (n : Nat) (w : World) (hn : n ≤ 1048576) : Calls Tryz.prog 25 #[.int .i64 5, .int .i64 (n : Nat)] w (Gives w .u32 (digs V (5 ^ n))) := rpow_calls 5 n w (by omega) (by omega) hn
theorem rpow10e (n : Nat) (w : World) (hn : n ≤ 1048576) : Calls Tryz.prog 25 #[.int .i64 10, .int .i64 (n : Nat)] w (Gives w .u32 (digs V (10 ^ n))) := rpow_calls 10 n w (by omega) (by omega) hn
theorem rpow5_len (k : Nat) : (digs V (5 ^ k)).length ≤ k + 1 := by
  refine (digs_length_le V_two _ _).2 ?_
  have h1 : 5 ^ k ≤ V ^ k := Nat.pow_le_pow_left (by unfold Rf.V; omega) k
  have h2 : V ^ k < V ^ (k + 1) := Nat.pow_lt_pow_right (by unfold Rf.V; omega) (Nat.lt_succ_self k)
  exact Nat.lt_of_le_of_lt h1 h2
/-- a whole number's amount, and where it stands -/
def GivesA (w : World) (m : Nat) (x : Int) (e : Ending) (w' : World) : Prop := ∃ A n c, e = .returned (.tuple #[.slice A n c, .int .i64 x]) ∧ SI w' .u32 A n c (digs V m) ∧ Below w.heap.size w w'
set_option maxHeartbeats 4000000 in
theorem amount_up (A : Option Addr) (n c m k : Nat) (w : World) (h : SI w .u32 A n c (digs V m)) (hn : n ≤ 65536) (hk : k ≤ 4096) :
    Calls Tryz.prog 74 #[.slice A n c, .int .i64 (k : Nat)] w (GivesA w (m * 2 ^ k) 0) := by
  have HS := Lib.hid (rshl_e A n c m k w h (by omega) (by omega))
  generalize m * 2 ^ k = x at *
  clear h
  go_enter Tryz.func74, Tryz.ntmps74
  go_wp2_with (go_at_call 50; (with_reducible refine HS.out.mono ?_); rintro e w1 ⟨A1, n1, c1, rfl, r1, _, b1⟩)
  go_ret2
  exact ⟨_, _, _, rfl, r1, b1⟩
set_option maxHeartbeats 4000000 in
theorem amount_down (A : Option Addr) (n c m k : Nat) (w : World) (h : SI w .u32 A n c (digs V m)) (hn : n ≤ 65536) (h0 : 0 < k) (hk : k ≤ 4096) :
    Calls Tryz.prog 74 #[.slice A n c, .int .i64 (-(k : Int))] w (GivesA w (m * 5 ^ k) (-(k : Int))) := by
  have HP := Lib.hid (rpow5e k w (by omega))
  have HL := Lib.hid (rpow5_len k)
  have HS := Lib.hid (fun (A' : Option Addr) (n' c' : Nat) (w1 : World) (b : Below w.heap.size w w1) (h' : SI w1 .u32 A' n' c' (digs V (5 ^ k))) => rmul_d A A' n c n' c' m (5 ^ k) w1 (h.below b) h' (by omega) (by rw [← h'.len]; have := HL.out; omega))
  generalize m * 5 ^ k = x at *
  generalize 5 ^ k = y at *
  clear h
  go_enter Tryz.func74, Tryz.ntmps74
  go_wp2_with (first
    | (go_at_call 25; (with_reducible refine HP.out.mono ?_); rintro e w1 ⟨A1, n1, c1, rfl, r1, b1⟩)
    | (go_at_call 23; (with_reducible refine (HS.out A1 n1 c1 w1 b1 r1).mono ?_); rintro e w2 ⟨A2, n2, c2, rfl, r2, _, b2⟩))
  go_ret2
  exact ⟨_, _, _, rfl, r2, on b1 b2⟩
theorem amount_at (A : Option Addr) (n c m Z v : Nat) (E : Int) (w : World) (h : SI w .u32 A n c (digs V m)) (hn : n ≤ 65536) (hE : E = (v : Int) - (Z : Int)) (hZ : Z ≤ 4096) (hv : v ≤ 4096) :
    Calls Tryz.prog 74 #[.slice A n c, .int .i64 E] w (GivesA w (m * sf Z v) ((un Z v : Nat) - (Z : Int))) := by
  rcases Nat.lt_or_ge v Z with hl | hl
  · obtain ⟨k, hk⟩ : ∃ k, v + k = Z := ⟨Z - v, by omega⟩
    obtain ⟨e1, e2⟩ := sf_down hk (by omega)
    obtain rfl : E = -(k : Int) := by omega
    rw [e1, e2, show ((v : Nat) : Int) - (Z : Int) = -(k : Int) by omega]
    exact amount_down A n c m k w h hn (by omega) (by omega)
  · obtain ⟨k, rfl⟩ : ∃ k, v = Z + k := ⟨v - Z, by omega⟩
    obtain ⟨e1, e2⟩ := sf_up Z k
    obtain rfl : E = (k : Nat) := by omega
    rw [e1, e2, show ((Z : Nat) : Int) - (Z : Int) = 0 by omega]
    exact amount_up A n c m k w h hn (by omega)
theorem rcmp_d (A A' : Option Addr) (n c n' c' x y : Nat) (w : World) (h : SI w .u32 A n c (digs V x)) (h' : SI w .u32 A' n' c' (digs V y)) :
    Calls Tryz.prog 22 #[.slice A n c, .slice A' n' c'] w fun e w' => e = .returned (.int .i64 (cmp x y)) ∧ Drawn w w' := by
  have e := Rf.cmp_calls A A' n c n' c' (digs V x) (digs V y) w h h' (digs_lt V_two x) (digs_lt V_two y)
  rw [val_digs V_two, val_digs V_two] at e
  exact e
theorem cmp_three (x y : Nat) : (x < y ∧ cmp x y = -1) ∨ (x = y ∧ cmp x y = 0) ∨ (y < x ∧ cmp x y = 1) := by
  unfold cmp
  rcases Nat.lt_trichotomy x y with h | h | h
  · exact .inl ⟨h, if_pos h⟩
  · exact .inr (.inl ⟨h, by rw [if_neg (by omega), if_neg (by omega)]⟩)
  · exact .inr (.inr ⟨h, by rw [if_neg (by omega), if_pos h]⟩)
end Go.Proofs.YtfddokfnplehkaaGreatDoor.Sh

/- Layer 3, the document: Dec, Exact, reach. -/
set_option linter.unusedSimpArgs false
set_option linter.unusedVariables false
namespace Go.Proofs.YtfddokfnplehkaaGreatDoor.Sh
open Go.RowKit Go.Proofs.YtfddokfnplehkaaGreatDoor.Dig Go.Proofs.YtfddokfnplehkaaGreatDoor.W Go.Proofs.YtfddokfnplehkaaGreatDoor.Nat Go.Proofs.YtfddokfnplehkaaGreatDoor.Wh Go.Proofs.YtfddokfnplehkaaGreatDoor.Td Go.Proofs.YtfddokfnplehkaaGreatDoor.Bu Go.Proofs.YtfddokfnplehkaaGreatDoor.Tx Go.Proofs.YtfddokfnplehkaaGreatDoor.Sp
open Go.Proofs.YtfddokfnplehkaaGreatDoor.Rf (V V_two V_pos)

theorem last_gen (l : List UInt8) (b : UInt8) (i : Nat) (hi : i = l.length) (h : i < (⟨(l ++ [b]).toArray⟩ : ByteArray).size) : (⟨(l ++ [b]).toArray⟩ : ByteArray)[i] = b := by
  subst hi
  have e1 := Lib.getElem_mk (l ++ [b]) _ h
  rw [List.getElem?_append_right (Nat.le_refl _), Nat.sub_self] at e1
  simp only [List.getElem?_cons_zero, Option.some.injEq] at e1
  exact e1.symm
/-- the last byte of a text -/
theorem last_at (l : List UInt8) (b : UInt8) (h : (⟨(l ++ [b]).toArray⟩ : ByteArray).size - 1 < (⟨(l ++ [b]).toArray⟩ : ByteArray).size) : (⟨(l ++ [b]).toArray⟩ : ByteArray)[(⟨(l ++ [b]).toArray⟩ : ByteArray).size - 1] = b :=
  last_gen l b _ (by rw [size_of, List.length_append, List.length_singleton, Nat.add_sub_cancel]) h
theorem cut_last (l : List UInt8) (b : UInt8) : (⟨(l ++ [b]).toArray⟩ : ByteArray).extract 0 ((⟨(l ++ [b]).toArray⟩ : ByteArray).size - 1) = ⟨l.toArray⟩ := by
  rw [Lib.extract_upto, size_of]
  show (⟨((l ++ [b]).take _).toArray⟩ : ByteArray) = _
  rw [List.length_append, List.length_singleton, Nat.add_sub_cancel, List.take_left]
/-- digits, and i noughts behind -/
structure Tz (B : List UInt8) (i : Nat) (S : ByteArray) : Prop where
  e : S = ⟨(B ++ List.replicate i 48).toArray⟩
theorem Tz.size {B : List UInt8} {i : Nat} {S : ByteArray} (h : Tz B i S) : S.size = B.length + i := by rw [h.e, size_of, List.length_append, List.length_replicate]
theorem Tz.step {B : List UInt8} {i : Nat} {S : ByteArray} (h : Tz B (i + 1) S) : Tz B i (S.extract 0 (S.size - 1)) ∧ ∀ hl : S.size - 1 < S.size, S[S.size - 1] = 48 := by
  obtain ⟨rfl⟩ := h
  rw [List.replicate_succ', ← List.append_assoc]
  exact ⟨⟨cut_last _ _⟩, fun hl => last_at _ _ hl⟩
theorem Tz.stop {r : List UInt8} {c : UInt8} {S : ByteArray} (h : Tz (r ++ [c]) 0 S) : ∀ hl : S.size - 1 < S.size, S[S.size - 1] = c := by
  obtain ⟨rfl⟩ := h
  rw [List.replicate_zero, List.append_nil]
  exact fun hl => last_at _ _ hl
set_option maxHeartbeats 4000000 in
set_option maxRecDepth 100000 in
theorem rdec_calls (ng : Bool) (A : Option Addr) (n c a : Nat) (x : Int) (w : World) (h : SI w .u32 A n c (digs V a)) (hn : n ≤ 65536) (hl : (Lib.decDigits a).length ≤ 65536) (hx : -65536 ≤ x) (hx' : x ≤ 65536) :
    Calls Tryz.prog 31 #[.bool ng, .slice A n c, .int .i64 x] w fun e w' => e = .returned (.agg (dec 0 ng (cd a) (ce a x))) ∧ Below w.heap.size w w' := by
  have b0 := alloc_below w (.cells #[.int .i64 0, .bool false, .string ⟨#[]⟩, .int .i64 0] 23)
  have HT := Lib.hid (Rw.rtext_calls A n c a _ (h.below b0) (by omega))
  have HB := Lib.hid b0
  have HK := Lib.hid (Bk.start w 23 #[.int .i64 0, .bool false, .string ⟨#[]⟩, .int .i64 0])
  clear b0 h
  by_cases h0 : a = 0
  · subst h0
    rw [cd_zero, ce_zero]
    rw [dec_small (show 0 < 10 by omega), show db 0 = 48 from rfl] at HT
    go_enter Tryz.func31, Tryz.ntmps31
    go_wp2_with (go_at_call 51; (with_reducible refine HT.out.mono ?_); rintro e w1 ⟨rfl, b1⟩; have q := HK.out.below b1; have q0 := q.at_ 0 rfl; have q1 := q.at_ 1 rfl; have q2 := q.at_ 2 rfl; have q3 := q.at_ 3 rfl; have f0 := q.fr 0; have f1 := q.fr 1; have f2 := q.fr 2; have f3 := q.fr 3)
    refine bodyPost_ret (res_bk rfl _ (Bk.set4 q (.int .i64 0) (.bool ng) (.string ⟨#[]⟩) (.int .i64 0) rfl) rfl Tryz.underlying23 rfl (by kernel_rfl)) rfl ⟨rfl, ?_⟩
    have hs : w.heap.size ≤ w.heap.size := Nat.le_refl _
    exact ((((on HB.out b1).setCell hs _).setCell hs _).setCell hs _).setCell hs _
  · obtain ⟨b, ha, hb⟩ := tz_spec a h0
    obtain ⟨j, hj⟩ : ∃ j, j = tz a := ⟨_, rfl⟩
    rw [← hj] at ha
    have hb0 : b ≠ 0 := fun e => hb (by rw [e])
    have hc : cd a = Lib.decDigits b := by rw [ha, cd_of hb]
    have he : ce a x = x + (j : Int) := by rw [ha, ce_of hb]
    have hd : Lib.decDigits a = Lib.decDigits b ++ List.replicate j 48 := by rw [ha, dec_mul_pow b j hb0]
    obtain ⟨r, cc, hr, h48⟩ := dec_last hb
    rw [hc, he]
    rw [hd, hr] at HT hl
    rw [hr]
    rw [List.length_append, List.length_append, List.length_replicate, List.length_singleton] at hl
    obtain ⟨S, hS⟩ : ∃ S : ByteArray, S = ⟨(r ++ [cc] ++ List.replicate j 48).toArray⟩ := ⟨_, rfl⟩
    have hZ : Tz (r ++ [cc]) j S := ⟨hS⟩
    have hne : (S.toList == [48]) = false := by
      rw [hS, ByteArray.toList_mk, beq_eq_false_iff_ne]
      intro e2
      cases r with
      | nil =>
        simp at e2
        rw [e2.1] at h48
        cases h48
      | cons y r => simp at e2
    rw [← hS] at HT
    have HZ := Lib.hid hZ
    have H48 := Lib.hid h48
    have HJ : Hid (j ≤ 65536) := by unfold Hid; omega
    have hrl : r.length ≤ 65536 := by omega
    clear ha hb hb0 hc he hd hr hS hZ h48 hl h0
    go_enter Tryz.func31, Tryz.ntmps31
    go_wp2_with (go_at_call 51; (with_reducible refine HT.out.mono ?_); rintro e w1 ⟨rfl, b1⟩)
    clear hne HT
    go_loopw [2, 7] (fun y z wr => ∃ (i : Nat) (S' : ByteArray), z = .string S' ∧ y = .int .i64 (x + ((j - i : Nat) : Int)) ∧ Hid (i ≤ j) ∧ Hid (Tz (r ++ [cc]) i S') ∧ w1 = wr) (fun _ z _ => Lib.strSize z)
    case atStart => exact ⟨j, S, rfl, by rw [Nat.sub_self]; simp, Nat.le_refl _, HZ.out, rfl⟩
    case round =>
      obtain ⟨i, S', rfl, rfl, HI, HT, rfl⟩ := hrel
      have hsz := HT.out.size
      rw [List.length_append, List.length_singleton] at hsz
      have hj := HJ.out
      have hi := HI.out
      have z1 : 1 ≤ S'.size := by omega
      have z2 : S'.size ≤ 200000 := by omega
      have z3 : S'.size - 1 < S'.size := by omega
      have z4 : (1 : Int) ≤ (S'.size : Int) := by omega
      obtain ⟨d, hd⟩ : ∃ d, d = j - i := ⟨_, rfl⟩
      have hd2 : d ≤ 65536 := by omega
      rw [← hd]
      cases i with
      | zero =>
        have hb : ((S'[S'.size - 1].toNat : Int) == 48) = false := by
          rw [HT.out.stop z3]
          have h := H48.out
          cases e : ((cc.toNat : Int) == 48) with
          | false => rfl
          | true =>
            have : cc.toNat = 48 := by have := of_decide_eq_true e; omega
            have : cc = 48 := UInt8.toNat_inj.mp this
            rw [this] at h
            cases h
        have e1 : S' = ⟨(r ++ [cc]).toArray⟩ := by rw [HT.out.e, List.replicate_zero, List.append_nil]
        have E1 := Lib.hid e1
        have E2 := Lib.hid (show d = j by omega)
        have q := HK.out.below b1
        have q0 := q.at_ 0 rfl; have q1 := q.at_ 1 rfl; have q2 := q.at_ 2 rfl; have q3 := q.at_ 3 rfl; have f0 := q.fr 0; have f1 := q.fr 1; have f2 := q.fr 2; have f3 := q.fr 3
        clear e1 hsz hd hi hj
        go_wp2
        rw [← E2.out]
        refine bodyPost_ret (res_bk rfl _ (Bk.set4 q (.int .i64 0) (.bool ng) (.string S') (.int .i64 (x + (d : Int))) rfl) rfl Tryz.underlying23 rfl (by kernel_rfl)) rfl ⟨?_, ?_⟩
        · unfold dec str; rw [← E1.out]
        have hs : w.heap.size ≤ w.heap.size := Nat.le_refl _
        exact ((((on HB.out b1).setCell hs _).setCell hs _).setCell hs _).setCell hs _
      | succ i =>
        obtain ⟨t1, t2⟩ := HT.out.step
        have hb : ((S'[S'.size - 1].toNat : Int) == 48) = true := by rw [t2 z3]; rfl
        have T1 := Lib.hid t1
        have hsz2 := t1.size
        have HD := Lib.hid (show j - i = d + 1 by omega)
        clear t1 t2 hsz hsz2 hd hj
        go_wp2
        go_roundw
        case rel => exact ⟨i, _, rfl, by rw [HD.out]; go_num, by have := HI.out; unfold Hid; omega, T1.out, trivial⟩
        case measure => show (S'.extract 0 (S'.size - 1)).size < S'.size; rw [ByteArray.size_extract]; omega
end Go.Proofs.YtfddokfnplehkaaGreatDoor.Sh

/- Layer 3, the document: Exact, reach. -/
set_option linter.unusedSimpArgs false
set_option linter.unusedVariables false
namespace Go.Proofs.YtfddokfnplehkaaGreatDoor.Sh
open Go.RowKit Go.Proofs.YtfddokfnplehkaaGreatDoor.Dig Go.Proofs.YtfddokfnplehkaaGreatDoor.W Go.Proofs.YtfddokfnplehkaaGreatDoor.Nat Go.Proofs.YtfddokfnplehkaaGreatDoor.Wh Go.Proofs.YtfddokfnplehkaaGreatDoor.Td Go.Proofs.YtfddokfnplehkaaGreatDoor.Bu Go.Proofs.YtfddokfnplehkaaGreatDoor.Tx Go.Proofs.YtfddokfnplehkaaGreatDoor.Sp
open Go.Proofs.YtfddokfnplehkaaGreatDoor.Rf (V V_two V_pos)

theorem rlen_of {a K : Nat} (h : (Lib.decDigits a).length ≤ K) (hK : 0 < K) : (digs V a).length ≤ K := by
  refine (digs_length_le V_two _ _).2 (Nat.lt_of_lt_of_le (dec_upper a) ?_)
  exact Nat.le_trans (Nat.pow_le_pow_left (by unfold Rf.V; omega) _) (Nat.pow_le_pow_right V_pos h)
set_option maxHeartbeats 4000000 in
set_option maxRecDepth 100000 in
theorem rexact_odd_w {bits : Nat} {q : Int} {ng : Bool} (hq : (q == 0) = false) (w : World)
    (HA : ∀ w, Calls Tryz.prog 73 #[.agg #[.int .i64 52, .int .i64 11], .int .u64 (bits : Nat)] w fun e w' =>
      e = .returned (.tuple #[.bool ng, .int .i64 q, .int .u64 0, .int .i64 0]) ∧ Below w.heap.size w w') :
    Calls Tryz.prog 46 #[.agg #[.int .i64 52, .int .i64 11], .int .u64 (bits : Nat)] w fun e w' => e = .returned (.agg (dec q ng [] 0)) ∧ Below w.heap.size w w' := by
  have HA := Lib.hid HA
  obtain ⟨_, B2, bl⟩ := blk_two w #[.int .i64 52, .int .i64 11] #[.int .i64 0, .bool false, .string ⟨#[]⟩, .int .i64 0] 32 23
  have HB := Lib.hid bl
  have HB2 := Lib.hid B2
  clear B2 bl
  go_enter Tryz.func46, Tryz.ntmps46
  go_wp2_with (go_at_call 73; (with_reducible refine (HA.out _).mono ?_); rintro e w1 ⟨rfl, b1⟩; have B3 := HB2.out.below b1; have f0 := B3.fr 0; have f1 := B3.fr 1; have f2 := B3.fr 2; have f3 := B3.fr 3; have q0 := B3.at_ 0 rfl; have q1 := B3.at_ 1 rfl; have q2 := B3.at_ 2 rfl; have q3 := B3.at_ 3 rfl)
  refine bodyPost_ret (res_bk rfl _ (B3.set4 (.int .i64 q) (.bool ng) (.string ⟨#[]⟩) (.int .i64 0) rfl) rfl Tryz.underlying23 rfl (by kernel_rfl)) rfl ⟨rfl, ?_⟩
  have hs : w.heap.size ≤ w.heap.size + 1 := Nat.le_succ _
  exact ((((on HB.out b1).setCell hs _).setCell hs _).setCell hs _).setCell hs _
set_option maxHeartbeats 4000000 in
set_option maxRecDepth 100000 in
theorem rexact_fin_w {bits m v : Nat} {ng : Bool} (hm : m < U) (hv : v ≤ 4096) (w : World)
    (HA : ∀ w, Calls Tryz.prog 73 #[.agg #[.int .i64 52, .int .i64 11], .int .u64 (bits : Nat)] w fun e w' =>
      e = .returned (.tuple #[.bool ng, .int .i64 0, .int .u64 (m : Nat), .int .i64 ((v : Int) - 1074)]) ∧ Below w.heap.size w w') :
    Calls Tryz.prog 46 #[.agg #[.int .i64 52, .int .i64 11], .int .u64 (bits : Nat)] w fun e w' => e = .returned (.agg (dec 0 ng (cd (m * sf 1074 v)) (ce (m * sf 1074 v) ((un 1074 v : Nat) - (1074 : Nat))))) ∧ Below w.heap.size w w' := by
  have HA := Lib.hid HA
  have hl := dig_len (Z := 1074) hm (by omega) hv
  have hun : un 1074 v ≤ 4096 := by unfold un; split <;> omega
  have H1 := Lib.hid (fun w1 => limb_calls m (m : Nat) w1 hm rfl)
  have hM : (digs V m).length ≤ 4 := rone_len hm
  have hR : (digs V (m * sf 1074 v)).length ≤ 4116 := rlen_of hl (by omega)
  have h2 : ∀ (A : Option Addr) (n c : Nat) (w1 : World), SI w1 .u32 A n c (digs V m) → Calls Tryz.prog 74 #[.slice A n c, .int .i64 ((v : Int) - 1074)] w1 (GivesA w1 (m * sf 1074 v) ((un 1074 v : Nat) - 1074)) := fun A n c w1 h => amount_at A n c m 1074 v _ w1 h (by rw [← h.len]; omega) rfl (by omega) hv
  have h3 : ∀ (A : Option Addr) (n c : Nat) (w1 : World), SI w1 .u32 A n c (digs V (m * sf 1074 v)) → Calls Tryz.prog 31 #[.bool ng, .slice A n c, .int .i64 ((un 1074 v : Nat) - 1074)] w1 fun e w' => e = .returned (.agg #[.int .i64 0, .bool ng, .string ⟨(cd (m * sf 1074 v)).toArray⟩, .int .i64 (ce (m * sf 1074 v) ((un 1074 v : Nat) - ((1074 : Nat) : Int)))]) ∧ Below w1.heap.size w1 w' := fun A n c w1 h => rdec_calls ng A n c (m * sf 1074 v) _ w1 h (by rw [← h.len]; omega) (by omega) (by omega) (by omega)
  have H2 := Lib.hid h2
  have H3 := Lib.hid h3
  obtain ⟨_, B2, bl⟩ := blk_two w #[.int .i64 52, .int .i64 11] #[.int .i64 0, .bool false, .string ⟨#[]⟩, .int .i64 0] 32 23
  have HB := Lib.hid bl
  have HB2 := Lib.hid B2
  clear B2 bl hl hM hR h2 h3 hm hun hv
  generalize ce (m * sf 1074 v) ((un 1074 v : Nat) - ((1074 : Nat) : Int)) = x at *
  generalize un 1074 v = u at *
  generalize m * sf 1074 v = a at *
  go_enter Tryz.func46, Tryz.ntmps46
  go_wp2_with (first
    | (go_at_call 73; (with_reducible refine (HA.out _).mono ?_); rintro e w1 ⟨rfl, b1⟩)
    | (go_at_call 75; (with_reducible refine (H1.out _).mono ?_); rintro e w2 ⟨A2, n2, c2, rfl, r2, b2⟩)
    | (go_at_call 74; (with_reducible refine (H2.out A2 n2 c2 _ r2).mono ?_); rintro e w3 ⟨A3, n3, c3, rfl, r3, b3⟩)
    | (go_at_call 31; (with_reducible refine (H3.out A3 n3 c3 _ r3).mono ?_); rintro e w4 ⟨rfl, b4⟩; have B3 := (((HB2.out.below b1).below b2).below b3).below b4; have f0 := B3.fr 0; have f1 := B3.fr 1; have f2 := B3.fr 2; have f3 := B3.fr 3; have q0 := B3.at_ 0 rfl; have q1 := B3.at_ 1 rfl; have q2 := B3.at_ 2 rfl; have q3 := B3.at_ 3 rfl))
  refine bodyPost_ret (res_bk rfl _ (B3.set4 (.int .i64 0) (.bool ng) (.string ⟨(cd a).toArray⟩) (.int .i64 x) rfl) rfl Tryz.underlying23 rfl (by kernel_rfl)) rfl ⟨rfl, ?_⟩
  have hs : w.heap.size ≤ w.heap.size + 1 := Nat.le_succ _
  exact ((((on (on (on (on HB.out b1) b2) b3) b4).setCell hs _).setCell hs _).setCell hs _).setCell hs _
theorem rexact_calls_w {bits : Nat} (hb : bits < 18446744073709551616) (w : World) :
    Calls Tryz.prog 46 #[.agg #[.int .i64 52, .int .i64 11], .int .u64 (bits : Nat)] w fun e w' => e = .returned (.agg (eV_w bits)) ∧ Below w.heap.size w w' := by
  have H := fb_w hb
  have HL := H.fl_w
  unfold eV_w
  have hlt : bits % 9223372036854775808 / 4503599627370496 ≤ 2047 := by omega
  generalize bits % 9223372036854775808 = b at *
  generalize decide (bits / 9223372036854775808 = 1) = ng at *
  split
  · next h =>
    rw [h] at HL
    split
    · next h2 =>
      rw [h2] at HL
      exact rexact_odd_w (by decide) w (rparts_inf_w HL)
    · next h2 => exact rexact_odd_w (by decide) w (rparts_nan_w HL h2)
  · next h => exact rexact_fin_w (am_lt_w b) (by omega) w (rparts_fin_w H (by omega))
/-- a float's reach, its ends' kind -/
def GivesH_w (w : World) (l m h : Nat) (ends : Bool) (e : Ending) (w' : World) : Prop := ∃ A n c A' n' c' A'' n'' c'', e = .returned (.tuple #[.slice A n c, .slice A' n' c', .slice A'' n'' c'', .bool ends]) ∧ SI w' .u32 A n c (digs V l) ∧ SI w' .u32 A' n' c' (digs V m) ∧ SI w' .u32 A'' n'' c'' (digs V h) ∧ Below w.heap.size w w'
set_option maxHeartbeats 4000000 in
set_option maxRecDepth 100000 in
theorem rexact_odd_n {bits : Nat} {q : Int} {ng : Bool} (hq : (q == 0) = false) (w : World)
    (HA : ∀ w, Calls Tryz.prog 73 #[.agg #[.int .i64 23, .int .i64 8], .int .u64 (bits : Nat)] w fun e w' =>
      e = .returned (.tuple #[.bool ng, .int .i64 q, .int .u64 0, .int .i64 0]) ∧ Below w.heap.size w w') :
    Calls Tryz.prog 46 #[.agg #[.int .i64 23, .int .i64 8], .int .u64 (bits : Nat)] w fun e w' => e = .returned (.agg (dec q ng [] 0)) ∧ Below w.heap.size w w' := by
  have HA := Lib.hid HA
  obtain ⟨_, B2, bl⟩ := blk_two w #[.int .i64 23, .int .i64 8] #[.int .i64 0, .bool false, .string ⟨#[]⟩, .int .i64 0] 32 23
  have HB := Lib.hid bl
  have HB2 := Lib.hid B2
  clear B2 bl
  go_enter Tryz.func46, Tryz.ntmps46
  go_wp2_with (go_at_call 73; (with_reducible refine (HA.out _).mono ?_); rintro e w1 ⟨rfl, b1⟩; have B3 := HB2.out.below b1; have f0 := B3.fr 0; have f1 := B3.fr 1; have f2 := B3.fr 2; have f3 := B3.fr 3; have q0 := B3.at_ 0 rfl; have q1 := B3.at_ 1 rfl; have q2 := B3.at_ 2 rfl; have q3 := B3.at_ 3 rfl)
  refine bodyPost_ret (res_bk rfl _ (B3.set4 (.int .i64 q) (.bool ng) (.string ⟨#[]⟩) (.int .i64 0) rfl) rfl Tryz.underlying23 rfl (by kernel_rfl)) rfl ⟨rfl, ?_⟩
  have hs : w.heap.size ≤ w.heap.size + 1 := Nat.le_succ _
  exact ((((on HB.out b1).setCell hs _).setCell hs _).setCell hs _).setCell hs _
set_option maxHeartbeats 4000000 in
set_option maxRecDepth 100000 in
theorem rexact_fin_n {bits m v : Nat} {ng : Bool} (hm : m < U) (hv : v ≤ 4096) (w : World)
    (HA : ∀ w, Calls Tryz.prog 73 #[.agg #[.int .i64 23, .int .i64 8], .int .u64 (bits : Nat)] w fun e w' =>
      e = .returned (.tuple #[.bool ng, .int .i64 0, .int .u64 (m : Nat), .int .i64 ((v : Int) - 149)]) ∧ Below w.heap.size w w') :
    Calls Tryz.prog 46 #[.agg #[.int .i64 23, .int .i64 8], .int .u64 (bits : Nat)] w fun e w' => e = .returned (.agg (dec 0 ng (cd (m * sf 149 v)) (ce (m * sf 149 v) ((un 149 v : Nat) - (149 : Nat))))) ∧ Below w.heap.size w w' := by
  have HA := Lib.hid HA
  have hl := dig_len (Z := 149) hm (by omega) hv
  have hun : un 149 v ≤ 4096 := by unfold un; split <;> omega
  have H1 := Lib.hid (fun w1 => limb_calls m (m : Nat) w1 hm rfl)
  have hM : (digs V m).length ≤ 4 := rone_len hm
  have hR : (digs V (m * sf 149 v)).length ≤ 4116 := rlen_of hl (by omega)
  have h2 : ∀ (A : Option Addr) (n c : Nat) (w1 : World), SI w1 .u32 A n c (digs V m) → Calls Tryz.prog 74 #[.slice A n c, .int .i64 ((v : Int) - 149)] w1 (GivesA w1 (m * sf 149 v) ((un 149 v : Nat) - 149)) := fun A n c w1 h => amount_at A n c m 149 v _ w1 h (by rw [← h.len]; omega) rfl (by omega) hv
  have h3 : ∀ (A : Option Addr) (n c : Nat) (w1 : World), SI w1 .u32 A n c (digs V (m * sf 149 v)) → Calls Tryz.prog 31 #[.bool ng, .slice A n c, .int .i64 ((un 149 v : Nat) - 149)] w1 fun e w' => e = .returned (.agg #[.int .i64 0, .bool ng, .string ⟨(cd (m * sf 149 v)).toArray⟩, .int .i64 (ce (m * sf 149 v) ((un 149 v : Nat) - ((149 : Nat) : Int)))]) ∧ Below w1.heap.size w1 w' := fun A n c w1 h => rdec_calls ng A n c (m * sf 149 v) _ w1 h (by rw [← h.len]; omega) (by omega) (by omega) (by omega)
  have H2 := Lib.hid h2
  have H3 := Lib.hid h3
  obtain ⟨_, B2, bl⟩ := blk_two w #[.int .i64 23, .int .i64 8] #[.int .i64 0, .bool false, .string ⟨#[]⟩, .int .i64 0] 32 23
  have HB := Lib.hid bl
  have HB2 := Lib.hid B2
  clear B2 bl hl hM hR h2 h3 hm hun hv
  generalize ce (m * sf 149 v) ((un 149 v : Nat) - ((149 : Nat) : Int)) = x at *
  generalize un 149 v = u at *
  generalize m * sf 149 v = a at *
  go_enter Tryz.func46, Tryz.ntmps46
  go_wp2_with (first
    | (go_at_call 73; (with_reducible refine (HA.out _).mono ?_); rintro e w1 ⟨rfl, b1⟩)
    | (go_at_call 75; (with_reducible refine (H1.out _).mono ?_); rintro e w2 ⟨A2, n2, c2, rfl, r2, b2⟩)
    | (go_at_call 74; (with_reducible refine (H2.out A2 n2 c2 _ r2).mono ?_); rintro e w3 ⟨A3, n3, c3, rfl, r3, b3⟩)
    | (go_at_call 31; (with_reducible refine (H3.out A3 n3 c3 _ r3).mono ?_); rintro e w4 ⟨rfl, b4⟩; have B3 := (((HB2.out.below b1).below b2).below b3).below b4; have f0 := B3.fr 0; have f1 := B3.fr 1; have f2 := B3.fr 2; have f3 := B3.fr 3; have q0 := B3.at_ 0 rfl; have q1 := B3.at_ 1 rfl; have q2 := B3.at_ 2 rfl; have q3 := B3.at_ 3 rfl))
  refine bodyPost_ret (res_bk rfl _ (B3.set4 (.int .i64 0) (.bool ng) (.string ⟨(cd a).toArray⟩) (.int .i64 x) rfl) rfl Tryz.underlying23 rfl (by kernel_rfl)) rfl ⟨rfl, ?_⟩
  have hs : w.heap.size ≤ w.heap.size + 1 := Nat.le_succ _
  exact ((((on (on (on (on HB.out b1) b2) b3) b4).setCell hs _).setCell hs _).setCell hs _).setCell hs _
theorem rexact_calls_n {bits : Nat} (hb : bits < 4294967296) (w : World) :
    Calls Tryz.prog 46 #[.agg #[.int .i64 23, .int .i64 8], .int .u64 (bits : Nat)] w fun e w' => e = .returned (.agg (eV_n bits)) ∧ Below w.heap.size w w' := by
  have H := fb_n hb
  have HL := H.fl_n
  unfold eV_n
  have hlt : bits % 2147483648 / 8388608 ≤ 255 := by omega
  generalize bits % 2147483648 = b at *
  generalize decide (bits / 2147483648 = 1) = ng at *
  split
  · next h =>
    rw [h] at HL
    split
    · next h2 =>
      rw [h2] at HL
      exact rexact_odd_n (by decide) w (rparts_inf_n HL)
    · next h2 => exact rexact_odd_n (by decide) w (rparts_nan_n HL h2)
  · next h => exact rexact_fin_n (am_lt_n b) (by omega) w (rparts_fin_n H (by omega))
/-- a float's reach, its ends' kind -/
def GivesH_n (w : World) (l m h : Nat) (ends : Bool) (e : Ending) (w' : World) : Prop := ∃ A n c A' n' c' A'' n'' c'', e = .returned (.tuple #[.slice A n c, .slice A' n' c', .slice A'' n'' c'', .bool ends]) ∧ SI w' .u32 A n c (digs V l) ∧ SI w' .u32 A' n' c' (digs V m) ∧ SI w' .u32 A'' n'' c'' (digs V h) ∧ Below w.heap.size w w'
end Go.Proofs.YtfddokfnplehkaaGreatDoor.Sh

/- Layer 3, the document: the fewest digits. -/
set_option linter.unusedSimpArgs false
set_option linter.unusedVariables false
namespace Go.Proofs.YtfddokfnplehkaaGreatDoor.Sh
open Go.RowKit Go.Proofs.YtfddokfnplehkaaGreatDoor.Dig Go.Proofs.YtfddokfnplehkaaGreatDoor.W Go.Proofs.YtfddokfnplehkaaGreatDoor.Nat Go.Proofs.YtfddokfnplehkaaGreatDoor.Wh Go.Proofs.YtfddokfnplehkaaGreatDoor.Td Go.Proofs.YtfddokfnplehkaaGreatDoor.Bu Go.Proofs.YtfddokfnplehkaaGreatDoor.Tx Go.Proofs.YtfddokfnplehkaaGreatDoor.Sp
open Go.Proofs.YtfddokfnplehkaaGreatDoor.Rf (V V_two V_pos)

theorem radd_e (A A' : Option Addr) (n c n' c' x y : Nat) (w : World) (h : SI w .u32 A n c (digs V x)) (h' : SI w .u32 A' n' c' (digs V y)) (hx : (digs V x).length ≤ 65536) (hy : (digs V y).length ≤ 65536) :
    Calls Tryz.prog 30 #[.slice A n c, .slice A' n' c'] w (Gives w .u32 (digs V (x + y))) := by
  have e := Rf.add_calls A A' n c n' c' (digs V x) (digs V y) w h h' (digs_lt V_two x) (digs_lt V_two y) (by rw [← h.len]; omega) (by rw [← h'.len]; omega)
  rw [val_digs V_two, val_digs V_two] at e
  exact e.mono fun _ _ h => h.gives
theorem rmul_e (A A' : Option Addr) (n c n' c' x y : Nat) (w : World) (h : SI w .u32 A n c (digs V x)) (h' : SI w .u32 A' n' c' (digs V y)) (hx : (digs V x).length ≤ 65536) (hy : (digs V y).length ≤ 65536) :
    Calls Tryz.prog 23 #[.slice A n c, .slice A' n' c'] w (Gives w .u32 (digs V (x * y))) :=
  (rmul_d A A' n c n' c' x y w h h' (by rw [← h.len]; omega) (by rw [← h'.len]; omega)).mono fun _ _ h => h.gives
/-- quotient and rest -/
def GivesD (w : World) (q r : Nat) (e : Ending) (w' : World) : Prop := ∃ A n c A' n' c', e = .returned (.tuple #[.slice A n c, .slice A' n' c']) ∧ SI w' .u32 A n c (digs V q) ∧ SI w' .u32 A' n' c' (digs V r) ∧ Below w.heap.size w w'
theorem rdiv_e (A A' : Option Addr) (n c n' c' x y : Nat) (w : World) (h : SI w .u32 A n c (digs V x)) (h' : SI w .u32 A' n' c' (digs V y)) (hx : (digs V x).length ≤ 65536) (hy : 0 < y) :
    Calls Tryz.prog 27 #[.slice A n c, .slice A' n' c'] w (GivesD w (x / y) (x % y)) := by
  have e := Rf.divmod_calls A A' n c n' c' (digs V x) (digs V y) w h h' (digs_lt V_two x) (digs_lt V_two y) (by rw [← h.len]; omega) (by rw [val_digs V_two]; exact hy)
  rw [val_digs V_two, val_digs V_two] at e
  exact e.mono fun _ _ ⟨A, n, c, A', n', c', h1, h2, h3, _, _, h6⟩ => ⟨A, n, c, A', n', c', h1, h2, h3, h6⟩
theorem rshl_f (A : Option Addr) (n c m k : Nat) (x : Int) (w : World) (h : SI w .u32 A n c (digs V m)) (hx : x = (k : Nat)) (hn : (digs V m).length ≤ 65536) (hk : k ≤ 4096) :
    Calls Tryz.prog 50 #[.slice A n c, .int .i64 x] w (Gives w .u32 (digs V (m * 2 ^ k))) := by
  subst hx
  exact (rshl_e A n c m k w h (by rw [← h.len]; omega) (by omega)).mono fun _ _ h => h.gives
theorem rpow_f (a : Int) (b k : Nat) (x : Int) (w : World) (ha : a = (b : Nat)) (hb : b ≤ 10) (hb0 : 0 < b) (hx : x = (k : Nat)) (hk : k ≤ 65536) :
    Calls Tryz.prog 25 #[.int .i64 a, .int .i64 x] w (Gives w .u32 (digs V (b ^ k))) := by
  subst ha; subst hx
  exact rpow_calls b k w hb hb0 (by omega)
/-- all numbers in play are short -/
theorem big_len {M K x : Nat} (hK : (Lib.decDigits M).length = K) (hk : K ≤ 8000) (hx : x ≤ 20 * M) : (digs V x).length ≤ 8192 ∧ (Lib.decDigits x).length ≤ 8192 := by
  have h1 := dec_upper M
  rw [hK] at h1
  have h2 : x < 10 ^ (K + 2) := by
    rw [Nat.pow_add, show 10 ^ 2 = 100 from rfl]
    generalize 10 ^ K = z at *
    omega
  have h3 := dec_len_le h2 (by omega)
  exact ⟨Nat.le_trans (rlen_of h3 (by omega)) (by omega), by omega⟩
theorem few_ref {l m h k : Nat} {ends a b lt eq odd : Bool} (ha : win ends l h (m / 10 ^ (k + 1) * 10 ^ (k + 1)) = a) (hb : win ends l h (m / 10 ^ (k + 1) * 10 ^ (k + 1) + 10 ^ (k + 1)) = b)
    (hl : decide (2 * (m % 10 ^ (k + 1)) < 10 ^ (k + 1)) = lt) (he : decide (2 * (m % 10 ^ (k + 1)) = 10 ^ (k + 1)) = eq) (ho : decide (m / 10 ^ (k + 1) % 2 = 1) = odd) :
    few l m h ends (k + 1) = if a && (!b || (lt || eq && !odd)) then m / 10 ^ (k + 1) * 10 ^ (k + 1) else if b then m / 10 ^ (k + 1) * 10 ^ (k + 1) + 10 ^ (k + 1) else few l m h ends k := by
  rw [few, ← hit_ref, ha, hb, hl, he, ho]
  split
  · rfl
  · split <;> rfl
/-- a number's first limb tells whether it is odd -/
theorem limb_odd {x : Nat} : rd (digs V x) 0 % 2 = x % 2 := by
  have h := val_digs V_two x
  cases e : digs V x with
  | nil =>
    rw [e, val_nil] at h
    rw [← h]; rfl
  | cons a l =>
    rw [e, val_cons] at h
    have : V % 2 = 0 := by decide
    show a % 2 = x % 2
    rw [← h, Nat.add_mod, Nat.mul_mod, this]
    simp
theorem limb_lt {x : Nat} : rd (digs V x) 0 < 65536 := by
  cases e : digs V x with
  | nil => decide
  | cons a l =>
    have := digs_lt V_two x a (by rw [e]; exact List.mem_cons_self)
    exact this
/-- the three amounts in one unit -/
def RS (w : World) (L M H : Nat) (U : Int) (s9 s10 s11 s13 : Value) (wx : World) : Prop :=
  ∃ A n c A' n' c' A'' n'' c'', s9 = .slice A n c ∧ s10 = .slice A' n' c' ∧ s11 = .slice A'' n'' c'' ∧ s13 = .int .i64 U ∧ SI wx .u32 A n c (digs V L) ∧ SI wx .u32 A' n' c' (digs V M) ∧ SI wx .u32 A'' n'' c'' (digs V H) ∧ Below w.heap.size w wx
theorem far_cases (r t : Nat) : (cmp (r + r) t = -1 ∧ decide (2 * r < t) = true ∧ decide (2 * r = t) = false) ∨ (cmp (r + r) t = 0 ∧ decide (2 * r < t) = false ∧ decide (2 * r = t) = true) ∨ (cmp (r + r) t = 1 ∧ decide (2 * r < t) = false ∧ decide (2 * r = t) = false) := by
  rcases cmp_three (r + r) t with ⟨h, e⟩ | ⟨h, e⟩ | ⟨h, e⟩
  · exact .inl ⟨e, by simp; omega, by simp; omega⟩
  · exact .inr (.inl ⟨e, by simp; omega, by simp; omega⟩)
  · exact .inr (.inr ⟨e, by simp; omega, by simp; omega⟩)
theorem ret_val {k : IntKind} {a b : Int} (h : a = b) : Value.int k a = .int k b := by rw [h]
theorem rtext_f (A : Option Addr) (n c M : Nat) (w : World) (h : SI w .u32 A n c (digs V M)) (hn : n ≤ 65536) :
    Calls Tryz.prog 51 #[.slice A n c] w fun e w' => e = .returned (.string ⟨(Lib.decDigits M).toArray⟩) ∧ Below w.heap.size w w' := Rw.rtext_calls A n c M w h (by omega)
theorem rdec_f (ng : Bool) (A : Option Addr) (n c a : Nat) (x : Int) (w : World) (h : SI w .u32 A n c (digs V a)) (h1 : (digs V a).length ≤ 8192) (h2 : (Lib.decDigits a).length ≤ 8192) (hx : -65536 ≤ x) (hx' : x ≤ 65536) :
    Calls Tryz.prog 31 #[.bool ng, .slice A n c, .int .i64 x] w fun e w' => e = .returned (.agg #[.int .i64 0, .bool ng, .string ⟨(cd a).toArray⟩, .int .i64 (ce a x)]) ∧ Below w.heap.size w w' :=
  rdec_calls ng A n c a x w h (by rw [← h.len]; omega) (by omega) hx hx'
theorem few_abs {L M H k t q s x1 x2 : Nat} {ends a b lt eq odd : Bool} (ht : t = 10 ^ (k + 1)) (hq : q = M / t) (hs : s = M % t) (hx1 : x1 = q * t) (hx2 : x2 = x1 + t) (ha : win ends L H x1 = a) (hb : win ends L H x2 = b)
    (hl : decide (2 * s < t) = lt) (he : decide (2 * s = t) = eq) (ho : decide (q % 2 = 1) = odd) :
    few L M H ends (k + 1) = if a && (!b || (lt || eq && !odd)) then x1 else if b then x2 else few L M H ends k := by
  subst ht; subst hq; subst hs; subst hx1; subst hx2
  exact few_ref ha hb hl he ho
theorem five_short {k : Nat} (h : k ≤ 4096) : (digs V (5 ^ k)).length ≤ 65536 := Nat.le_trans (rpow5_len k) (by omega)
theorem one_short {m : Nat} (h : m < U) : (digs V m).length ≤ 65536 := Nat.le_trans (rone_len h) (by omega)
end Go.Proofs.YtfddokfnplehkaaGreatDoor.Sh

/- Layer 3, the document: Of at every float; Wide, Narrow. -/
set_option linter.unusedSimpArgs false
set_option linter.unusedVariables false
namespace Go.Proofs.YtfddokfnplehkaaGreatDoor.Sh
open Go.RowKit Go.Proofs.YtfddokfnplehkaaGreatDoor.Dig Go.Proofs.YtfddokfnplehkaaGreatDoor.W Go.Proofs.YtfddokfnplehkaaGreatDoor.Nat Go.Proofs.YtfddokfnplehkaaGreatDoor.Wh Go.Proofs.YtfddokfnplehkaaGreatDoor.Td Go.Proofs.YtfddokfnplehkaaGreatDoor.Bu Go.Proofs.YtfddokfnplehkaaGreatDoor.Tx Go.Proofs.YtfddokfnplehkaaGreatDoor.Sp

theorem xF_zero_w : xF 52 1074 0 = 0 := by
  have : am 52 0 = 0 := by unfold am; simp
  unfold xF
  rw [this, Nat.zero_mul]
theorem xF_zero_n : xF 23 149 0 = 0 := by
  have : am 23 0 = 0 := by unfold am; simp
  unfold xF
  rw [this, Nat.zero_mul]
theorem wide_calls (w : World) : Calls Tryz.prog 15 #[] w fun e w' => e = .returned (.agg #[.int .i64 52, .int .i64 11]) ∧ Below w.heap.size w w' := by
  go_enter Tryz.func15, Tryz.ntmps15
  go_wp2
  exact bodyPost_ret (res_bk rfl _ (Bk.start w 32 #[.int .i64 52, .int .i64 11]) rfl Tryz.underlying32 rfl (by kernel_rfl)) rfl ⟨rfl, alloc_below _ _⟩
theorem narrow_calls (w : World) : Calls Tryz.prog 17 #[] w fun e w' => e = .returned (.agg #[.int .i64 23, .int .i64 8]) ∧ Below w.heap.size w w' := by
  go_enter Tryz.func17, Tryz.ntmps17
  go_wp2
  exact bodyPost_ret (res_bk rfl _ (Bk.start w 32 #[.int .i64 23, .int .i64 8]) rfl Tryz.underlying32 rfl (by kernel_rfl)) rfl ⟨rfl, alloc_below _ _⟩
end Go.Proofs.YtfddokfnplehkaaGreatDoor.Sh
