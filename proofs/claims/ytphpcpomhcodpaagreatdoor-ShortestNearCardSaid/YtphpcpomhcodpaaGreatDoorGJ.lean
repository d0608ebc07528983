/- Texts of one layer, joined: Ia, Ib, Ic, Id, Ie, If. -/
import Derived.Test.YtphpcpomhcodpaaGreatDoorGI
import Derived.Test.YtphpcpomhcodpaaGreatDoorGF
import Derived.Deep.DeepCutAuto
import Derived.Deep.CutBlock
set_option linter.unusedVariables false
set_option linter.unusedSimpArgs false
set_option linter.unusedSectionVars false
/- Layer 3, the document: the parts of a float. -/
set_option linter.unusedSimpArgs false
set_option linter.unusedVariables false
namespace Go.Proofs.YtphpcpomhcodpaaGreatDoor.Sh
open Go.RowKit Go.Proofs.YtphpcpomhcodpaaGreatDoor.Dig Go.Proofs.YtphpcpomhcodpaaGreatDoor.W Go.Proofs.YtphpcpomhcodpaaGreatDoor.Nat Go.Proofs.YtphpcpomhcodpaaGreatDoor.Wh Go.Proofs.YtphpcpomhcodpaaGreatDoor.Td Go.Proofs.YtphpcpomhcodpaaGreatDoor.Bu Go.Proofs.YtphpcpomhcodpaaGreatDoor.Tx Go.Proofs.YtphpcpomhcodpaaGreatDoor.Sp

theorem blk1 (w : World) (cs : Array Value) (t : TypeId) (n : Nat) : Bk ((w.alloc (.cells cs t)).drewN n) w.heap.size t cs ∧ Below w.heap.size w ((w.alloc (.cells cs t)).drewN n) :=
  ⟨(Bk.start w t cs).drewN n, (alloc_below w _).trans (((drewN_below _ _)).mono (by simp))⟩
theorem keep2 {w : World} {g : Nat} {t : TypeId} {M X : Int} (C1 : Bk w g t #[.int .i64 M, .int .i64 X]) : w.cell? ⟨g, 0, none⟩ = some (.int .i64 M) ∧ w.cell? ⟨g, 1, none⟩ = some (.int .i64 X) := ⟨C1.at_ 0 rfl, C1.at_ 1 rfl⟩
theorem bias_w (w : World) :
    Calls Tryz.prog 46 #[.agg #[.int .i64 52, .int .i64 11]] w fun e w' => e = .returned (.int .i64 1074) ∧ Below w.heap.size w w' := by
  go_enter Tryz.func46, Tryz.ntmps46
  go_wp2
  go_quiet (fail)
  go_wp2
  go_ret
  exact ⟨rfl, (blk1 w _ _ _).2⟩
theorem Fl.and1_w {bits x m : Nat} {ng : Bool} (H : Fl 52 11 bits ng x m) : (Go.bits .and .u64 ((bits : Int) / 9223372036854775808) 1 == 1) = ng := by
  have h1 := H.lt; have h2 := H.neg
  simp only [Nat.reducePow, Nat.reduceAdd] at h1 h2
  have := and_low (bits / 9223372036854775808) 1 (by omega) (by omega)
  rw [show ((bits : Int) / 9223372036854775808) = ((bits / 9223372036854775808 : Nat) : Int) by omega, show (1 : Int) = ((2 ^ 1 - 1 : Nat) : Int) from rfl, this]
  cases ng <;> simp at h2 ⊢ <;> omega
set_option maxHeartbeats 4000000 in
set_option maxRecDepth 100000 in
theorem rparts_inf_w {bits : Nat} {ng : Bool} (H : Fl 52 11 bits ng 2047 0) (w : World) :
    Calls Tryz.prog 24 #[.agg #[.int .i64 52, .int .i64 11], .int .u64 (bits : Nat)] w fun e w' =>
      e = .returned (.tuple #[.bool ng, .int .i64 1, .int .u64 0, .int .i64 0]) ∧ Below w.heap.size w w' := by
  obtain ⟨_, e1, e2, e3, x1, m1⟩ := H.facts_w
  have e0 := H.and1_w
  go_enter Tryz.func24, Tryz.ntmps24
  go_wp2
  go_quiet (fail)
  go_wp2
  refine bodyPost_ret (v := .tuple #[.bool ng, .int .i64 1, .int .u64 0, .int .i64 0]) (by simp [results, Tryz.results24, go_sem]) rfl ⟨rfl, (blk1 w _ _ _).2⟩
set_option maxHeartbeats 4000000 in
set_option maxRecDepth 100000 in
theorem rparts_nan_w {bits m : Nat} {ng : Bool} (H : Fl 52 11 bits ng 2047 m) (hm : m ≠ 0) (w : World) :
    Calls Tryz.prog 24 #[.agg #[.int .i64 52, .int .i64 11], .int .u64 (bits : Nat)] w fun e w' =>
      e = .returned (.tuple #[.bool false, .int .i64 2, .int .u64 0, .int .i64 0]) ∧ Below w.heap.size w w' := by
  obtain ⟨_, e1, e2, e3, x1, m1⟩ := H.facts_w
  have e0 := H.and1_w
  have h0 : ((m : Int) == 0) = false := by simp; omega
  have h0' : (m == 0) = false := by simp; omega
  go_enter Tryz.func24, Tryz.ntmps24
  go_wp2
  go_quiet (fail)
  go_wp2
  refine bodyPost_ret (v := .tuple #[.bool false, .int .i64 2, .int .u64 0, .int .i64 0]) (by simp [results, Tryz.results24, go_sem]) rfl ⟨rfl, (blk1 w _ _ _).2⟩
set_option maxHeartbeats 4000000 in
set_option maxRecDepth 100000 in
theorem rparts_sub_w {bits m : Nat} {ng : Bool} (H : Fl 52 11 bits ng 0 m) (w : World) :
    Calls Tryz.prog 24 #[.agg #[.int .i64 52, .int .i64 11], .int .u64 (bits : Nat)] w fun e w' =>
      e = .returned (.tuple #[.bool ng, .int .i64 0, .int .u64 (m : Nat), .int .i64 (-1074)]) ∧ Below w.heap.size w w' := by
  obtain ⟨_, e1, e2, e3, x1, m1⟩ := H.facts_w
  have e0 := H.and1_w
  go_enter Tryz.func24, Tryz.ntmps24
  go_wp2
  go_quiet (fail)
  obtain ⟨B1, bl⟩ := blk1 w #[.int .i64 52, .int .i64 11] 28 nq
  generalize (w.alloc (.cells #[.int .i64 52, .int .i64 11] 28)).drewN nq = Y at *
  have k0 := B1.at_ 0 rfl
  have k1 := B1.at_ 1 rfl
  go_wp2_with (go_at_call 46; (with_reducible refine (bias_w _).mono ?_); rintro e w1 ⟨rfl, b1⟩)
  refine bodyPost_ret (v := .tuple #[.bool ng, .int .i64 0, .int .u64 (m : Nat), .int .i64 (-1074)]) (by simp [results, Tryz.results24, go_sem]) rfl ⟨rfl, on bl b1⟩
set_option maxHeartbeats 4000000 in
set_option maxRecDepth 100000 in
theorem rparts_norm_w {bits x m : Nat} {ng : Bool} (H : Fl 52 11 bits ng (x + 1) m) (hx : x + 1 < 2047) (w : World) :
    Calls Tryz.prog 24 #[.agg #[.int .i64 52, .int .i64 11], .int .u64 (bits : Nat)] w fun e w' =>
      e = .returned (.tuple #[.bool ng, .int .i64 0, .int .u64 ((m + 4503599627370496 : Nat) : Int), .int .i64 ((x : Int) - 1074)]) ∧ Below w.heap.size w w' := by
  obtain ⟨_, e1, e2, e3, x1, m1⟩ := H.facts_w
  have e0 := H.and1_w
  have x2 : ((x : Int) + 1 == 2047) = false := by simp; omega
  have x3 : ((x : Int) + 1 == 0) = false := by simp; omega
  have s1 : IntKind.i64.wrap ((x : Int) + 1 - 1) = (x : Int) := by rw [IntWalk.i64_in _ (by omega)]; omega
  have s3 : IntKind.i64.wrap (x : Int) = (x : Int) := IntWalk.i64_in _ (by omega)
  have s2 : IntKind.i64.wrap ((x : Int) - 1074) = (x : Int) - 1074 := IntWalk.i64_in _ (by omega)
  have S1 := Lib.hid s1
  have S2 := Lib.hid s2
  have S3 := Lib.hid s3
  clear s1 s2 s3
  go_enter Tryz.func24, Tryz.ntmps24
  go_wp2
  go_quiet (fail)
  obtain ⟨B1, bl⟩ := blk1 w #[.int .i64 52, .int .i64 11] 28 nq
  generalize (w.alloc (.cells #[.int .i64 52, .int .i64 11] 28)).drewN nq = Y at *
  have k0 := B1.at_ 0 rfl
  have k1 := B1.at_ 1 rfl
  go_wp2_with fail
  clear k0 k1 x2 x3 e1 e2 e0
  have s1 := S1.out
  have s2 := S2.out
  have s3 := S3.out
  have kp : Y.drew.cell? ⟨w.heap.size, 0, none⟩ = some (.int .i64 52) ∧ Y.drew.cell? ⟨w.heap.size, 1, none⟩ = some (.int .i64 11) := ⟨B1.drew.at_ 0 rfl, B1.drew.at_ 1 rfl⟩
  go_region_held3 (fun w' => w'.cell? ⟨w.heap.size, 0, none⟩ = some (.int .i64 52) ∧ w'.cell? ⟨w.heap.size, 1, none⟩ = some (.int .i64 11))
    (first | (with_reducible exact kp) | (with_reducible exact kq))
    (first | (go_at_call 46; (with_reducible refine (bias_w _).mono ?_); rintro e w1 ⟨rfl, b1⟩; have C1 := B1.drew.below b1; have kq := keep2 C1))
  have p1 : IntKind.u64.wrap 4503599627370496 = 4503599627370496 := by decide
  all_goals
    go_wp2
    refine bodyPost_ret (v := .tuple #[.bool ng, .int .i64 0, .int .u64 ((m + 4503599627370496 : Nat) : Int), .int .i64 ((x : Int) - 1074)]) (by simp [results, Tryz.results24, go_sem, p1, e3]) rfl ⟨rfl, on (on bl (Below.refl _ _).drew) b1⟩
theorem rparts_fin_w {bits b : Nat} {ng : Bool} (H : Fb 9223372036854775808 bits ng b) (hx : b / 4503599627370496 < 2047) (w : World) :
    Calls Tryz.prog 24 #[.agg #[.int .i64 52, .int .i64 11], .int .u64 (bits : Nat)] w fun e w' =>
      e = .returned (.tuple #[.bool ng, .int .i64 0, .int .u64 (am 52 b : Nat), .int .i64 (((b / 4503599627370496 - 1 : Nat) : Int) - 1074)]) ∧ Below w.heap.size w w' := by
  have hF := H.fl_w
  unfold am
  simp only [Nat.reducePow]
  obtain ⟨x, hx'⟩ : ∃ x, x = b / 4503599627370496 := ⟨_, rfl⟩
  rw [← hx'] at hF hx ⊢
  cases x with
  | zero => rw [if_pos rfl]; exact rparts_sub_w hF w
  | succ x => rw [if_neg (by omega)]; exact rparts_norm_w hF hx w
theorem bias_n (w : World) :
    Calls Tryz.prog 46 #[.agg #[.int .i64 23, .int .i64 8]] w fun e w' => e = .returned (.int .i64 149) ∧ Below w.heap.size w w' := by
  go_enter Tryz.func46, Tryz.ntmps46
  go_wp2
  go_quiet (fail)
  go_wp2
  go_ret
  exact ⟨rfl, (blk1 w _ _ _).2⟩
theorem Fl.and1_n {bits x m : Nat} {ng : Bool} (H : Fl 23 8 bits ng x m) : (Go.bits .and .u64 ((bits : Int) / 2147483648) 1 == 1) = ng := by
  have h1 := H.lt; have h2 := H.neg
  simp only [Nat.reducePow, Nat.reduceAdd] at h1 h2
  have := and_low (bits / 2147483648) 1 (by omega) (by omega)
  rw [show ((bits : Int) / 2147483648) = ((bits / 2147483648 : Nat) : Int) by omega, show (1 : Int) = ((2 ^ 1 - 1 : Nat) : Int) from rfl, this]
  cases ng <;> simp at h2 ⊢ <;> omega
set_option maxHeartbeats 4000000 in
set_option maxRecDepth 100000 in
theorem rparts_inf_n {bits : Nat} {ng : Bool} (H : Fl 23 8 bits ng 255 0) (w : World) :
    Calls Tryz.prog 24 #[.agg #[.int .i64 23, .int .i64 8], .int .u64 (bits : Nat)] w fun e w' =>
      e = .returned (.tuple #[.bool ng, .int .i64 1, .int .u64 0, .int .i64 0]) ∧ Below w.heap.size w w' := by
  obtain ⟨_, e1, e2, e3, x1, m1⟩ := H.facts_n
  have e0 := H.and1_n
  go_enter Tryz.func24, Tryz.ntmps24
  go_wp2
  go_quiet (fail)
  go_wp2
  refine bodyPost_ret (v := .tuple #[.bool ng, .int .i64 1, .int .u64 0, .int .i64 0]) (by simp [results, Tryz.results24, go_sem]) rfl ⟨rfl, (blk1 w _ _ _).2⟩
set_option maxHeartbeats 4000000 in
set_option maxRecDepth 100000 in
theorem rparts_nan_n {bits m : Nat} {ng : Bool} (H : Fl 23 8 bits ng 255 m) (hm : m ≠ 0) (w : World) :
    Calls Tryz.prog 24 #[.agg #[.int .i64 23, .int .i64 8], .int .u64 (bits : Nat)] w fun e w' =>
      e = .returned (.tuple #[.bool false, .int .i64 2, .int .u64 0, .int .i64 0]) ∧ Below w.heap.size w w' := by
  obtain ⟨_, e1, e2, e3, x1, m1⟩ := H.facts_n
  have e0 := H.and1_n
  have h0 : ((m : Int) == 0) = false := by simp; omega
  have h0' : (m == 0) = false := by simp; omega
  go_enter Tryz.func24, Tryz.ntmps24
  go_wp2
  go_quiet (fail)
  go_wp2
  refine bodyPost_ret (v := .tuple #[.bool false, .int .i64 2, .int .u64 0, .int .i64 0]) (by simp [results, Tryz.results24, go_sem]) rfl ⟨rfl, (blk1 w _ _ _).2⟩
set_option maxHeartbeats 4000000 in
set_option maxRecDepth 100000 in
theorem rparts_sub_n {bits m : Nat} {ng : Bool} (H : Fl 23 8 bits ng 0 m) (w : World) :
    Calls Tryz.prog 24 #[.agg #[.int .i64 23, .int .i64 8], .int .u64 (bits : Nat)] w fun e w' =>
      e = .returned (.tuple #[.bool ng, .int .i64 0, .int .u64 (m : Nat), .int .i64 (-149)]) ∧ Below w.heap.size w w' := by
  obtain ⟨_, e1, e2, e3, x1, m1⟩ := H.facts_n
  have e0 := H.and1_n
  go_enter Tryz.func24, Tryz.ntmps24
  go_wp2
  go_quiet (fail)
  obtain ⟨B1, bl⟩ := blk1 w #[.int .i64 23, .int .i64 8] 28 nq
  generalize (w.alloc (.cells #[.int .i64 23, .int .i64 8] 28)).drewN nq = Y at *
  have k0 := B1.at_ 0 rfl
  have k1 := B1.at_ 1 rfl
  go_wp2_with (go_at_call 46; (with_reducible refine (bias_n _).mono ?_); rintro e w1 ⟨rfl, b1⟩)
  refine bodyPost_ret (v := .tuple #[.bool ng, .int .i64 0, .int .u64 (m : Nat), .int .i64 (-149)]) (by simp [results, Tryz.results24, go_sem]) rfl ⟨rfl, on bl b1⟩
set_option maxHeartbeats 4000000 in
set_option maxRecDepth 100000 in
theorem rparts_norm_n {bits x m : Nat} {ng : Bool} (H : Fl 23 8 bits ng (x + 1) m) (hx : x + 1 < 255) (w : World) :
    Calls Tryz.prog 24 #[.agg #[.int .i64 23, .int .i64 8], .int .u64 (bits : Nat)] w fun e w' =>
      e = .returned (.tuple #[.bool ng, .int .i64 0, .int .u64 ((m + 8388608 : Nat) : Int), .int .i64 ((x : Int) - 149)]) ∧ Below w.heap.size w w' := by
  obtain ⟨_, e1, e2, e3, x1, m1⟩ := H.facts_n
  have e0 := H.and1_n
  have x2 : ((x : Int) + 1 == 255) = false := by simp; omega
  have x3 : ((x : Int) + 1 == 0) = false := by simp; omega
  have s1 : IntKind.i64.wrap ((x : Int) + 1 - 1) = (x : Int) := by rw [IntWalk.i64_in _ (by omega)]; omega
  have s3 : IntKind.i64.wrap (x : Int) = (x : Int) := IntWalk.i64_in _ (by omega)
  have s2 : IntKind.i64.wrap ((x : Int) - 149) = (x : Int) - 149 := IntWalk.i64_in _ (by omega)
  have S1 := Lib.hid s1
  have S2 := Lib.hid s2
  have S3 := Lib.hid s3
  clear s1 s2 s3
  go_enter Tryz.func24, Tryz.ntmps24
  go_wp2
  go_quiet (fail)
  obtain ⟨B1, bl⟩ := blk1 w #[.int .i64 23, .int .i64 8] 28 nq
  generalize (w.alloc (.cells #[.int .i64 23, .int .i64 8] 28)).drewN nq = Y at *
  have k0 := B1.at_ 0 rfl
  have k1 := B1.at_ 1 rfl
  go_wp2_with fail
  clear k0 k1 x2 x3 e1 e2 e0
  have s1 := S1.out
  have s2 := S2.out
  have s3 := S3.out
  have kp : Y.drew.cell? ⟨w.heap.size, 0, none⟩ = some (.int .i64 23) ∧ Y.drew.cell? ⟨w.heap.size, 1, none⟩ = some (.int .i64 8) := ⟨B1.drew.at_ 0 rfl, B1.drew.at_ 1 rfl⟩
  go_region_held3 (fun w' => w'.cell? ⟨w.heap.size, 0, none⟩ = some (.int .i64 23) ∧ w'.cell? ⟨w.heap.size, 1, none⟩ = some (.int .i64 8))
    (first | (with_reducible exact kp) | (with_reducible exact kq))
    (first | (go_at_call 46; (with_reducible refine (bias_n _).mono ?_); rintro e w1 ⟨rfl, b1⟩; have C1 := B1.drew.below b1; have kq := keep2 C1))
  have p1 : IntKind.u64.wrap 8388608 = 8388608 := by decide
  all_goals
    go_wp2
    refine bodyPost_ret (v := .tuple #[.bool ng, .int .i64 0, .int .u64 ((m + 8388608 : Nat) : Int), .int .i64 ((x : Int) - 149)]) (by simp [results, Tryz.results24, go_sem, p1, e3]) rfl ⟨rfl, on (on bl (Below.refl _ _).drew) b1⟩
theorem rparts_fin_n {bits b : Nat} {ng : Bool} (H : Fb 2147483648 bits ng b) (hx : b / 8388608 < 255) (w : World) :
    Calls Tryz.prog 24 #[.agg #[.int .i64 23, .int .i64 8], .int .u64 (bits : Nat)] w fun e w' =>
      e = .returned (.tuple #[.bool ng, .int .i64 0, .int .u64 (am 23 b : Nat), .int .i64 (((b / 8388608 - 1 : Nat) : Int) - 149)]) ∧ Below w.heap.size w w' := by
  have hF := H.fl_n
  unfold am
  simp only [Nat.reducePow]
  obtain ⟨x, hx'⟩ : ∃ x, x = b / 8388608 := ⟨_, rfl⟩
  rw [← hx'] at hF hx ⊢
  cases x with
  | zero => rw [if_pos rfl]; exact rparts_sub_n hF w
  | succ x => rw [if_neg (by omega)]; exact rparts_norm_n hF hx w
end Go.Proofs.YtphpcpomhcodpaaGreatDoor.Sh

/- Layer 3, the document: limb, Amount, within. -/
set_option linter.unusedSimpArgs false
set_option linter.unusedVariables false
namespace Go.Proofs.YtphpcpomhcodpaaGreatDoor.Sh
open Go.RowKit Go.Proofs.YtphpcpomhcodpaaGreatDoor.Dig Go.Proofs.YtphpcpomhcodpaaGreatDoor.W Go.Proofs.YtphpcpomhcodpaaGreatDoor.Nat Go.Proofs.YtphpcpomhcodpaaGreatDoor.Wh Go.Proofs.YtphpcpomhcodpaaGreatDoor.Td Go.Proofs.YtphpcpomhcodpaaGreatDoor.Bu Go.Proofs.YtphpcpomhcodpaaGreatDoor.Tx Go.Proofs.YtphpcpomhcodpaaGreatDoor.Sp
open Go.Proofs.YtphpcpomhcodpaaGreatDoor.Rf (V V_two V_pos)

theorem rone_len {m : Nat} (h : m < U) : (digs V m).length ≤ 4 := (digs_length_le V_two _ _).2 (by unfold U at h; unfold Rf.V; omega)
theorem limb_calls (m : Nat) (x : Int) (w : World) (hm : m < U) (hx : x = (m : Nat)) :
    Calls Tryz.prog 35 #[.int .u64 x] w (Gives w .u32 (digs V m)) := by
  subst hx
  have e := Rf.in_calls (some ⟨w.heap.size, 0, none⟩) 1 1 [m] _ (lit_one w m) (fun y hy => by rw [List.mem_singleton] at hy; rw [hy]; exact hm) (by omega)
  rw [show val U [m] = m by rw [val_cons, val_nil, Nat.mul_zero, Nat.add_zero]] at e
  have HE := Lib.hid e
  have HB := Lib.hid (alloc_below w (.cells #[.int .u64 (m : Nat)] 22))
  clear e
  go_enter Tryz.func35, Tryz.ntmps35
  go_wp2_with (go_at_call 50; (with_reducible refine HE.out.mono ?_); rintro e w1 ⟨A1, n1, c1, rfl, r1, _, b1⟩)
  go_ret
  exact ⟨_, _, _, rfl, r1, on HB.out b1⟩
theorem rshl_e (A : Option Addr) (n c m k : Nat) (w : World) (h : SI w .u32 A n c (digs V m)) (hn : n ≤ 4398046511104) (hk : k ≤ 65536) :
    Calls Tryz.prog 28 #[.slice A n c, .int .i64 (k : Nat)] w (Rf.GivesF w .u32 (digs V (m * 2 ^ k))) := by
  have e := Rf.shl_calls A n c (digs V m) k w h (digs_lt V_two m) hn hk
  rw [val_digs V_two] at e
  exact e
theorem rpow5e (n : Nat) (w : World) (hn : n ≤ 1048576) : Calls Tryz.prog 26 #[.int .i64 5, .int .i64 (n : Nat)] w (Gives w .u32 (digs V (5 ^ n))) := rpow_calls 5 n w (by omega) (by omega) hn
theorem rpow10e (n : Nat) (w : World) (hn : n ≤ 1048576) : Calls Tryz.prog 26 #[.int .i64 10, .int .i64 (n : Nat)] w (Gives w .u32 (digs V (10 ^ n))) := rpow_calls 10 n w (by omega) (by omega) hn
theorem rpow5_len (k : Nat) : (digs V (5 ^ k)).length ≤ k + 1 := by
  refine (digs_length_le V_two _ _).2 ?_
  have h1 : 5 ^ k ≤ V ^ k := Nat.pow_le_pow_left (by unfold Rf.V; omega) k
  have h2 : V ^ k < V ^ (k + 1) := Nat.pow_lt_pow_right (by unfold Rf.V; omega) (Nat.lt_succ_self k)
  exact Nat.lt_of_le_of_lt h1 h2
/-- a whole number's amount, and where it stands -/
def GivesA (w : World) (m : Nat) (x : Int) (e : Ending) (w' : World) : Prop := ∃ A n c, e = .returned (.tuple #[.slice A n c, .int .i64 x]) ∧ SI w' .u32 A n c (digs V m) ∧ Below w.heap.size w w'
set_option maxHeartbeats 4000000 in
theorem amount_up (A : Option Addr) (n c m k : Nat) (w : World) (h : SI w .u32 A n c (digs V m)) (hn : n ≤ 65536) (hk : k ≤ 4096) :
    Calls Tryz.prog 34 #[.slice A n c, .int .i64 (k : Nat)] w (GivesA w (m * 2 ^ k) 0) := by
  have HS := Lib.hid (rshl_e A n c m k w h (by omega) (by omega))
  generalize m * 2 ^ k = x at *
  clear h
  go_enter Tryz.func34, Tryz.ntmps34
  go_wp2_with (go_at_call 28; (with_reducible refine HS.out.mono ?_); rintro e w1 ⟨A1, n1, c1, rfl, r1, _, b1⟩)
  go_ret2
  exact ⟨_, _, _, rfl, r1, b1⟩
set_option maxHeartbeats 4000000 in
theorem amount_down (A : Option Addr) (n c m k : Nat) (w : World) (h : SI w .u32 A n c (digs V m)) (hn : n ≤ 65536) (h0 : 0 < k) (hk : k ≤ 4096) :
    Calls Tryz.prog 34 #[.slice A n c, .int .i64 (-(k : Int))] w (GivesA w (m * 5 ^ k) (-(k : Int))) := by
  have HP := Lib.hid (rpow5e k w (by omega))
  have HL := Lib.hid (rpow5_len k)
  have HS := Lib.hid (fun (A' : Option Addr) (n' c' : Nat) (w1 : World) (b : Below w.heap.size w w1) (h' : SI w1 .u32 A' n' c' (digs V (5 ^ k))) => rmul_d A A' n c n' c' m (5 ^ k) w1 (h.below b) h' (by omega) (by rw [← h'.len]; have := HL.out; omega))
  generalize m * 5 ^ k = x at *
  generalize 5 ^ k = y at *
  clear h
  go_enter Tryz.func34, Tryz.ntmps34
  go_wp2_with (first
    | (go_at_call 26; (with_reducible refine HP.out.mono ?_); rintro e w1 ⟨A1, n1, c1, rfl, r1, b1⟩)
    | (go_at_call 27; (with_reducible refine (HS.out A1 n1 c1 w1 b1 r1).mono ?_); rintro e w2 ⟨A2, n2, c2, rfl, r2, _, b2⟩))
  go_ret2
  exact ⟨_, _, _, rfl, r2, on b1 b2⟩
theorem amount_at (A : Option Addr) (n c m Z v : Nat) (E : Int) (w : World) (h : SI w .u32 A n c (digs V m)) (hn : n ≤ 65536) (hE : E = (v : Int) - (Z : Int)) (hZ : Z ≤ 4096) (hv : v ≤ 4096) :
    Calls Tryz.prog 34 #[.slice A n c, .int .i64 E] w (GivesA w (m * sf Z v) ((un Z v : Nat) - (Z : Int))) := by
  rcases Nat.lt_or_ge v Z with hl | hl
  · obtain ⟨k, hk⟩ : ∃ k, v + k = Z := ⟨Z - v, by omega⟩
    obtain ⟨e1, e2⟩ := sf_down hk (by omega)
    obtain rfl : E = -(k : Int) := by omega
    rw [e1, e2, show ((v : Nat) : Int) - (Z : Int) = -(k : Int) by omega]
    exact amount_down A n c m k w h hn (by omega) (by omega)
  · obtain ⟨k, rfl⟩ : ∃ k, v = Z + k := ⟨v - Z, by omega⟩
    obtain ⟨e1, e2⟩ := sf_up Z k
    obtain rfl : E = (k : Nat) := by omega
    rw [e1, e2, show ((Z : Nat) : Int) - (Z : Int) = 0 by omega]
    exact amount_up A n c m k w h hn (by omega)
theorem rcmp_d (A A' : Option Addr) (n c n' c' x y : Nat) (w : World) (h : SI w .u32 A n c (digs V x)) (h' : SI w .u32 A' n' c' (digs V y)) :
    Calls Tryz.prog 21 #[.slice A n c, .slice A' n' c'] w fun e w' => e = .returned (.int .i64 (cmp x y)) ∧ Drawn w w' := by
  have e := Rf.cmp_calls A A' n c n' c' (digs V x) (digs V y) w h h' (digs_lt V_two x) (digs_lt V_two y)
  rw [val_digs V_two, val_digs V_two] at e
  exact e
theorem cmp_three (x y : Nat) : (x < y ∧ cmp x y = -1) ∨ (x = y ∧ cmp x y = 0) ∨ (y < x ∧ cmp x y = 1) := by
  unfold cmp
  rcases Nat.lt_trichotomy x y with h | h | h
  · exact .inl ⟨h, if_pos h⟩
  · exact .inr (.inl ⟨h, by rw [if_neg (by omega), if_neg (by omega)]⟩)
  · exact .inr (.inr ⟨h, by rw [if_neg (by omega), if_pos h]⟩)
/-- does a lie from l to h? -/
theorem inside_calls (Al Aa Ah : Option Addr) (nl cl na ca nh ch l a h : Nat) (ends : Bool) (w : World) (hl : SI w .u32 Al nl cl (digs V l)) (ha : SI w .u32 Aa na ca (digs V a)) (hh : SI w .u32 Ah nh ch (digs V h)) :
    Calls Tryz.prog 31 #[.slice Al nl cl, .slice Aa na ca, .slice Ah nh ch, .bool ends] w fun e w' => e = .returned (.bool (win ends l h a)) ∧ Drawn w w' := by
  have H1 := rcmp_d Al Aa nl cl na ca l a w hl ha
  have H2 := fun w1 (d : Drawn w w1) => rcmp_d Aa Ah na ca nh ch a h w1 (ha.below d.below) (hh.below d.below)
  have e : ∃ c1 c2 : Int, cmp l a = c1 ∧ cmp a h = c2 ∧ ((c1 = -1 ∧ l < a) ∨ (c1 = 0 ∧ l = a) ∨ (c1 = 1 ∧ a < l)) ∧ ((c2 = -1 ∧ a < h) ∨ (c2 = 0 ∧ a = h) ∨ (c2 = 1 ∧ h < a)) := by
    refine ⟨_, _, rfl, rfl, ?_, ?_⟩
    · rcases cmp_three l a with ⟨x, y⟩ | ⟨x, y⟩ | ⟨x, y⟩
      · exact .inl ⟨y, x⟩
      · exact .inr (.inl ⟨y, x⟩)
      · exact .inr (.inr ⟨y, x⟩)
    · rcases cmp_three a h with ⟨x, y⟩ | ⟨x, y⟩ | ⟨x, y⟩
      · exact .inl ⟨y, x⟩
      · exact .inr (.inl ⟨y, x⟩)
      · exact .inr (.inr ⟨y, x⟩)
  obtain ⟨c1, c2, g1, g2, e1, e2⟩ := e
  rw [g1] at H1
  simp only [g2] at H2
  obtain ⟨q, hq⟩ : ∃ q, q = win ends l h a := ⟨_, rfl⟩
  rw [← hq]
  have HQ := Lib.hid hq
  have G1 := Lib.hid H1
  have G2 := Lib.hid H2
  clear H1 H2 g1 g2 hq hl ha hh
  rcases e1 with ⟨rfl, e1⟩ | ⟨rfl, e1⟩ | ⟨rfl, e1⟩ <;> rcases e2 with ⟨rfl, e2⟩ | ⟨rfl, e2⟩ | ⟨rfl, e2⟩ <;> cases ends
  all_goals
    have E1 := Lib.hid e1
    have E2 := Lib.hid e2
    clear e1 e2
    go_enter Tryz.func31, Tryz.ntmps31
    go_wp2_with (first
      | (go_at_call 21; (with_reducible refine G1.out.mono ?_); rintro e w1 ⟨rfl, d1⟩)
      | (go_at_call 21; (with_reducible refine (G2.out w1 d1).mono ?_); rintro e w2 ⟨rfl, d2⟩))
    go_ret
    have e1 := E1.out
    have e2 := E2.out
    exact ⟨by rw [HQ.out]; simp [win]; first | omega | rfl | skip, d1.trans d2⟩
end Go.Proofs.YtphpcpomhcodpaaGreatDoor.Sh

/- Layer 3, the document: Dec, Exact, reach. -/
set_option linter.unusedSimpArgs false
set_option linter.unusedVariables false
namespace Go.Proofs.YtphpcpomhcodpaaGreatDoor.Sh
open Go.RowKit Go.Proofs.YtphpcpomhcodpaaGreatDoor.Dig Go.Proofs.YtphpcpomhcodpaaGreatDoor.W Go.Proofs.YtphpcpomhcodpaaGreatDoor.Nat Go.Proofs.YtphpcpomhcodpaaGreatDoor.Wh Go.Proofs.YtphpcpomhcodpaaGreatDoor.Td Go.Proofs.YtphpcpomhcodpaaGreatDoor.Bu Go.Proofs.YtphpcpomhcodpaaGreatDoor.Tx Go.Proofs.YtphpcpomhcodpaaGreatDoor.Sp
open Go.Proofs.YtphpcpomhcodpaaGreatDoor.Rf (V V_two V_pos)

theorem last_gen (l : List UInt8) (b : UInt8) (i : Nat) (hi : i = l.length) (h : i < (⟨(l ++ [b]).toArray⟩ : ByteArray).size) : (⟨(l ++ [b]).toArray⟩ : ByteArray)[i] = b := by
  subst hi
  have e1 := Lib.getElem_mk (l ++ [b]) _ h
  rw [List.getElem?_append_right (Nat.le_refl _), Nat.sub_self] at e1
  simp only [List.getElem?_cons_zero, Option.some.injEq] at e1
  exact e1.symm
/-- the last byte of a text -/
theorem last_at (l : List UInt8) (b : UInt8) (h : (⟨(l ++ [b]).toArray⟩ : ByteArray).size - 1 < (⟨(l ++ [b]).toArray⟩ : ByteArray).size) : (⟨(l ++ [b]).toArray⟩ : ByteArray)[(⟨(l ++ [b]).toArray⟩ : ByteArray).size - 1] = b :=
  last_gen l b _ (by rw [size_of, List.length_append, List.length_singleton, Nat.add_sub_cancel]) h
theorem cut_last (l : List UInt8) (b : UInt8) : (⟨(l ++ [b]).toArray⟩ : ByteArray).extract 0 ((⟨(l ++ [b]).toArray⟩ : ByteArray).size - 1) = ⟨l.toArray⟩ := by
  rw [Lib.extract_upto, size_of]
  show (⟨((l ++ [b]).take _).toArray⟩ : ByteArray) = _
  rw [List.length_append, List.length_singleton, Nat.add_sub_cancel, List.take_left]
/-- digits, and i noughts behind -/
structure Tz (B : List UInt8) (i : Nat) (S : ByteArray) : Prop where
  e : S = ⟨(B ++ List.replicate i 48).toArray⟩
theorem Tz.size {B : List UInt8} {i : Nat} {S : ByteArray} (h : Tz B i S) : S.size = B.length + i := by rw [h.e, size_of, List.length_append, List.length_replicate]
theorem Tz.step {B : List UInt8} {i : Nat} {S : ByteArray} (h : Tz B (i + 1) S) : Tz B i (S.extract 0 (S.size - 1)) ∧ ∀ hl : S.size - 1 < S.size, S[S.size - 1] = 48 := by
  obtain ⟨rfl⟩ := h
  rw [List.replicate_succ', ← List.append_assoc]
  exact ⟨⟨cut_last _ _⟩, fun hl => last_at _ _ hl⟩
theorem Tz.stop {r : List UInt8} {c : UInt8} {S : ByteArray} (h : Tz (r ++ [c]) 0 S) : ∀ hl : S.size - 1 < S.size, S[S.size - 1] = c := by
  obtain ⟨rfl⟩ := h
  rw [List.replicate_zero, List.append_nil]
  exact fun hl => last_at _ _ hl
set_option maxHeartbeats 4000000 in
set_option maxRecDepth 100000 in
theorem rdec_calls (ng : Bool) (A : Option Addr) (n c a : Nat) (x : Int) (w : World) (h : SI w .u32 A n c (digs V a)) (hn : n ≤ 65536) (hl : (Lib.decDigits a).length ≤ 65536) (hx : -65536 ≤ x) (hx' : x ≤ 65536) :
    Calls Tryz.prog 32 #[.bool ng, .slice A n c, .int .i64 x] w fun e w' => e = .returned (.agg (dec 0 ng (cd a) (ce a x))) ∧ Below w.heap.size w w' := by
  have b0 := alloc_below w (.cells #[.int .i64 0, .bool false, .string ⟨#[]⟩, .int .i64 0] 25)
  have HT := Lib.hid (Rw.rtext_calls A n c a _ (h.below b0) (by omega))
  have HB := Lib.hid b0
  have HK := Lib.hid (Bk.start w 25 #[.int .i64 0, .bool false, .string ⟨#[]⟩, .int .i64 0])
  clear b0 h
  by_cases h0 : a = 0
  · subst h0
    rw [cd_zero, ce_zero]
    rw [dec_small (show 0 < 10 by omega), show db 0 = 48 from rfl] at HT
    go_enter Tryz.func32, Tryz.ntmps32
    go_wp2_with (go_at_call 29; (with_reducible refine HT.out.mono ?_); rintro e w1 ⟨rfl, b1⟩; have q := HK.out.below b1; have q0 := q.at_ 0 rfl; have q1 := q.at_ 1 rfl; have q2 := q.at_ 2 rfl; have q3 := q.at_ 3 rfl; have f0 := q.fr 0; have f1 := q.fr 1; have f2 := q.fr 2; have f3 := q.fr 3)
    refine bodyPost_ret (res_bk rfl _ (Bk.set4 q (.int .i64 0) (.bool ng) (.string ⟨#[]⟩) (.int .i64 0) rfl) rfl Tryz.underlying25 rfl (by kernel_rfl)) rfl ⟨rfl, ?_⟩
    have hs : w.heap.size ≤ w.heap.size := Nat.le_refl _
    exact ((((on HB.out b1).setCell hs _).setCell hs _).setCell hs _).setCell hs _
  · obtain ⟨b, ha, hb⟩ := tz_spec a h0
    obtain ⟨j, hj⟩ : ∃ j, j = tz a := ⟨_, rfl⟩
    rw [← hj] at ha
    have hb0 : b ≠ 0 := fun e => hb (by rw [e])
    have hc : cd a = Lib.decDigits b := by rw [ha, cd_of hb]
    have he : ce a x = x + (j : Int) := by rw [ha, ce_of hb]
    have hd : Lib.decDigits a = Lib.decDigits b ++ List.replicate j 48 := by rw [ha, dec_mul_pow b j hb0]
    obtain ⟨r, cc, hr, h48⟩ := dec_last hb
    rw [hc, he]
    rw [hd, hr] at HT hl
    rw [hr]
    rw [List.length_append, List.length_append, List.length_replicate, List.length_singleton] at hl
    obtain ⟨S, hS⟩ : ∃ S : ByteArray, S = ⟨(r ++ [cc] ++ List.replicate j 48).toArray⟩ := ⟨_, rfl⟩
    have hZ : Tz (r ++ [cc]) j S := ⟨hS⟩
    have hne : (S.toList == [48]) = false := by
      rw [hS, ByteArray.toList_mk, beq_eq_false_iff_ne]
      intro e2
      cases r with
      | nil =>
        simp at e2
        rw [e2.1] at h48
        cases h48
      | cons y r => simp at e2
    rw [← hS] at HT
    have HZ := Lib.hid hZ
    have H48 := Lib.hid h48
    have HJ : Hid (j ≤ 65536) := by unfold Hid; omega
    have hrl : r.length ≤ 65536 := by omega
    clear ha hb hb0 hc he hd hr hS hZ h48 hl h0
    go_enter Tryz.func32, Tryz.ntmps32
    go_wp2_with (go_at_call 29; (with_reducible refine HT.out.mono ?_); rintro e w1 ⟨rfl, b1⟩)
    clear hne HT
    go_loopw [2, 7] (fun y z wr => ∃ (i : Nat) (S' : ByteArray), z = .string S' ∧ y = .int .i64 (x + ((j - i : Nat) : Int)) ∧ Hid (i ≤ j) ∧ Hid (Tz (r ++ [cc]) i S') ∧ w1 = wr) (fun _ z _ => Lib.strSize z)
    case atStart => exact ⟨j, S, rfl, by rw [Nat.sub_self]; simp, Nat.le_refl _, HZ.out, rfl⟩
    case round =>
      obtain ⟨i, S', rfl, rfl, HI, HT, rfl⟩ := hrel
      have hsz := HT.out.size
      rw [List.length_append, List.length_singleton] at hsz
      have hj := HJ.out
      have hi := HI.out
      have z1 : 1 ≤ S'.size := by omega
      have z2 : S'.size ≤ 200000 := by omega
      have z3 : S'.size - 1 < S'.size := by omega
      have z4 : (1 : Int) ≤ (S'.size : Int) := by omega
      obtain ⟨d, hd⟩ : ∃ d, d = j - i := ⟨_, rfl⟩
      have hd2 : d ≤ 65536 := by omega
      rw [← hd]
      cases i with
      | zero =>
        have hb : ((S'[S'.size - 1].toNat : Int) == 48) = false := by
          rw [HT.out.stop z3]
          have h := H48.out
          cases e : ((cc.toNat : Int) == 48) with
          | false => rfl
          | true =>
            have : cc.toNat = 48 := by have := of_decide_eq_true e; omega
            have : cc = 48 := UInt8.toNat_inj.mp this
            rw [this] at h
            cases h
        have e1 : S' = ⟨(r ++ [cc]).toArray⟩ := by rw [HT.out.e, List.replicate_zero, List.append_nil]
        have E1 := Lib.hid e1
        have E2 := Lib.hid (show d = j by omega)
        have q := HK.out.below b1
        have q0 := q.at_ 0 rfl; have q1 := q.at_ 1 rfl; have q2 := q.at_ 2 rfl; have q3 := q.at_ 3 rfl; have f0 := q.fr 0; have f1 := q.fr 1; have f2 := q.fr 2; have f3 := q.fr 3
        clear e1 hsz hd hi hj
        go_wp2
        rw [← E2.out]
        refine bodyPost_ret (res_bk rfl _ (Bk.set4 q (.int .i64 0) (.bool ng) (.string S') (.int .i64 (x + (d : Int))) rfl) rfl Tryz.underlying25 rfl (by kernel_rfl)) rfl ⟨?_, ?_⟩
        · unfold dec str; rw [← E1.out]
        have hs : w.heap.size ≤ w.heap.size := Nat.le_refl _
        exact ((((on HB.out b1).setCell hs _).setCell hs _).setCell hs _).setCell hs _
      | succ i =>
        obtain ⟨t1, t2⟩ := HT.out.step
        have hb : ((S'[S'.size - 1].toNat : Int) == 48) = true := by rw [t2 z3]; rfl
        have T1 := Lib.hid t1
        have hsz2 := t1.size
        have HD := Lib.hid (show j - i = d + 1 by omega)
        clear t1 t2 hsz hsz2 hd hj
        go_wp2
        go_roundw
        case rel => exact ⟨i, _, rfl, by rw [HD.out]; go_num, by have := HI.out; unfold Hid; omega, T1.out, trivial⟩
        case measure => show (S'.extract 0 (S'.size - 1)).size < S'.size; rw [ByteArray.size_extract]; omega
end Go.Proofs.YtphpcpomhcodpaaGreatDoor.Sh

/- Layer 3, the document: Exact, reach. -/
set_option linter.unusedSimpArgs false
set_option linter.unusedVariables false
namespace Go.Proofs.YtphpcpomhcodpaaGreatDoor.Sh
open Go.RowKit Go.Proofs.YtphpcpomhcodpaaGreatDoor.Dig Go.Proofs.YtphpcpomhcodpaaGreatDoor.W Go.Proofs.YtphpcpomhcodpaaGreatDoor.Nat Go.Proofs.YtphpcpomhcodpaaGreatDoor.Wh Go.Proofs.YtphpcpomhcodpaaGreatDoor.Td Go.Proofs.YtphpcpomhcodpaaGreatDoor.Bu Go.Proofs.YtphpcpomhcodpaaGreatDoor.Tx Go.Proofs.YtphpcpomhcodpaaGreatDoor.Sp
open Go.Proofs.YtphpcpomhcodpaaGreatDoor.Rf (V V_two V_pos)

theorem rlen_of {a K : Nat} (h : (Lib.decDigits a).length ≤ K) (hK : 0 < K) : (digs V a).length ≤ K := by
  refine (digs_length_le V_two _ _).2 (Nat.lt_of_lt_of_le (dec_upper a) ?_)
  exact Nat.le_trans (Nat.pow_le_pow_left (by unfold Rf.V; omega) _) (Nat.pow_le_pow_right V_pos h)
set_option maxHeartbeats 4000000 in
set_option maxRecDepth 100000 in
theorem rexact_odd_w {bits : Nat} {q : Int} {ng : Bool} (hq : (q == 0) = false) (w : World)
    (HA : ∀ w, Calls Tryz.prog 24 #[.agg #[.int .i64 52, .int .i64 11], .int .u64 (bits : Nat)] w fun e w' =>
      e = .returned (.tuple #[.bool ng, .int .i64 q, .int .u64 0, .int .i64 0]) ∧ Below w.heap.size w w') :
    Calls Tryz.prog 15 #[.agg #[.int .i64 52, .int .i64 11], .int .u64 (bits : Nat)] w fun e w' => e = .returned (.agg (dec q ng [] 0)) ∧ Below w.heap.size w w' := by
  have HA := Lib.hid HA
  obtain ⟨_, B2, bl⟩ := blk_two w #[.int .i64 52, .int .i64 11] #[.int .i64 0, .bool false, .string ⟨#[]⟩, .int .i64 0] 28 25
  have HB := Lib.hid bl
  have HB2 := Lib.hid B2
  clear B2 bl
  go_enter Tryz.func15, Tryz.ntmps15
  go_wp2_with (go_at_call 24; (with_reducible refine (HA.out _).mono ?_); rintro e w1 ⟨rfl, b1⟩; have B3 := HB2.out.below b1; have f0 := B3.fr 0; have f1 := B3.fr 1; have f2 := B3.fr 2; have f3 := B3.fr 3; have q0 := B3.at_ 0 rfl; have q1 := B3.at_ 1 rfl; have q2 := B3.at_ 2 rfl; have q3 := B3.at_ 3 rfl)
  refine bodyPost_ret (res_bk rfl _ (B3.set4 (.int .i64 q) (.bool ng) (.string ⟨#[]⟩) (.int .i64 0) rfl) rfl Tryz.underlying25 rfl (by kernel_rfl)) rfl ⟨rfl, ?_⟩
  have hs : w.heap.size ≤ w.heap.size + 1 := Nat.le_succ _
  exact ((((on HB.out b1).setCell hs _).setCell hs _).setCell hs _).setCell hs _
set_option maxHeartbeats 4000000 in
set_option maxRecDepth 100000 in
theorem rexact_fin_w {bits m v : Nat} {ng : Bool} (hm : m < U) (hv : v ≤ 4096) (w : World)
    (HA : ∀ w, Calls Tryz.prog 24 #[.agg #[.int .i64 52, .int .i64 11], .int .u64 (bits : Nat)] w fun e w' =>
      e = .returned (.tuple #[.bool ng, .int .i64 0, .int .u64 (m : Nat), .int .i64 ((v : Int) - 1074)]) ∧ Below w.heap.size w w') :
    Calls Tryz.prog 15 #[.agg #[.int .i64 52, .int .i64 11], .int .u64 (bits : Nat)] w fun e w' => e = .returned (.agg (dec 0 ng (cd (m * sf 1074 v)) (ce (m * sf 1074 v) ((un 1074 v : Nat) - (1074 : Nat))))) ∧ Below w.heap.size w w' := by
  have HA := Lib.hid HA
  have hl := dig_len (Z := 1074) hm (by omega) hv
  have hun : un 1074 v ≤ 4096 := by unfold un; split <;> omega
  have H1 := Lib.hid (fun w1 => limb_calls m (m : Nat) w1 hm rfl)
  have hM : (digs V m).length ≤ 4 := rone_len hm
  have hR : (digs V (m * sf 1074 v)).length ≤ 4116 := rlen_of hl (by omega)
  have h2 : ∀ (A : Option Addr) (n c : Nat) (w1 : World), SI w1 .u32 A n c (digs V m) → Calls Tryz.prog 34 #[.slice A n c, .int .i64 ((v : Int) - 1074)] w1 (GivesA w1 (m * sf 1074 v) ((un 1074 v : Nat) - 1074)) := fun A n c w1 h => amount_at A n c m 1074 v _ w1 h (by rw [← h.len]; omega) rfl (by omega) hv
  have h3 : ∀ (A : Option Addr) (n c : Nat) (w1 : World), SI w1 .u32 A n c (digs V (m * sf 1074 v)) → Calls Tryz.prog 32 #[.bool ng, .slice A n c, .int .i64 ((un 1074 v : Nat) - 1074)] w1 fun e w' => e = .returned (.agg #[.int .i64 0, .bool ng, .string ⟨(cd (m * sf 1074 v)).toArray⟩, .int .i64 (ce (m * sf 1074 v) ((un 1074 v : Nat) - ((1074 : Nat) : Int)))]) ∧ Below w1.heap.size w1 w' := fun A n c w1 h => rdec_calls ng A n c (m * sf 1074 v) _ w1 h (by rw [← h.len]; omega) (by omega) (by omega) (by omega)
  have H2 := Lib.hid h2
  have H3 := Lib.hid h3
  obtain ⟨_, B2, bl⟩ := blk_two w #[.int .i64 52, .int .i64 11] #[.int .i64 0, .bool false, .string ⟨#[]⟩, .int .i64 0] 28 25
  have HB := Lib.hid bl
  have HB2 := Lib.hid B2
  clear B2 bl hl hM hR h2 h3 hm hun hv
  generalize ce (m * sf 1074 v) ((un 1074 v : Nat) - ((1074 : Nat) : Int)) = x at *
  generalize un 1074 v = u at *
  generalize m * sf 1074 v = a at *
  go_enter Tryz.func15, Tryz.ntmps15
  go_wp2_with (first
    | (go_at_call 24; (with_reducible refine (HA.out _).mono ?_); rintro e w1 ⟨rfl, b1⟩)
    | (go_at_call 35; (with_reducible refine (H1.out _).mono ?_); rintro e w2 ⟨A2, n2, c2, rfl, r2, b2⟩)
    | (go_at_call 34; (with_reducible refine (H2.out A2 n2 c2 _ r2).mono ?_); rintro e w3 ⟨A3, n3, c3, rfl, r3, b3⟩)
    | (go_at_call 32; (with_reducible refine (H3.out A3 n3 c3 _ r3).mono ?_); rintro e w4 ⟨rfl, b4⟩; have B3 := (((HB2.out.below b1).below b2).below b3).below b4; have f0 := B3.fr 0; have f1 := B3.fr 1; have f2 := B3.fr 2; have f3 := B3.fr 3; have q0 := B3.at_ 0 rfl; have q1 := B3.at_ 1 rfl; have q2 := B3.at_ 2 rfl; have q3 := B3.at_ 3 rfl))
  refine bodyPost_ret (res_bk rfl _ (B3.set4 (.int .i64 0) (.bool ng) (.string ⟨(cd a).toArray⟩) (.int .i64 x) rfl) rfl Tryz.underlying25 rfl (by kernel_rfl)) rfl ⟨rfl, ?_⟩
  have hs : w.heap.size ≤ w.heap.size + 1 := Nat.le_succ _
  exact ((((on (on (on (on HB.out b1) b2) b3) b4).setCell hs _).setCell hs _).setCell hs _).setCell hs _
theorem rexact_calls_w {bits : Nat} (hb : bits < 18446744073709551616) (w : World) :
    Calls Tryz.prog 15 #[.agg #[.int .i64 52, .int .i64 11], .int .u64 (bits : Nat)] w fun e w' => e = .returned (.agg (eV_w bits)) ∧ Below w.heap.size w w' := by
  have H := fb_w hb
  have HL := H.fl_w
  unfold eV_w
  have hlt : bits % 9223372036854775808 / 4503599627370496 ≤ 2047 := by omega
  generalize bits % 9223372036854775808 = b at *
  generalize decide (bits / 9223372036854775808 = 1) = ng at *
  split
  · next h =>
    rw [h] at HL
    split
    · next h2 =>
      rw [h2] at HL
      exact rexact_odd_w (by decide) w (rparts_inf_w HL)
    · next h2 => exact rexact_odd_w (by decide) w (rparts_nan_w HL h2)
  · next h => exact rexact_fin_w (am_lt_w b) (by omega) w (rparts_fin_w H (by omega))
/-- a float's reach, its ends' kind -/
def GivesH_w (w : World) (l m h : Nat) (ends : Bool) (e : Ending) (w' : World) : Prop := ∃ A n c A' n' c' A'' n'' c'', e = .returned (.tuple #[.slice A n c, .slice A' n' c', .slice A'' n'' c'', .bool ends]) ∧ SI w' .u32 A n c (digs V l) ∧ SI w' .u32 A' n' c' (digs V m) ∧ SI w' .u32 A'' n'' c'' (digs V h) ∧ Below w.heap.size w w'
set_option maxHeartbeats 4000000 in
set_option maxRecDepth 100000 in
theorem reach_w (m v : Nat) (nb : Bool) (w : World) (hm : m < 2 * 4503599627370496) (h0 : 0 < m) (hv : v ≤ 2046) (hnb : nb = (decide (m = 4503599627370496) && decide (0 < v))) :
    Calls Tryz.prog 25 #[.agg #[.int .i64 52, .int .i64 11], .int .u64 (m : Nat), .int .i64 ((v : Int) - 1074)] w (GivesH_w w (4 * m - nrv nb) (4 * m) (4 * m + 2) (decide (m % 2 = 0))) := by
  have D1 := Lib.hid (fun x w1 hx => limb_calls (4 * m - 2) x w1 (by unfold U; omega) hx)
  have D2 := Lib.hid (fun x w1 hx => limb_calls (4 * m - 1) x w1 (by unfold U; omega) hx)
  have D3 := Lib.hid (fun x w1 hx => limb_calls (4 * m) x w1 (by unfold U; omega) hx)
  have D4 := Lib.hid (fun x w1 hx => limb_calls (4 * m + 2) x w1 (by unfold U; omega) hx)
  obtain ⟨B1, bl⟩ := blk1 w #[.int .i64 52, .int .i64 11] 28 0
  have HB := Lib.hid B1
  have HL := Lib.hid bl
  have hev : ∃ ev, decide (m % 2 = 0) = ev := ⟨_, rfl⟩
  obtain ⟨ev, hev⟩ := hev
  rw [hev]
  have t2 : ((m : Int) % 2 == 0) = ev := by rw [← hev]; rw [Bool.eq_iff_iff]; simp; omega
  clear B1 bl hev
  by_cases h1 : m = 4503599627370496
  · rcases Nat.eq_zero_or_pos v with h2 | h2
    · have hr : nrv nb = 2 := by subst h1; subst h2; rw [hnb]; rfl
      rw [hr]
      subst h2
      have hme : ((m : Int) == 4503599627370496) = true := by simp; omega
      have hme' : (m == 4503599627370496) = true := by simp; omega
      clear hnb hr h1
      go_enter Tryz.func25, Tryz.ntmps25
      go_wp2_with (first
        | (go_at_call 35; first
          | ((with_reducible refine (D1.out _ _ ?_).mono ?_); (omega); rintro e w1 ⟨A1, n1, c1, rfl, r1, b1⟩; have C := HB.out.below b1; have k0 := C.at_ 0 rfl; have k1 := C.at_ 1 rfl)
          | ((with_reducible refine (D3.out _ _ ?_).mono ?_); (omega); rintro e w3 ⟨A3, n3, c3, rfl, r3, b3⟩)
          | ((with_reducible refine (D4.out _ _ ?_).mono ?_); (omega); rintro e w4 ⟨A4, n4, c4, rfl, r4, b4⟩))
        | (go_at_call 46; (with_reducible refine (bias_w _).mono ?_); rintro e w2 ⟨rfl, b2⟩))
      exact bodyPost_ret (v := .tuple #[.slice A1 n1 c1, .slice A3 n3 c3, .slice A4 n4 c4, .bool ev]) (by simp [results, Tryz.results25, go_sem]) rfl ⟨_, _, _, _, _, _, _, _, _, rfl, ((r1.below b2).below b3).below b4, r3.below b4, r4, on (on (on (on HL.out b1) b2) b3) b4⟩
    · have hr : nrv nb = 1 := by rw [hnb]; simp [h1, h2]; rfl
      rw [hr]
      have hme : ((m : Int) == 4503599627370496) = true := by simp; omega
      have hme' : (m == 4503599627370496) = true := by simp; omega
      have hgt : (-1074 : Int) < (v : Int) - 1074 := by omega
      clear hnb hr h1
      go_enter Tryz.func25, Tryz.ntmps25
      go_wp2_with (first
        | (go_at_call 35; first
          | ((with_reducible refine (D1.out _ _ ?_).mono ?_); (omega); rintro e w1 ⟨A1, n1, c1, rfl, r1, b1⟩; have C := HB.out.below b1; have k0 := C.at_ 0 rfl; have k1 := C.at_ 1 rfl)
          | ((with_reducible refine (D2.out _ _ ?_).mono ?_); (omega); rintro e w5 ⟨A5, n5, c5, rfl, r5, b5⟩)
          | ((with_reducible refine (D3.out _ _ ?_).mono ?_); (omega); rintro e w3 ⟨A3, n3, c3, rfl, r3, b3⟩)
          | ((with_reducible refine (D4.out _ _ ?_).mono ?_); (omega); rintro e w4 ⟨A4, n4, c4, rfl, r4, b4⟩))
        | (go_at_call 46; (with_reducible refine (bias_w _).mono ?_); rintro e w2 ⟨rfl, b2⟩))
      exact bodyPost_ret (v := .tuple #[.slice A5 n5 c5, .slice A3 n3 c3, .slice A4 n4 c4, .bool ev]) (by simp [results, Tryz.results25, go_sem]) rfl ⟨_, _, _, _, _, _, _, _, _, rfl, (r5.below b3).below b4, r3.below b4, r4, on (on (on (on (on HL.out b1) b2) b5) b3) b4⟩
  · have hr : nrv nb = 2 := by rw [hnb]; simp [h1]; rfl
    rw [hr]
    have hme : ((m : Int) == 4503599627370496) = false := by simp; omega
    have hme' : (m == 4503599627370496) = false := by simp; omega
    clear hnb hr h1
    go_enter Tryz.func25, Tryz.ntmps25
    go_wp2_with (first
      | (go_at_call 35; first
        | ((with_reducible refine (D1.out _ _ ?_).mono ?_); (omega); rintro e w1 ⟨A1, n1, c1, rfl, r1, b1⟩; have C := HB.out.below b1; have k0 := C.at_ 0 rfl; have k1 := C.at_ 1 rfl)
        | ((with_reducible refine (D3.out _ _ ?_).mono ?_); (omega); rintro e w3 ⟨A3, n3, c3, rfl, r3, b3⟩)
        | ((with_reducible refine (D4.out _ _ ?_).mono ?_); (omega); rintro e w4 ⟨A4, n4, c4, rfl, r4, b4⟩)))
    exact bodyPost_ret (v := .tuple #[.slice A1 n1 c1, .slice A3 n3 c3, .slice A4 n4 c4, .bool ev]) (by simp [results, Tryz.results25, go_sem]) rfl ⟨_, _, _, _, _, _, _, _, _, rfl, (r1.below b3).below b4, r3.below b4, r4, on (on (on HL.out b1) b3) b4⟩
set_option maxHeartbeats 4000000 in
set_option maxRecDepth 100000 in
theorem rexact_odd_n {bits : Nat} {q : Int} {ng : Bool} (hq : (q == 0) = false) (w : World)
    (HA : ∀ w, Calls Tryz.prog 24 #[.agg #[.int .i64 23, .int .i64 8], .int .u64 (bits : Nat)] w fun e w' =>
      e = .returned (.tuple #[.bool ng, .int .i64 q, .int .u64 0, .int .i64 0]) ∧ Below w.heap.size w w') :
    Calls Tryz.prog 15 #[.agg #[.int .i64 23, .int .i64 8], .int .u64 (bits : Nat)] w fun e w' => e = .returned (.agg (dec q ng [] 0)) ∧ Below w.heap.size w w' := by
  have HA := Lib.hid HA
  obtain ⟨_, B2, bl⟩ := blk_two w #[.int .i64 23, .int .i64 8] #[.int .i64 0, .bool false, .string ⟨#[]⟩, .int .i64 0] 28 25
  have HB := Lib.hid bl
  have HB2 := Lib.hid B2
  clear B2 bl
  go_enter Tryz.func15, Tryz.ntmps15
  go_wp2_with (go_at_call 24; (with_reducible refine (HA.out _).mono ?_); rintro e w1 ⟨rfl, b1⟩; have B3 := HB2.out.below b1; have f0 := B3.fr 0; have f1 := B3.fr 1; have f2 := B3.fr 2; have f3 := B3.fr 3; have q0 := B3.at_ 0 rfl; have q1 := B3.at_ 1 rfl; have q2 := B3.at_ 2 rfl; have q3 := B3.at_ 3 rfl)
  refine bodyPost_ret (res_bk rfl _ (B3.set4 (.int .i64 q) (.bool ng) (.string ⟨#[]⟩) (.int .i64 0) rfl) rfl Tryz.underlying25 rfl (by kernel_rfl)) rfl ⟨rfl, ?_⟩
  have hs : w.heap.size ≤ w.heap.size + 1 := Nat.le_succ _
  exact ((((on HB.out b1).setCell hs _).setCell hs _).setCell hs _).setCell hs _
set_option maxHeartbeats 4000000 in
set_option maxRecDepth 100000 in
theorem rexact_fin_n {bits m v : Nat} {ng : Bool} (hm : m < U) (hv : v ≤ 4096) (w : World)
    (HA : ∀ w, Calls Tryz.prog 24 #[.agg #[.int .i64 23, .int .i64 8], .int .u64 (bits : Nat)] w fun e w' =>
      e = .returned (.tuple #[.bool ng, .int .i64 0, .int .u64 (m : Nat), .int .i64 ((v : Int) - 149)]) ∧ Below w.heap.size w w') :
    Calls Tryz.prog 15 #[.agg #[.int .i64 23, .int .i64 8], .int .u64 (bits : Nat)] w fun e w' => e = .returned (.agg (dec 0 ng (cd (m * sf 149 v)) (ce (m * sf 149 v) ((un 149 v : Nat) - (149 : Nat))))) ∧ Below w.heap.size w w' := by
  have HA := Lib.hid HA
  have hl := dig_len (Z := 149) hm (by omega) hv
  have hun : un 149 v ≤ 4096 := by unfold un; split <;> omega
  have H1 := Lib.hid (fun w1 => limb_calls m (m : Nat) w1 hm rfl)
  have hM : (digs V m).length ≤ 4 := rone_len hm
  have hR : (digs V (m * sf 149 v)).length ≤ 4116 := rlen_of hl (by omega)
  have h2 : ∀ (A : Option Addr) (n c : Nat) (w1 : World), SI w1 .u32 A n c (digs V m) → Calls Tryz.prog 34 #[.slice A n c, .int .i64 ((v : Int) - 149)] w1 (GivesA w1 (m * sf 149 v) ((un 149 v : Nat) - 149)) := fun A n c w1 h => amount_at A n c m 149 v _ w1 h (by rw [← h.len]; omega) rfl (by omega) hv
  have h3 : ∀ (A : Option Addr) (n c : Nat) (w1 : World), SI w1 .u32 A n c (digs V (m * sf 149 v)) → Calls Tryz.prog 32 #[.bool ng, .slice A n c, .int .i64 ((un 149 v : Nat) - 149)] w1 fun e w' => e = .returned (.agg #[.int .i64 0, .bool ng, .string ⟨(cd (m * sf 149 v)).toArray⟩, .int .i64 (ce (m * sf 149 v) ((un 149 v : Nat) - ((149 : Nat) : Int)))]) ∧ Below w1.heap.size w1 w' := fun A n c w1 h => rdec_calls ng A n c (m * sf 149 v) _ w1 h (by rw [← h.len]; omega) (by omega) (by omega) (by omega)
  have H2 := Lib.hid h2
  have H3 := Lib.hid h3
  obtain ⟨_, B2, bl⟩ := blk_two w #[.int .i64 23, .int .i64 8] #[.int .i64 0, .bool false, .string ⟨#[]⟩, .int .i64 0] 28 25
  have HB := Lib.hid bl
  have HB2 := Lib.hid B2
  clear B2 bl hl hM hR h2 h3 hm hun hv
  generalize ce (m * sf 149 v) ((un 149 v : Nat) - ((149 : Nat) : Int)) = x at *
  generalize un 149 v = u at *
  generalize m * sf 149 v = a at *
  go_enter Tryz.func15, Tryz.ntmps15
  go_wp2_with (first
    | (go_at_call 24; (with_reducible refine (HA.out _).mono ?_); rintro e w1 ⟨rfl, b1⟩)
    | (go_at_call 35; (with_reducible refine (H1.out _).mono ?_); rintro e w2 ⟨A2, n2, c2, rfl, r2, b2⟩)
    | (go_at_call 34; (with_reducible refine (H2.out A2 n2 c2 _ r2).mono ?_); rintro e w3 ⟨A3, n3, c3, rfl, r3, b3⟩)
    | (go_at_call 32; (with_reducible refine (H3.out A3 n3 c3 _ r3).mono ?_); rintro e w4 ⟨rfl, b4⟩; have B3 := (((HB2.out.below b1).below b2).below b3).below b4; have f0 := B3.fr 0; have f1 := B3.fr 1; have f2 := B3.fr 2; have f3 := B3.fr 3; have q0 := B3.at_ 0 rfl; have q1 := B3.at_ 1 rfl; have q2 := B3.at_ 2 rfl; have q3 := B3.at_ 3 rfl))
  refine bodyPost_ret (res_bk rfl _ (B3.set4 (.int .i64 0) (.bool ng) (.string ⟨(cd a).toArray⟩) (.int .i64 x) rfl) rfl Tryz.underlying25 rfl (by kernel_rfl)) rfl ⟨rfl, ?_⟩
  have hs : w.heap.size ≤ w.heap.size + 1 := Nat.le_succ _
  exact ((((on (on (on (on HB.out b1) b2) b3) b4).setCell hs _).setCell hs _).setCell hs _).setCell hs _
theorem rexact_calls_n {bits : Nat} (hb : bits < 4294967296) (w : World) :
    Calls Tryz.prog 15 #[.agg #[.int .i64 23, .int .i64 8], .int .u64 (bits : Nat)] w fun e w' => e = .returned (.agg (eV_n bits)) ∧ Below w.heap.size w w' := by
  have H := fb_n hb
  have HL := H.fl_n
  unfold eV_n
  have hlt : bits % 2147483648 / 8388608 ≤ 255 := by omega
  generalize bits % 2147483648 = b at *
  generalize decide (bits / 2147483648 = 1) = ng at *
  split
  · next h =>
    rw [h] at HL
    split
    · next h2 =>
      rw [h2] at HL
      exact rexact_odd_n (by decide) w (rparts_inf_n HL)
    · next h2 => exact rexact_odd_n (by decide) w (rparts_nan_n HL h2)
  · next h => exact rexact_fin_n (am_lt_n b) (by omega) w (rparts_fin_n H (by omega))
/-- a float's reach, its ends' kind -/
def GivesH_n (w : World) (l m h : Nat) (ends : Bool) (e : Ending) (w' : World) : Prop := ∃ A n c A' n' c' A'' n'' c'', e = .returned (.tuple #[.slice A n c, .slice A' n' c', .slice A'' n'' c'', .bool ends]) ∧ SI w' .u32 A n c (digs V l) ∧ SI w' .u32 A' n' c' (digs V m) ∧ SI w' .u32 A'' n'' c'' (digs V h) ∧ Below w.heap.size w w'
set_option maxHeartbeats 4000000 in
set_option maxRecDepth 100000 in
theorem reach_n (m v : Nat) (nb : Bool) (w : World) (hm : m < 2 * 8388608) (h0 : 0 < m) (hv : v ≤ 254) (hnb : nb = (decide (m = 8388608) && decide (0 < v))) :
    Calls Tryz.prog 25 #[.agg #[.int .i64 23, .int .i64 8], .int .u64 (m : Nat), .int .i64 ((v : Int) - 149)] w (GivesH_n w (4 * m - nrv nb) (4 * m) (4 * m + 2) (decide (m % 2 = 0))) := by
  have D1 := Lib.hid (fun x w1 hx => limb_calls (4 * m - 2) x w1 (by unfold U; omega) hx)
  have D2 := Lib.hid (fun x w1 hx => limb_calls (4 * m - 1) x w1 (by unfold U; omega) hx)
  have D3 := Lib.hid (fun x w1 hx => limb_calls (4 * m) x w1 (by unfold U; omega) hx)
  have D4 := Lib.hid (fun x w1 hx => limb_calls (4 * m + 2) x w1 (by unfold U; omega) hx)
  obtain ⟨B1, bl⟩ := blk1 w #[.int .i64 23, .int .i64 8] 28 0
  have HB := Lib.hid B1
  have HL := Lib.hid bl
  have hev : ∃ ev, decide (m % 2 = 0) = ev := ⟨_, rfl⟩
  obtain ⟨ev, hev⟩ := hev
  rw [hev]
  have t2 : ((m : Int) % 2 == 0) = ev := by rw [← hev]; rw [Bool.eq_iff_iff]; simp; omega
  clear B1 bl hev
  by_cases h1 : m = 8388608
  · rcases Nat.eq_zero_or_pos v with h2 | h2
    · have hr : nrv nb = 2 := by subst h1; subst h2; rw [hnb]; rfl
      rw [hr]
      subst h2
      have hme : ((m : Int) == 8388608) = true := by simp; omega
      have hme' : (m == 8388608) = true := by simp; omega
      clear hnb hr h1
      go_enter Tryz.func25, Tryz.ntmps25
      go_wp2_with (first
        | (go_at_call 35; first
          | ((with_reducible refine (D1.out _ _ ?_).mono ?_); (omega); rintro e w1 ⟨A1, n1, c1, rfl, r1, b1⟩; have C := HB.out.below b1; have k0 := C.at_ 0 rfl; have k1 := C.at_ 1 rfl)
          | ((with_reducible refine (D3.out _ _ ?_).mono ?_); (omega); rintro e w3 ⟨A3, n3, c3, rfl, r3, b3⟩)
          | ((with_reducible refine (D4.out _ _ ?_).mono ?_); (omega); rintro e w4 ⟨A4, n4, c4, rfl, r4, b4⟩))
        | (go_at_call 46; (with_reducible refine (bias_n _).mono ?_); rintro e w2 ⟨rfl, b2⟩))
      exact bodyPost_ret (v := .tuple #[.slice A1 n1 c1, .slice A3 n3 c3, .slice A4 n4 c4, .bool ev]) (by simp [results, Tryz.results25, go_sem]) rfl ⟨_, _, _, _, _, _, _, _, _, rfl, ((r1.below b2).below b3).below b4, r3.below b4, r4, on (on (on (on HL.out b1) b2) b3) b4⟩
    · have hr : nrv nb = 1 := by rw [hnb]; simp [h1, h2]; rfl
      rw [hr]
      have hme : ((m : Int) == 8388608) = true := by simp; omega
      have hme' : (m == 8388608) = true := by simp; omega
      have hgt : (-149 : Int) < (v : Int) - 149 := by omega
      clear hnb hr h1
      go_enter Tryz.func25, Tryz.ntmps25
      go_wp2_with (first
        | (go_at_call 35; first
          | ((with_reducible refine (D1.out _ _ ?_).mono ?_); (omega); rintro e w1 ⟨A1, n1, c1, rfl, r1, b1⟩; have C := HB.out.below b1; have k0 := C.at_ 0 rfl; have k1 := C.at_ 1 rfl)
          | ((with_reducible refine (D2.out _ _ ?_).mono ?_); (omega); rintro e w5 ⟨A5, n5, c5, rfl, r5, b5⟩)
          | ((with_reducible refine (D3.out _ _ ?_).mono ?_); (omega); rintro e w3 ⟨A3, n3, c3, rfl, r3, b3⟩)
          | ((with_reducible refine (D4.out _ _ ?_).mono ?_); (omega); rintro e w4 ⟨A4, n4, c4, rfl, r4, b4⟩))
        | (go_at_call 46; (with_reducible refine (bias_n _).mono ?_); rintro e w2 ⟨rfl, b2⟩))
      exact bodyPost_ret (v := .tuple #[.slice A5 n5 c5, .slice A3 n3 c3, .slice A4 n4 c4, .bool ev]) (by simp [results, Tryz.results25, go_sem]) rfl ⟨_, _, _, _, _, _, _, _, _, rfl, (r5.below b3).below b4, r3.below b4, r4, on (on (on (on (on HL.out b1) b2) b5) b3) b4⟩
  · have hr : nrv nb = 2 := by rw [hnb]; simp [h1]; rfl
    rw [hr]
    have hme : ((m : Int) == 8388608) = false := by simp; omega
    have hme' : (m == 8388608) = false := by simp; omega
    clear hnb hr h1
    go_enter Tryz.func25, Tryz.ntmps25
    go_wp2_with (first
      | (go_at_call 35; first
        | ((with_reducible refine (D1.out _ _ ?_).mono ?_); (omega); rintro e w1 ⟨A1, n1, c1, rfl, r1, b1⟩; have C := HB.out.below b1; have k0 := C.at_ 0 rfl; have k1 := C.at_ 1 rfl)
        | ((with_reducible refine (D3.out _ _ ?_).mono ?_); (omega); rintro e w3 ⟨A3, n3, c3, rfl, r3, b3⟩)
        | ((with_reducible refine (D4.out _ _ ?_).mono ?_); (omega); rintro e w4 ⟨A4, n4, c4, rfl, r4, b4⟩)))
    exact bodyPost_ret (v := .tuple #[.slice A1 n1 c1, .slice A3 n3 c3, .slice A4 n4 c4, .bool ev]) (by simp [results, Tryz.results25, go_sem]) rfl ⟨_, _, _, _, _, _, _, _, _, rfl, (r1.below b3).below b4, r3.below b4, r4, on (on (on HL.out b1) b3) b4⟩
end Go.Proofs.YtphpcpomhcodpaaGreatDoor.Sh

/- Layer 3, the document: the fewest digits. -/
set_option linter.unusedSimpArgs false
set_option linter.unusedVariables false
namespace Go.Proofs.YtphpcpomhcodpaaGreatDoor.Sh
open Go.RowKit Go.Proofs.YtphpcpomhcodpaaGreatDoor.Dig Go.Proofs.YtphpcpomhcodpaaGreatDoor.W Go.Proofs.YtphpcpomhcodpaaGreatDoor.Nat Go.Proofs.YtphpcpomhcodpaaGreatDoor.Wh Go.Proofs.YtphpcpomhcodpaaGreatDoor.Td Go.Proofs.YtphpcpomhcodpaaGreatDoor.Bu Go.Proofs.YtphpcpomhcodpaaGreatDoor.Tx Go.Proofs.YtphpcpomhcodpaaGreatDoor.Sp
open Go.Proofs.YtphpcpomhcodpaaGreatDoor.Rf (V V_two V_pos)

theorem radd_e (A A' : Option Addr) (n c n' c' x y : Nat) (w : World) (h : SI w .u32 A n c (digs V x)) (h' : SI w .u32 A' n' c' (digs V y)) (hx : (digs V x).length ≤ 65536) (hy : (digs V y).length ≤ 65536) :
    Calls Tryz.prog 20 #[.slice A n c, .slice A' n' c'] w (Gives w .u32 (digs V (x + y))) := by
  have e := Rf.add_calls A A' n c n' c' (digs V x) (digs V y) w h h' (digs_lt V_two x) (digs_lt V_two y) (by rw [← h.len]; omega) (by rw [← h'.len]; omega)
  rw [val_digs V_two, val_digs V_two] at e
  exact e.mono fun _ _ h => h.gives
theorem rmul_e (A A' : Option Addr) (n c n' c' x y : Nat) (w : World) (h : SI w .u32 A n c (digs V x)) (h' : SI w .u32 A' n' c' (digs V y)) (hx : (digs V x).length ≤ 65536) (hy : (digs V y).length ≤ 65536) :
    Calls Tryz.prog 27 #[.slice A n c, .slice A' n' c'] w (Gives w .u32 (digs V (x * y))) :=
  (rmul_d A A' n c n' c' x y w h h' (by rw [← h.len]; omega) (by rw [← h'.len]; omega)).mono fun _ _ h => h.gives
/-- quotient and rest -/
def GivesD (w : World) (q r : Nat) (e : Ending) (w' : World) : Prop := ∃ A n c A' n' c', e = .returned (.tuple #[.slice A n c, .slice A' n' c']) ∧ SI w' .u32 A n c (digs V q) ∧ SI w' .u32 A' n' c' (digs V r) ∧ Below w.heap.size w w'
theorem rdiv_e (A A' : Option Addr) (n c n' c' x y : Nat) (w : World) (h : SI w .u32 A n c (digs V x)) (h' : SI w .u32 A' n' c' (digs V y)) (hx : (digs V x).length ≤ 65536) (hy : 0 < y) :
    Calls Tryz.prog 30 #[.slice A n c, .slice A' n' c'] w (GivesD w (x / y) (x % y)) := by
  have e := Rf.divmod_calls A A' n c n' c' (digs V x) (digs V y) w h h' (digs_lt V_two x) (digs_lt V_two y) (by rw [← h.len]; omega) (by rw [val_digs V_two]; exact hy)
  rw [val_digs V_two, val_digs V_two] at e
  exact e.mono fun _ _ ⟨A, n, c, A', n', c', h1, h2, h3, _, _, h6⟩ => ⟨A, n, c, A', n', c', h1, h2, h3, h6⟩
theorem rshl_f (A : Option Addr) (n c m k : Nat) (x : Int) (w : World) (h : SI w .u32 A n c (digs V m)) (hx : x = (k : Nat)) (hn : (digs V m).length ≤ 65536) (hk : k ≤ 4096) :
    Calls Tryz.prog 28 #[.slice A n c, .int .i64 x] w (Gives w .u32 (digs V (m * 2 ^ k))) := by
  subst hx
  exact (rshl_e A n c m k w h (by rw [← h.len]; omega) (by omega)).mono fun _ _ h => h.gives
theorem rpow_f (a : Int) (b k : Nat) (x : Int) (w : World) (ha : a = (b : Nat)) (hb : b ≤ 10) (hb0 : 0 < b) (hx : x = (k : Nat)) (hk : k ≤ 65536) :
    Calls Tryz.prog 26 #[.int .i64 a, .int .i64 x] w (Gives w .u32 (digs V (b ^ k))) := by
  subst ha; subst hx
  exact rpow_calls b k w hb hb0 (by omega)
/-- all numbers in play are short -/
theorem big_len {M K x : Nat} (hK : (Lib.decDigits M).length = K) (hk : K ≤ 8000) (hx : x ≤ 20 * M) : (digs V x).length ≤ 8192 ∧ (Lib.decDigits x).length ≤ 8192 := by
  have h1 := dec_upper M
  rw [hK] at h1
  have h2 : x < 10 ^ (K + 2) := by
    rw [Nat.pow_add, show 10 ^ 2 = 100 from rfl]
    generalize 10 ^ K = z at *
    omega
  have h3 := dec_len_le h2 (by omega)
  exact ⟨Nat.le_trans (rlen_of h3 (by omega)) (by omega), by omega⟩
theorem few_ref {l m h k : Nat} {ends a b lt eq odd : Bool} (ha : win ends l h (m / 10 ^ (k + 1) * 10 ^ (k + 1)) = a) (hb : win ends l h (m / 10 ^ (k + 1) * 10 ^ (k + 1) + 10 ^ (k + 1)) = b)
    (hl : decide (2 * (m % 10 ^ (k + 1)) < 10 ^ (k + 1)) = lt) (he : decide (2 * (m % 10 ^ (k + 1)) = 10 ^ (k + 1)) = eq) (ho : decide (m / 10 ^ (k + 1) % 2 = 1) = odd) :
    few l m h ends (k + 1) = if a && (!b || (lt || eq && !odd)) then m / 10 ^ (k + 1) * 10 ^ (k + 1) else if b then m / 10 ^ (k + 1) * 10 ^ (k + 1) + 10 ^ (k + 1) else few l m h ends k := by
  rw [few, ← hit_ref, ha, hb, hl, he, ho]
  split
  · rfl
  · split <;> rfl
/-- a number's first limb tells whether it is odd -/
theorem limb_odd {x : Nat} : rd (digs V x) 0 % 2 = x % 2 := by
  have h := val_digs V_two x
  cases e : digs V x with
  | nil =>
    rw [e, val_nil] at h
    rw [← h]; rfl
  | cons a l =>
    rw [e, val_cons] at h
    have : V % 2 = 0 := by decide
    show a % 2 = x % 2
    rw [← h, Nat.add_mod, Nat.mul_mod, this]
    simp
theorem limb_lt {x : Nat} : rd (digs V x) 0 < 65536 := by
  cases e : digs V x with
  | nil => decide
  | cons a l =>
    have := digs_lt V_two x a (by rw [e]; exact List.mem_cons_self)
    exact this
/-- the three amounts in one unit -/
def RS (w : World) (L M H : Nat) (U : Int) (s9 s10 s11 s13 : Value) (wx : World) : Prop :=
  ∃ A n c A' n' c' A'' n'' c'', s9 = .slice A n c ∧ s10 = .slice A' n' c' ∧ s11 = .slice A'' n'' c'' ∧ s13 = .int .i64 U ∧ SI wx .u32 A n c (digs V L) ∧ SI wx .u32 A' n' c' (digs V M) ∧ SI wx .u32 A'' n'' c'' (digs V H) ∧ Below w.heap.size w wx
theorem far_cases (r t : Nat) : (cmp (r + r) t = -1 ∧ decide (2 * r < t) = true ∧ decide (2 * r = t) = false) ∨ (cmp (r + r) t = 0 ∧ decide (2 * r < t) = false ∧ decide (2 * r = t) = true) ∨ (cmp (r + r) t = 1 ∧ decide (2 * r < t) = false ∧ decide (2 * r = t) = false) := by
  rcases cmp_three (r + r) t with ⟨h, e⟩ | ⟨h, e⟩ | ⟨h, e⟩
  · exact .inl ⟨e, by simp; omega, by simp; omega⟩
  · exact .inr (.inl ⟨e, by simp; omega, by simp; omega⟩)
  · exact .inr (.inr ⟨e, by simp; omega, by simp; omega⟩)
theorem ret_val {k : IntKind} {a b : Int} (h : a = b) : Value.int k a = .int k b := by rw [h]
theorem rtext_f (A : Option Addr) (n c M : Nat) (w : World) (h : SI w .u32 A n c (digs V M)) (hn : n ≤ 65536) :
    Calls Tryz.prog 29 #[.slice A n c] w fun e w' => e = .returned (.string ⟨(Lib.decDigits M).toArray⟩) ∧ Below w.heap.size w w' := Rw.rtext_calls A n c M w h (by omega)
theorem rdec_f (ng : Bool) (A : Option Addr) (n c a : Nat) (x : Int) (w : World) (h : SI w .u32 A n c (digs V a)) (h1 : (digs V a).length ≤ 8192) (h2 : (Lib.decDigits a).length ≤ 8192) (hx : -65536 ≤ x) (hx' : x ≤ 65536) :
    Calls Tryz.prog 32 #[.bool ng, .slice A n c, .int .i64 x] w fun e w' => e = .returned (.agg #[.int .i64 0, .bool ng, .string ⟨(cd a).toArray⟩, .int .i64 (ce a x)]) ∧ Below w.heap.size w w' :=
  rdec_calls ng A n c a x w h (by rw [← h.len]; omega) (by omega) hx hx'
theorem few_abs {L M H k t q s x1 x2 : Nat} {ends a b lt eq odd : Bool} (ht : t = 10 ^ (k + 1)) (hq : q = M / t) (hs : s = M % t) (hx1 : x1 = q * t) (hx2 : x2 = x1 + t) (ha : win ends L H x1 = a) (hb : win ends L H x2 = b)
    (hl : decide (2 * s < t) = lt) (he : decide (2 * s = t) = eq) (ho : decide (q % 2 = 1) = odd) :
    few L M H ends (k + 1) = if a && (!b || (lt || eq && !odd)) then x1 else if b then x2 else few L M H ends k := by
  subst ht; subst hq; subst hs; subst hx1; subst hx2
  exact few_ref ha hb hl he ho
theorem five_short {k : Nat} (h : k ≤ 4096) : (digs V (5 ^ k)).length ≤ 65536 := Nat.le_trans (rpow5_len k) (by omega)
theorem one_short {m : Nat} (h : m < U) : (digs V m).length ≤ 65536 := Nat.le_trans (rone_len h) (by omega)
set_option maxHeartbeats 8000000 in
set_option maxRecDepth 100000 in
theorem rof_fin_w {bits m v : Nat} {ng nb : Bool} (w : World) (hm : m < 2 * 4503599627370496) (h0 : 0 < m) (hv : v ≤ 2046) (hnb : nb = (decide (m = 4503599627370496) && decide (0 < v)))
    (HA : ∀ w, Calls Tryz.prog 24 #[.agg #[.int .i64 52, .int .i64 11], .int .u64 (bits : Nat)] w fun e w' =>
      e = .returned (.tuple #[.bool ng, .int .i64 0, .int .u64 (m : Nat), .int .i64 ((v : Int) - 1074)]) ∧ Below w.heap.size w w') :
    Calls Tryz.prog 11 #[.agg #[.int .i64 52, .int .i64 11], .int .u64 (bits : Nat)] w fun e w' =>
      e = .returned (.agg (dec 0 ng (cd (Fv 1076 m v (nrv nb))) (ce (Fv 1076 m v (nrv nb)) ((un 1076 v : Nat) - (1076 : Nat))))) ∧ Below w.heap.size w w' := by
  have HA' := Lib.hid HA
  have e0 : ((m : Int) == 0) = false := by simp; omega
  have e0' : (m == 0) = false := by simp; omega
  have HRe := Lib.hid (fun w1 => reach_w m v nb w1 hm h0 hv hnb)
  have hr := (show nrv nb ≤ 2 ∧ 0 < nrv nb by cases nb <;> decide)
  clear HA hnb
  generalize nrv nb = r at *
  obtain ⟨B1, B2, bl⟩ := blk_two w #[.int .i64 52, .int .i64 11] #[.int .i64 0, .bool false, .string ⟨#[]⟩, .int .i64 0] 28 25
  have HB1 := Lib.hid B1
  have HB2 := Lib.hid B2
  have HB := Lib.hid bl
  clear B1 B2 bl
  obtain ⟨ends, hends⟩ : ∃ ends, ends = decide (m % 2 = 0) := ⟨_, rfl⟩
  unfold Fv
  rw [← hends] at HRe ⊢
  clear hends
  have hlen := dig_len (m := 4 * m) (Z := 1076) (w := v) (by unfold U; omega) (by omega) (by omega)
  have hM0 : 0 < 4 * m * sf 1076 v := Nat.mul_pos (by omega) (sf_pos _ _)
  have hLM : (4 * m - r) * sf 1076 v ≤ 4 * m * sf 1076 v := Nat.mul_le_mul_right _ (by omega)
  have hHM : (4 * m + 2) * sf 1076 v ≤ 20 * (4 * m * sf 1076 v) := by rw [← Nat.mul_assoc]; exact Nat.mul_le_mul_right _ (by omega)
  have hu : -65536 ≤ ((un 1076 v : Nat) : Int) - ((1076 : Nat) : Int) ∧ ((un 1076 v : Nat) : Int) - ((1076 : Nat) : Int) ≤ 65536 := by unfold un; split <;> omega
  obtain ⟨L, hL⟩ : ∃ L, L = (4 * m - r) * sf 1076 v := ⟨_, rfl⟩
  obtain ⟨M, hM⟩ : ∃ M, M = 4 * m * sf 1076 v := ⟨_, rfl⟩
  obtain ⟨H, hH⟩ : ∃ H, H = (4 * m + 2) * sf 1076 v := ⟨_, rfl⟩
  obtain ⟨u, hue⟩ : ∃ u, u = ((un 1076 v : Nat) : Int) - ((1076 : Nat) : Int) := ⟨_, rfl⟩
  rw [← hM] at hlen hM0 hHM
  rw [← hL, ← hM] at hLM
  rw [← hH] at hHM
  rw [← hue] at hu
  rw [← hL, ← hM, ← hH, ← hue]
  obtain ⟨T, hT⟩ : ∃ T : ByteArray, T = ⟨(Lib.decDigits M).toArray⟩ := ⟨_, rfl⟩
  have hTz : T.size = (Lib.decDigits M).length := by rw [hT, size_of]
  have hdl := dec_lower (Nat.ne_of_gt hM0)
  have hdp := dec_len_pos M
  rw [← hTz] at hdl hlen hdp ⊢
  have HBG := Lib.hid (fun (x : Nat) (hx : x ≤ 20 * M) => big_len hTz.symm (by omega) hx)
  have HDL := Lib.hid hdl
  have HU := Lib.hid hu
  have HMs := Lib.hid hLM
  have HHs := Lib.hid hHM
  have HLe := Lib.hid hL
  have HMe := Lib.hid hM
  have HHe := Lib.hid hH
  have HUe := Lib.hid hue
  have HTe := Lib.hid hT
  clear hT hTz hdl hu hLM hHM hL hM hH hue
  go_enter Tryz.func11, Tryz.ntmps11
  go_upto_region 6 with (first
    | (go_at_call 24; (with_reducible refine (HA'.out _).mono ?_); rintro e w1 ⟨rfl, b1⟩; have C := HB1.out.below b1; have k0 := C.at_ 0 rfl; have k1 := C.at_ 1 rfl)
    | (go_at_call 25; (with_reducible refine (HRe.out _).mono ?_); rintro e w2 ⟨A1, n1, c1, A2, n2, c2, A3, n3, c3, rfl, r1, r2, r3, b2⟩))
  have K2 := (HB2.out.below b1).below b2
  have bl := on (on HB.out b1) b2
  clear HB1 HB2 HB C k0 k1 HA' HRe b1 b2
  go_upto_if 53 with (fail)
  go_cut [9, 10, 11, 13] (fun s9 s10 s11 s13 wx => RS w2 L M H u s9 s10 s11 s13 wx)
  case first =>
    rcases Nat.lt_or_ge v 1076 with hlt | hge
    · obtain ⟨k, hk⟩ : ∃ k, v + k = 1076 := ⟨1076 - v, by omega⟩
      obtain ⟨e1, e2⟩ := sf_down hk (by omega)
      have hP := five_short (show k ≤ 4096 by omega)
      have hT : (v : Int) - 1074 < 2 := by omega
      have H1 := Lib.hid (fun a x w1 ha hx => rpow_f a 5 k x w1 ha (by omega) (by omega) hx (by omega))
      have HK := Lib.hid hk
      have HPn := Lib.hid hP
      have E1 := Lib.hid e1
      have E2 := Lib.hid e2
      clear e1 e2 hk hP
      generalize 5 ^ k = T at *
      have hs1 := Lib.hid (one_short (m := 4 * m - r) (by unfold U; omega))
      have hs2 := Lib.hid (one_short (m := 4 * m) (by unfold U; omega))
      have hs3 := Lib.hid (one_short (m := 4 * m + 2) (by unfold U; omega))
      go_wp2_with (first
        | (go_at_call 26; (with_reducible refine (H1.out _ _ _ ?_ ?_).mono ?_); (rfl); (have := HK.out; omega); rintro e w3 ⟨A4, n4, c4, rfl, r4, b3⟩; have q1 := r1.below b3; have q2 := r2.below b3; have q3 := r3.below b3)
        | (go_at_call 27; first
          | ((with_reducible refine (rmul_e A1 A4 n1 c1 n4 c4 _ _ _ q1 r4 hs1.out HPn.out).mono ?_); rintro e w4 ⟨A5, n5, c5, rfl, r5, b4⟩; have q22 := q2.below b4; have q33 := q3.below b4; have r44 := r4.below b4)
          | ((with_reducible refine (rmul_e A2 A4 n2 c2 n4 c4 _ _ _ q22 r44 hs2.out HPn.out).mono ?_); rintro e w5 ⟨A6, n6, c6, rfl, r6, b5⟩; have q333 := q33.below b5; have r444 := r44.below b5; have r55 := r5.below b5)
          | ((with_reducible refine (rmul_e A3 A4 n3 c3 n4 c4 _ _ _ q333 r444 hs3.out HPn.out).mono ?_); rintro e w6 ⟨A7, n7, c7, rfl, r7, b6⟩; have r66 := r6.below b6; have r555 := r55.below b6)))
      go_meet
      unfold RS
      rw [HLe.out, HMe.out, HHe.out, HUe.out, E1.out, E2.out]
      exact ⟨_, _, _, _, _, _, _, _, _, rfl, rfl, rfl, ret_val (by omega), r555, r66, r7, on (on (on b3 b4) b5) b6⟩
    · obtain ⟨k, rfl⟩ : ∃ k, v = 1076 + k := ⟨v - 1076, by omega⟩
      obtain ⟨e1, e2⟩ := sf_up 1076 k
      have E1 := Lib.hid e1
      have E2 := Lib.hid e2
      have hT : ¬ ((1076 + k : Nat) : Int) - 1074 < 2 := by omega
      have hs1 := Lib.hid (one_short (m := 4 * m - r) (by unfold U; omega))
      have hs2 := Lib.hid (one_short (m := 4 * m) (by unfold U; omega))
      have hs3 := Lib.hid (one_short (m := 4 * m + 2) (by unfold U; omega))
      have hk4 : k ≤ 4096 := by omega
      clear e1 e2
      go_wp2_with (go_at_call 28; first
          | ((with_reducible refine (rshl_f A1 n1 c1 _ k _ _ r1 ?_ hs1.out hk4).mono ?_); (omega); rintro e w4 ⟨A5, n5, c5, rfl, r5, b4⟩; have q22 := r2.below b4; have q33 := r3.below b4)
          | ((with_reducible refine (rshl_f A2 n2 c2 _ k _ _ q22 ?_ hs2.out hk4).mono ?_); (omega); rintro e w5 ⟨A6, n6, c6, rfl, r6, b5⟩; have q333 := q33.below b5; have r55 := r5.below b5)
          | ((with_reducible refine (rshl_f A3 n3 c3 _ k _ _ q333 ?_ hs3.out hk4).mono ?_); (omega); rintro e w6 ⟨A7, n7, c7, rfl, r7, b6⟩; have r66 := r6.below b6; have r555 := r55.below b6))
      go_meet
      unfold RS
      rw [HLe.out, HMe.out, HHe.out, HUe.out, E1.out, E2.out]
      exact ⟨_, _, _, _, _, _, _, _, _, rfl, rfl, rfl, ret_val (by omega), r555, r66, r7, on (on b4 b5) b6⟩
  case rest =>
    obtain ⟨A1, n1, c1, A2, n2, c2, A3, n3, c3, rfl, rfl, rfl, rfl, r1, r2, r3, b3⟩ := hcut
    generalize wc = Y2 at *
    have K3 := K2.below b3
    have bl3 := on bl b3
    clear K2 bl b3
    have HX := Lib.hid (rtext_f A2 n2 c2 M Y2 r2 (by rw [← r2.len]; have := (HBG.out M (by omega)).1; omega))
    rw [← HTe.out] at HX
    go_wp2_with (go_at_call 29; (with_reducible refine HX.out.mono ?_); rintro e w3 ⟨rfl, b4⟩)
    have q1 := r1.below b4
    have q2 := r2.below b4
    have q3 := r3.below b4
    have K4 := K3.below b4
    have bl4 := on bl3 b4
    clear r1 r2 r3 K3 bl3 b4 HX
    go_loopw [16] (fun z wr => ∃ n k : Nat, z = .int .i64 (n : Nat) ∧ Hid (n + k = T.size) ∧ 1 ≤ n ∧ n ≤ T.size ∧ Hid (few L M H ends (T.size - 1) = few L M H ends k) ∧ Below w3.heap.size w3 wr) (fun z _ => T.size - (intOf z).toNat)
    case atStart => exact ⟨1, T.size - 1, rfl, by unfold Hid; omega, Nat.le_refl _, by omega, rfl, Below.refl _ _⟩
    case round =>
      obtain ⟨n, k, rfl, HN, hn1, hn2, HF, hb⟩ := hrel
      cases k with
      | zero =>
        obtain rfl : n = T.size := by have := HN.out; omega
        have HD := Lib.hid (rdec_f ng A2 n2 c2 M u wr (q2.below hb) ((HBG.out M (by omega)).1) ((HBG.out M (by omega)).2) HU.out.1 HU.out.2)
        have B := (K4.below hb)
        have HBx := Lib.hid B
        clear B q1 q2 q3
        go_wp2_with (go_at_call 32; (with_reducible refine HD.out.mono ?_); rintro e w4 ⟨rfl, b5⟩; have B3 := HBx.out.below b5; have f0 := B3.fr 0; have f1 := B3.fr 1; have f2 := B3.fr 2; have f3 := B3.fr 3; have j0 := B3.at_ 0 rfl; have j1 := B3.at_ 1 rfl; have j2 := B3.at_ 2 rfl; have j3 := B3.at_ 3 rfl)
        rw [HF.out]
        refine bodyPost_ret (res_bk rfl _ (B3.set4 (.int .i64 0) (.bool ng) (.string ⟨(cd M).toArray⟩) (.int .i64 (ce M u)) rfl) rfl Tryz.underlying25 rfl (by kernel_rfl)) rfl ⟨rfl, ?_⟩
        have hs : w.heap.size ≤ w.heap.size + 1 := Nat.le_succ _
        exact ((((on (on bl4 hb) b5).setCell hs _).setCell hs _).setCell hs _).setCell hs _
      | succ k =>
        have hlt : n < T.size := by have := HN.out; omega
        obtain ⟨t, ht⟩ : ∃ t, t = 10 ^ (k + 1) := ⟨_, rfl⟩
        have ht0 : 0 < t := by rw [ht]; exact p10 _
        have htM : t ≤ M := by rw [ht]; exact Nat.le_trans (Nat.pow_le_pow_right (by omega) (by have := HN.out; omega)) HDL.out
        obtain ⟨q, hq⟩ : ∃ q, q = M / t := ⟨_, rfl⟩
        obtain ⟨s, hs⟩ : ∃ s, s = M % t := ⟨_, rfl⟩
        have hqs : q * t + s = M := by rw [hq, hs, Nat.mul_comm]; exact Nat.div_add_mod M t
        have hst : s < t := by rw [hs]; exact Nat.mod_lt _ ht0
        have hqM : q ≤ M := by rw [hq]; exact Nat.div_le_self M t
        obtain ⟨x1, hx1⟩ : ∃ x1, x1 = q * t := ⟨_, rfl⟩
        obtain ⟨x2, hx2⟩ : ∃ x2, x2 = x1 + t := ⟨_, rfl⟩
        have hx1M : x1 ≤ M := by omega
        have hx2M : x2 ≤ 20 * M := by omega
        obtain ⟨a, ha⟩ : ∃ a, win ends L H x1 = a := ⟨_, rfl⟩
        obtain ⟨b, hbb⟩ : ∃ b, win ends L H x2 = b := ⟨_, rfl⟩
        have len := fun (x : Nat) (h : x ≤ 20 * M) => (show (digs V x).length ≤ 65536 by have := (HBG.out x h).1; omega)
        have p1 := q1.below hb
        have p2 := q2.below hb
        have p3 := q3.below hb
        have HW1 := Lib.hid (fun x w1 hx => ht ▸ rpow_f 10 10 (k + 1) x w1 rfl (by omega) (by omega) hx (by have := HN.out; omega))
        have HW2 := Lib.hid (fun (A n c : _) (w1 : World) (b : Below wr.heap.size wr w1) (h : SI w1 .u32 A n c (digs V t)) => rdiv_e A2 A n2 c2 n c M t w1 (p2.below b) h (len M (by omega)) ht0)
        rw [← hq, ← hs] at HW2
        have HW3 := Lib.hid (fun (A n c A' n' c' : _) (w1 : World) (h : SI w1 .u32 A n c (digs V q)) (h' : SI w1 .u32 A' n' c' (digs V t)) => hx1 ▸ rmul_e A A' n c n' c' q t w1 h h' (len q (by omega)) (len t (by omega)))
        have HW4 := Lib.hid (fun (A n c A' n' c' : _) (w1 : World) (h : SI w1 .u32 A n c (digs V x1)) (h' : SI w1 .u32 A' n' c' (digs V t)) => hx2 ▸ radd_e A A' n c n' c' x1 t w1 h h' (len x1 (by omega)) (len t (by omega)))
        have HW5 := Lib.hid (fun (A n c : _) (w1 : World) (b : Below wr.heap.size wr w1) (h : SI w1 .u32 A n c (digs V x1)) => ha ▸ inside_calls A1 A A3 n1 c1 n c n3 c3 L x1 H ends w1 (p1.below b) h (p3.below b))
        have HW6 := Lib.hid (fun (A n c : _) (w1 : World) (b : Below wr.heap.size wr w1) (h : SI w1 .u32 A n c (digs V x2)) => hbb ▸ inside_calls A1 A A3 n1 c1 n c n3 c3 L x2 H ends w1 (p1.below b) h (p3.below b))
        have HW7 := Lib.hid (fun (A n c : _) (w1 : World) (h : SI w1 .u32 A n c (digs V s)) => radd_e A A n c n c s s w1 h h (len s (by omega)) (len s (by omega)))
        have HW8 := Lib.hid (fun (A n c A' n' c' : _) (w1 : World) (h : SI w1 .u32 A n c (digs V (s + s))) (h' : SI w1 .u32 A' n' c' (digs V t)) => rcmp_d A A' n c n' c' (s + s) t w1 h h')
        have HD1 := Lib.hid (fun (A n c : _) (w1 : World) (h : SI w1 .u32 A n c (digs V x1)) => rdec_f ng A n c x1 u w1 h ((HBG.out x1 (by omega)).1) ((HBG.out x1 (by omega)).2) HU.out.1 HU.out.2)
        have HD2 := Lib.hid (fun (A n c : _) (w1 : World) (h : SI w1 .u32 A n c (digs V x2)) => rdec_f ng A n c x2 u w1 h ((HBG.out x2 (by omega)).1) ((HBG.out x2 (by omega)).2) HU.out.1 HU.out.2)
        obtain ⟨far, hfar⟩ : ∃ far, far = cmp (s + s) t := ⟨_, rfl⟩
        rw [← hfar] at HW8
        have HFR := Lib.hid hfar
        have HFW := Lib.hid (fun (lt eq odd : Bool) (hl : decide (2 * s < t) = lt) (he : decide (2 * s = t) = eq) (ho : decide (q % 2 = 1) = odd) => few_abs ht hq hs hx1 hx2 ha hbb hl he ho)
        have B := K4.below hb
        have HBx := Lib.hid B
        have HBL := Lib.hid (on bl4 hb)
        clear B q1 q2 q3 p1 p2 p3 len hqs hst hqM hx1M hx2M ha hbb hq hs hx1 hx2 htM ht0 ht hfar
        go_upto_region 21 with (first
          | (go_at_call 26; (with_reducible refine (HW1.out _ _ ?_).mono ?_); (have := HN.out; omega); rintro e w5 ⟨A5, n5, c5, rfl, r5, b5⟩)
          | (go_at_call 30; (with_reducible refine (HW2.out A5 n5 c5 w5 b5 r5).mono ?_); rintro e w6 ⟨A6, n6, c6, A7, n7, c7, rfl, r6, r7, b6⟩; have r5' := r5.below b6; have b6' := on b5 b6)
          | (go_at_call 27; (with_reducible refine (HW3.out A6 n6 c6 A5 n5 c5 w6 r6 r5').mono ?_); rintro e w8 ⟨A8, n8, c8, rfl, r8, b8⟩; have r5'' := r5'.below b8; have r6' := r6.below b8; have r7' := r7.below b8; have b8' := on b6' b8)
          | (go_at_call 20; first
            | ((with_reducible refine (HW4.out A8 n8 c8 A5 n5 c5 w8 r8 r5'').mono ?_); rintro e w9 ⟨A9, n9, c9, rfl, r9, b9⟩; have r5a := r5''.below b9; have r6a := r6'.below b9; have r7a := r7'.below b9; have r8a := r8.below b9; have b9' := on b8' b9)
            | ((with_reducible refine (HW7.out A7 n7 c7 w11 r7c).mono ?_); rintro e w12 ⟨A12, n12, c12, rfl, r12, b12⟩; have r5d := r5c.below b12; have r6d := r6c.below b12; have r8d := r8c.below b12; have r9d := r9c.below b12; have b12' := on b11' b12))
          | (go_at_call 31; first
            | ((with_reducible refine (HW5.out A8 n8 c8 w9 b9' r8a).mono ?_); rintro e w10 ⟨rfl, d10⟩; have r5b := r5a.below d10.below; have r6b := r6a.below d10.below; have r7b := r7a.below d10.below; have r8b := r8a.below d10.below; have r9b := r9.below d10.below; have b10' := on b9' d10.below)
            | ((with_reducible refine (HW6.out A9 n9 c9 w10 b10' r9b).mono ?_); rintro e w11 ⟨rfl, d11⟩; have r5c := r5b.below d11.below; have r6c := r6b.below d11.below; have r7c := r7b.below d11.below; have r8c := r8b.below d11.below; have r9c := r9b.below d11.below; have b11' := on b10' d11.below))
          | (go_at_call 21; (with_reducible refine (HW8.out A12 n12 c12 A5 n5 c5 w12 r12 r5d).mono ?_); rintro e w13 ⟨rfl, d13⟩; have r6e := r6d.below d13.below; have r8e := r8d.below d13.below; have r9e := r9d.below d13.below; have b13' := on b12' d13.below))
        obtain ⟨od, hod⟩ : ∃ od, decide (q % 2 = 1) = od := ⟨_, rfl⟩
        have HOD := Lib.hid hod
        clear hod
        go_cut [25] (fun s25 wx => s25 = .bool od ∧ w13 = wx)
        case first =>
          have hlo := limb_odd (x := q)
          have hll := limb_lt (x := q)
          rcases Nat.eq_zero_or_pos n6 with z6 | z6
          · subst z6
            have hq0 : q % 2 = 0 := by
              have : digs V q = [] := List.eq_nil_of_length_eq_zero r6e.len
              rw [this] at hlo
              rw [← hlo]; rfl
            have ho : od = false := by rw [← HOD.out]; exact decide_eq_false (by omega)
            have HO := Lib.hid ho
            clear hlo hll hq0 ho HFW HOD
            go_wp2
            go_meet
            exact ⟨by rw [HO.out], rfl⟩
          · obtain ⟨b6, o6, rfl, hc6⟩ := r6e.at_ z6
            obtain ⟨z, hz⟩ : ∃ z, z = rd (digs V q) 0 := ⟨_, rfl⟩
            rw [Nat.add_zero, ← hz] at hc6
            rw [← hz] at hlo hll
            have hcap := Sl.cap r6e
            have hle := Sl.le r6e
            have y1 : ((z : Int) % 2 == 1) = od := by rw [← HOD.out, Bool.eq_iff_iff]; simp; omega
            have y2 : ((z : Int).tmod 2 == 1) = od := by rw [← y1, Int.tmod_eq_emod_of_nonneg (by omega)]
            clear hz hlo HFW HOD
            go_wp2
            go_meet
            exact ⟨rfl, rfl⟩
        case rest =>
          obtain ⟨rfl, rfl⟩ := hcut
          have HBy := Lib.hid (HBx.out.below b13')
          have HBz := Lib.hid (on HBL.out b13')
          have HBw := Lib.hid (on hb b13')
          clear HBx HBL hb b13' HW1 HW2 HW3 HW4 HW5 HW6 HW7 HW8
          rcases far_cases s t with ⟨g1, g2, g3⟩ | ⟨g1, g2, g3⟩ | ⟨g1, g2, g3⟩
          · obtain rfl : far = -1 := HFR.out.trans g1
            have G2 := Lib.hid g2
            have G3 := Lib.hid g3
            clear g1 g2 g3 HFR
            cases a
            · cases b
              · have e : few L M H ends (k + 1) = few L M H ends k := HFW.out _ _ _ G2.out G3.out HOD.out
                have e2 := Lib.hid (HF.out.trans e)
                clear e HFW HF HD1 HD2 HOD G2 G3
                go_wp2
                go_roundw
                case rel => exact ⟨n + 1, k, by go_num, by have := HN.out; unfold Hid; omega, by omega, by omega, e2.out, HBw.out⟩
                case measure => simp [intOf]; omega
              · have e : few L M H ends (k + 1) = x2 := HFW.out _ _ _ G2.out G3.out HOD.out
                have e2 := Lib.hid (HF.out.trans e)
                have HD := Lib.hid (HD2.out A9 n9 c9 w13 r9e)
                clear e HFW HF HD1 HD2 HOD G2 G3
                go_wp2_with (go_at_call 32; (with_reducible refine HD.out.mono ?_); rintro e w14 ⟨rfl, b14⟩; have B3 := HBy.out.below b14; have f0 := B3.fr 0; have f1 := B3.fr 1; have f2 := B3.fr 2; have f3 := B3.fr 3; have j0 := B3.at_ 0 rfl; have j1 := B3.at_ 1 rfl; have j2 := B3.at_ 2 rfl; have j3 := B3.at_ 3 rfl)
                rw [e2.out]
                have hs : w.heap.size ≤ w.heap.size + 1 := Nat.le_succ _
                exact bodyPost_ret (res_bk rfl _ (B3.set4 (.int .i64 0) (.bool ng) (.string ⟨(cd x2).toArray⟩) (.int .i64 (ce x2 u)) rfl) rfl Tryz.underlying25 rfl (by kernel_rfl)) rfl ⟨rfl, ((((on HBz.out b14).setCell hs _).setCell hs _).setCell hs _).setCell hs _⟩
            · cases b
              · have e : few L M H ends (k + 1) = x1 := HFW.out _ _ _ G2.out G3.out HOD.out
                have e2 := Lib.hid (HF.out.trans e)
                have HD := Lib.hid (HD1.out A8 n8 c8 w13 r8e)
                clear e HFW HF HD1 HD2 HOD G2 G3
                go_wp2_with (go_at_call 32; (with_reducible refine HD.out.mono ?_); rintro e w14 ⟨rfl, b14⟩; have B3 := HBy.out.below b14; have f0 := B3.fr 0; have f1 := B3.fr 1; have f2 := B3.fr 2; have f3 := B3.fr 3; have j0 := B3.at_ 0 rfl; have j1 := B3.at_ 1 rfl; have j2 := B3.at_ 2 rfl; have j3 := B3.at_ 3 rfl)
                rw [e2.out]
                have hs : w.heap.size ≤ w.heap.size + 1 := Nat.le_succ _
                exact bodyPost_ret (res_bk rfl _ (B3.set4 (.int .i64 0) (.bool ng) (.string ⟨(cd x1).toArray⟩) (.int .i64 (ce x1 u)) rfl) rfl Tryz.underlying25 rfl (by kernel_rfl)) rfl ⟨rfl, ((((on HBz.out b14).setCell hs _).setCell hs _).setCell hs _).setCell hs _⟩
              · have e : few L M H ends (k + 1) = x1 := HFW.out _ _ _ G2.out G3.out HOD.out
                have e2 := Lib.hid (HF.out.trans e)
                have HD := Lib.hid (HD1.out A8 n8 c8 w13 r8e)
                clear e HFW HF HD1 HD2 HOD G2 G3
                go_wp2_with (go_at_call 32; (with_reducible refine HD.out.mono ?_); rintro e w14 ⟨rfl, b14⟩; have B3 := HBy.out.below b14; have f0 := B3.fr 0; have f1 := B3.fr 1; have f2 := B3.fr 2; have f3 := B3.fr 3; have j0 := B3.at_ 0 rfl; have j1 := B3.at_ 1 rfl; have j2 := B3.at_ 2 rfl; have j3 := B3.at_ 3 rfl)
                rw [e2.out]
                have hs : w.heap.size ≤ w.heap.size + 1 := Nat.le_succ _
                exact bodyPost_ret (res_bk rfl _ (B3.set4 (.int .i64 0) (.bool ng) (.string ⟨(cd x1).toArray⟩) (.int .i64 (ce x1 u)) rfl) rfl Tryz.underlying25 rfl (by kernel_rfl)) rfl ⟨rfl, ((((on HBz.out b14).setCell hs _).setCell hs _).setCell hs _).setCell hs _⟩
          · obtain rfl : far = 0 := HFR.out.trans g1
            have G2 := Lib.hid g2
            have G3 := Lib.hid g3
            clear g1 g2 g3 HFR
            cases a
            · cases b
              · have e : few L M H ends (k + 1) = few L M H ends k := HFW.out _ _ _ G2.out G3.out HOD.out
                have e2 := Lib.hid (HF.out.trans e)
                clear e HFW HF HD1 HD2 HOD G2 G3
                go_wp2
                go_roundw
                case rel => exact ⟨n + 1, k, by go_num, by have := HN.out; unfold Hid; omega, by omega, by omega, e2.out, HBw.out⟩
                case measure => simp [intOf]; omega
              · have e : few L M H ends (k + 1) = x2 := HFW.out _ _ _ G2.out G3.out HOD.out
                have e2 := Lib.hid (HF.out.trans e)
                have HD := Lib.hid (HD2.out A9 n9 c9 w13 r9e)
                clear e HFW HF HD1 HD2 HOD G2 G3
                go_wp2_with (go_at_call 32; (with_reducible refine HD.out.mono ?_); rintro e w14 ⟨rfl, b14⟩; have B3 := HBy.out.below b14; have f0 := B3.fr 0; have f1 := B3.fr 1; have f2 := B3.fr 2; have f3 := B3.fr 3; have j0 := B3.at_ 0 rfl; have j1 := B3.at_ 1 rfl; have j2 := B3.at_ 2 rfl; have j3 := B3.at_ 3 rfl)
                rw [e2.out]
                have hs : w.heap.size ≤ w.heap.size + 1 := Nat.le_succ _
                exact bodyPost_ret (res_bk rfl _ (B3.set4 (.int .i64 0) (.bool ng) (.string ⟨(cd x2).toArray⟩) (.int .i64 (ce x2 u)) rfl) rfl Tryz.underlying25 rfl (by kernel_rfl)) rfl ⟨rfl, ((((on HBz.out b14).setCell hs _).setCell hs _).setCell hs _).setCell hs _⟩
            · cases b
              · have e : few L M H ends (k + 1) = x1 := HFW.out _ _ _ G2.out G3.out HOD.out
                have e2 := Lib.hid (HF.out.trans e)
                have HD := Lib.hid (HD1.out A8 n8 c8 w13 r8e)
                clear e HFW HF HD1 HD2 HOD G2 G3
                go_wp2_with (go_at_call 32; (with_reducible refine HD.out.mono ?_); rintro e w14 ⟨rfl, b14⟩; have B3 := HBy.out.below b14; have f0 := B3.fr 0; have f1 := B3.fr 1; have f2 := B3.fr 2; have f3 := B3.fr 3; have j0 := B3.at_ 0 rfl; have j1 := B3.at_ 1 rfl; have j2 := B3.at_ 2 rfl; have j3 := B3.at_ 3 rfl)
                rw [e2.out]
                have hs : w.heap.size ≤ w.heap.size + 1 := Nat.le_succ _
                exact bodyPost_ret (res_bk rfl _ (B3.set4 (.int .i64 0) (.bool ng) (.string ⟨(cd x1).toArray⟩) (.int .i64 (ce x1 u)) rfl) rfl Tryz.underlying25 rfl (by kernel_rfl)) rfl ⟨rfl, ((((on HBz.out b14).setCell hs _).setCell hs _).setCell hs _).setCell hs _⟩
              · cases od
                · have e : few L M H ends (k + 1) = x1 := HFW.out _ _ _ G2.out G3.out HOD.out
                  have e2 := Lib.hid (HF.out.trans e)
                  have HD := Lib.hid (HD1.out A8 n8 c8 w13 r8e)
                  clear e HFW HF HD1 HD2 HOD G2 G3
                  go_wp2_with (go_at_call 32; (with_reducible refine HD.out.mono ?_); rintro e w14 ⟨rfl, b14⟩; have B3 := HBy.out.below b14; have f0 := B3.fr 0; have f1 := B3.fr 1; have f2 := B3.fr 2; have f3 := B3.fr 3; have j0 := B3.at_ 0 rfl; have j1 := B3.at_ 1 rfl; have j2 := B3.at_ 2 rfl; have j3 := B3.at_ 3 rfl)
                  rw [e2.out]
                  have hs : w.heap.size ≤ w.heap.size + 1 := Nat.le_succ _
                  exact bodyPost_ret (res_bk rfl _ (B3.set4 (.int .i64 0) (.bool ng) (.string ⟨(cd x1).toArray⟩) (.int .i64 (ce x1 u)) rfl) rfl Tryz.underlying25 rfl (by kernel_rfl)) rfl ⟨rfl, ((((on HBz.out b14).setCell hs _).setCell hs _).setCell hs _).setCell hs _⟩
                · have e : few L M H ends (k + 1) = x2 := HFW.out _ _ _ G2.out G3.out HOD.out
                  have e2 := Lib.hid (HF.out.trans e)
                  have HD := Lib.hid (HD2.out A9 n9 c9 w13 r9e)
                  clear e HFW HF HD1 HD2 HOD G2 G3
                  go_wp2_with (go_at_call 32; (with_reducible refine HD.out.mono ?_); rintro e w14 ⟨rfl, b14⟩; have B3 := HBy.out.below b14; have f0 := B3.fr 0; have f1 := B3.fr 1; have f2 := B3.fr 2; have f3 := B3.fr 3; have j0 := B3.at_ 0 rfl; have j1 := B3.at_ 1 rfl; have j2 := B3.at_ 2 rfl; have j3 := B3.at_ 3 rfl)
                  rw [e2.out]
                  have hs : w.heap.size ≤ w.heap.size + 1 := Nat.le_succ _
                  exact bodyPost_ret (res_bk rfl _ (B3.set4 (.int .i64 0) (.bool ng) (.string ⟨(cd x2).toArray⟩) (.int .i64 (ce x2 u)) rfl) rfl Tryz.underlying25 rfl (by kernel_rfl)) rfl ⟨rfl, ((((on HBz.out b14).setCell hs _).setCell hs _).setCell hs _).setCell hs _⟩
          · obtain rfl : far = 1 := HFR.out.trans g1
            have G2 := Lib.hid g2
            have G3 := Lib.hid g3
            clear g1 g2 g3 HFR
            cases a
            · cases b
              · have e : few L M H ends (k + 1) = few L M H ends k := HFW.out _ _ _ G2.out G3.out HOD.out
                have e2 := Lib.hid (HF.out.trans e)
                clear e HFW HF HD1 HD2 HOD G2 G3
                go_wp2
                go_roundw
                case rel => exact ⟨n + 1, k, by go_num, by have := HN.out; unfold Hid; omega, by omega, by omega, e2.out, HBw.out⟩
                case measure => simp [intOf]; omega
              · have e : few L M H ends (k + 1) = x2 := HFW.out _ _ _ G2.out G3.out HOD.out
                have e2 := Lib.hid (HF.out.trans e)
                have HD := Lib.hid (HD2.out A9 n9 c9 w13 r9e)
                clear e HFW HF HD1 HD2 HOD G2 G3
                go_wp2_with (go_at_call 32; (with_reducible refine HD.out.mono ?_); rintro e w14 ⟨rfl, b14⟩; have B3 := HBy.out.below b14; have f0 := B3.fr 0; have f1 := B3.fr 1; have f2 := B3.fr 2; have f3 := B3.fr 3; have j0 := B3.at_ 0 rfl; have j1 := B3.at_ 1 rfl; have j2 := B3.at_ 2 rfl; have j3 := B3.at_ 3 rfl)
                rw [e2.out]
                have hs : w.heap.size ≤ w.heap.size + 1 := Nat.le_succ _
                exact bodyPost_ret (res_bk rfl _ (B3.set4 (.int .i64 0) (.bool ng) (.string ⟨(cd x2).toArray⟩) (.int .i64 (ce x2 u)) rfl) rfl Tryz.underlying25 rfl (by kernel_rfl)) rfl ⟨rfl, ((((on HBz.out b14).setCell hs _).setCell hs _).setCell hs _).setCell hs _⟩
            · cases b
              · have e : few L M H ends (k + 1) = x1 := HFW.out _ _ _ G2.out G3.out HOD.out
                have e2 := Lib.hid (HF.out.trans e)
                have HD := Lib.hid (HD1.out A8 n8 c8 w13 r8e)
                clear e HFW HF HD1 HD2 HOD G2 G3
                go_wp2_with (go_at_call 32; (with_reducible refine HD.out.mono ?_); rintro e w14 ⟨rfl, b14⟩; have B3 := HBy.out.below b14; have f0 := B3.fr 0; have f1 := B3.fr 1; have f2 := B3.fr 2; have f3 := B3.fr 3; have j0 := B3.at_ 0 rfl; have j1 := B3.at_ 1 rfl; have j2 := B3.at_ 2 rfl; have j3 := B3.at_ 3 rfl)
                rw [e2.out]
                have hs : w.heap.size ≤ w.heap.size + 1 := Nat.le_succ _
                exact bodyPost_ret (res_bk rfl _ (B3.set4 (.int .i64 0) (.bool ng) (.string ⟨(cd x1).toArray⟩) (.int .i64 (ce x1 u)) rfl) rfl Tryz.underlying25 rfl (by kernel_rfl)) rfl ⟨rfl, ((((on HBz.out b14).setCell hs _).setCell hs _).setCell hs _).setCell hs _⟩
              · have e : few L M H ends (k + 1) = x2 := HFW.out _ _ _ G2.out G3.out HOD.out
                have e2 := Lib.hid (HF.out.trans e)
                have HD := Lib.hid (HD2.out A9 n9 c9 w13 r9e)
                clear e HFW HF HD1 HD2 HOD G2 G3
                go_wp2_with (go_at_call 32; (with_reducible refine HD.out.mono ?_); rintro e w14 ⟨rfl, b14⟩; have B3 := HBy.out.below b14; have f0 := B3.fr 0; have f1 := B3.fr 1; have f2 := B3.fr 2; have f3 := B3.fr 3; have j0 := B3.at_ 0 rfl; have j1 := B3.at_ 1 rfl; have j2 := B3.at_ 2 rfl; have j3 := B3.at_ 3 rfl)
                rw [e2.out]
                have hs : w.heap.size ≤ w.heap.size + 1 := Nat.le_succ _
                exact bodyPost_ret (res_bk rfl _ (B3.set4 (.int .i64 0) (.bool ng) (.string ⟨(cd x2).toArray⟩) (.int .i64 (ce x2 u)) rfl) rfl Tryz.underlying25 rfl (by kernel_rfl)) rfl ⟨rfl, ((((on HBz.out b14).setCell hs _).setCell hs _).setCell hs _).setCell hs _⟩
set_option maxHeartbeats 8000000 in
set_option maxRecDepth 100000 in
theorem rof_fin_n {bits m v : Nat} {ng nb : Bool} (w : World) (hm : m < 2 * 8388608) (h0 : 0 < m) (hv : v ≤ 254) (hnb : nb = (decide (m = 8388608) && decide (0 < v)))
    (HA : ∀ w, Calls Tryz.prog 24 #[.agg #[.int .i64 23, .int .i64 8], .int .u64 (bits : Nat)] w fun e w' =>
      e = .returned (.tuple #[.bool ng, .int .i64 0, .int .u64 (m : Nat), .int .i64 ((v : Int) - 149)]) ∧ Below w.heap.size w w') :
    Calls Tryz.prog 11 #[.agg #[.int .i64 23, .int .i64 8], .int .u64 (bits : Nat)] w fun e w' =>
      e = .returned (.agg (dec 0 ng (cd (Fv 151 m v (nrv nb))) (ce (Fv 151 m v (nrv nb)) ((un 151 v : Nat) - (151 : Nat))))) ∧ Below w.heap.size w w' := by
  have HA' := Lib.hid HA
  have e0 : ((m : Int) == 0) = false := by simp; omega
  have e0' : (m == 0) = false := by simp; omega
  have HRe := Lib.hid (fun w1 => reach_n m v nb w1 hm h0 hv hnb)
  have hr := (show nrv nb ≤ 2 ∧ 0 < nrv nb by cases nb <;> decide)
  clear HA hnb
  generalize nrv nb = r at *
  obtain ⟨B1, B2, bl⟩ := blk_two w #[.int .i64 23, .int .i64 8] #[.int .i64 0, .bool false, .string ⟨#[]⟩, .int .i64 0] 28 25
  have HB1 := Lib.hid B1
  have HB2 := Lib.hid B2
  have HB := Lib.hid bl
  clear B1 B2 bl
  obtain ⟨ends, hends⟩ : ∃ ends, ends = decide (m % 2 = 0) := ⟨_, rfl⟩
  unfold Fv
  rw [← hends] at HRe ⊢
  clear hends
  have hlen := dig_len (m := 4 * m) (Z := 151) (w := v) (by unfold U; omega) (by omega) (by omega)
  have hM0 : 0 < 4 * m * sf 151 v := Nat.mul_pos (by omega) (sf_pos _ _)
  have hLM : (4 * m - r) * sf 151 v ≤ 4 * m * sf 151 v := Nat.mul_le_mul_right _ (by omega)
  have hHM : (4 * m + 2) * sf 151 v ≤ 20 * (4 * m * sf 151 v) := by rw [← Nat.mul_assoc]; exact Nat.mul_le_mul_right _ (by omega)
  have hu : -65536 ≤ ((un 151 v : Nat) : Int) - ((151 : Nat) : Int) ∧ ((un 151 v : Nat) : Int) - ((151 : Nat) : Int) ≤ 65536 := by unfold un; split <;> omega
  obtain ⟨L, hL⟩ : ∃ L, L = (4 * m - r) * sf 151 v := ⟨_, rfl⟩
  obtain ⟨M, hM⟩ : ∃ M, M = 4 * m * sf 151 v := ⟨_, rfl⟩
  obtain ⟨H, hH⟩ : ∃ H, H = (4 * m + 2) * sf 151 v := ⟨_, rfl⟩
  obtain ⟨u, hue⟩ : ∃ u, u = ((un 151 v : Nat) : Int) - ((151 : Nat) : Int) := ⟨_, rfl⟩
  rw [← hM] at hlen hM0 hHM
  rw [← hL, ← hM] at hLM
  rw [← hH] at hHM
  rw [← hue] at hu
  rw [← hL, ← hM, ← hH, ← hue]
  obtain ⟨T, hT⟩ : ∃ T : ByteArray, T = ⟨(Lib.decDigits M).toArray⟩ := ⟨_, rfl⟩
  have hTz : T.size = (Lib.decDigits M).length := by rw [hT, size_of]
  have hdl := dec_lower (Nat.ne_of_gt hM0)
  have hdp := dec_len_pos M
  rw [← hTz] at hdl hlen hdp ⊢
  have HBG := Lib.hid (fun (x : Nat) (hx : x ≤ 20 * M) => big_len hTz.symm (by omega) hx)
  have HDL := Lib.hid hdl
  have HU := Lib.hid hu
  have HMs := Lib.hid hLM
  have HHs := Lib.hid hHM
  have HLe := Lib.hid hL
  have HMe := Lib.hid hM
  have HHe := Lib.hid hH
  have HUe := Lib.hid hue
  have HTe := Lib.hid hT
  clear hT hTz hdl hu hLM hHM hL hM hH hue
  go_enter Tryz.func11, Tryz.ntmps11
  go_upto_region 6 with (first
    | (go_at_call 24; (with_reducible refine (HA'.out _).mono ?_); rintro e w1 ⟨rfl, b1⟩; have C := HB1.out.below b1; have k0 := C.at_ 0 rfl; have k1 := C.at_ 1 rfl)
    | (go_at_call 25; (with_reducible refine (HRe.out _).mono ?_); rintro e w2 ⟨A1, n1, c1, A2, n2, c2, A3, n3, c3, rfl, r1, r2, r3, b2⟩))
  have K2 := (HB2.out.below b1).below b2
  have bl := on (on HB.out b1) b2
  clear HB1 HB2 HB C k0 k1 HA' HRe b1 b2
  go_upto_if 53 with (fail)
  go_cut [9, 10, 11, 13] (fun s9 s10 s11 s13 wx => RS w2 L M H u s9 s10 s11 s13 wx)
  case first =>
    rcases Nat.lt_or_ge v 151 with hlt | hge
    · obtain ⟨k, hk⟩ : ∃ k, v + k = 151 := ⟨151 - v, by omega⟩
      obtain ⟨e1, e2⟩ := sf_down hk (by omega)
      have hP := five_short (show k ≤ 4096 by omega)
      have hT : (v : Int) - 149 < 2 := by omega
      have H1 := Lib.hid (fun a x w1 ha hx => rpow_f a 5 k x w1 ha (by omega) (by omega) hx (by omega))
      have HK := Lib.hid hk
      have HPn := Lib.hid hP
      have E1 := Lib.hid e1
      have E2 := Lib.hid e2
      clear e1 e2 hk hP
      generalize 5 ^ k = T at *
      have hs1 := Lib.hid (one_short (m := 4 * m - r) (by unfold U; omega))
      have hs2 := Lib.hid (one_short (m := 4 * m) (by unfold U; omega))
      have hs3 := Lib.hid (one_short (m := 4 * m + 2) (by unfold U; omega))
      go_wp2_with (first
        | (go_at_call 26; (with_reducible refine (H1.out _ _ _ ?_ ?_).mono ?_); (rfl); (have := HK.out; omega); rintro e w3 ⟨A4, n4, c4, rfl, r4, b3⟩; have q1 := r1.below b3; have q2 := r2.below b3; have q3 := r3.below b3)
        | (go_at_call 27; first
          | ((with_reducible refine (rmul_e A1 A4 n1 c1 n4 c4 _ _ _ q1 r4 hs1.out HPn.out).mono ?_); rintro e w4 ⟨A5, n5, c5, rfl, r5, b4⟩; have q22 := q2.below b4; have q33 := q3.below b4; have r44 := r4.below b4)
          | ((with_reducible refine (rmul_e A2 A4 n2 c2 n4 c4 _ _ _ q22 r44 hs2.out HPn.out).mono ?_); rintro e w5 ⟨A6, n6, c6, rfl, r6, b5⟩; have q333 := q33.below b5; have r444 := r44.below b5; have r55 := r5.below b5)
          | ((with_reducible refine (rmul_e A3 A4 n3 c3 n4 c4 _ _ _ q333 r444 hs3.out HPn.out).mono ?_); rintro e w6 ⟨A7, n7, c7, rfl, r7, b6⟩; have r66 := r6.below b6; have r555 := r55.below b6)))
      go_meet
      unfold RS
      rw [HLe.out, HMe.out, HHe.out, HUe.out, E1.out, E2.out]
      exact ⟨_, _, _, _, _, _, _, _, _, rfl, rfl, rfl, ret_val (by omega), r555, r66, r7, on (on (on b3 b4) b5) b6⟩
    · obtain ⟨k, rfl⟩ : ∃ k, v = 151 + k := ⟨v - 151, by omega⟩
      obtain ⟨e1, e2⟩ := sf_up 151 k
      have E1 := Lib.hid e1
      have E2 := Lib.hid e2
      have hT : ¬ ((151 + k : Nat) : Int) - 149 < 2 := by omega
      have hs1 := Lib.hid (one_short (m := 4 * m - r) (by unfold U; omega))
      have hs2 := Lib.hid (one_short (m := 4 * m) (by unfold U; omega))
      have hs3 := Lib.hid (one_short (m := 4 * m + 2) (by unfold U; omega))
      have hk4 : k ≤ 4096 := by omega
      clear e1 e2
      go_wp2_with (go_at_call 28; first
          | ((with_reducible refine (rshl_f A1 n1 c1 _ k _ _ r1 ?_ hs1.out hk4).mono ?_); (omega); rintro e w4 ⟨A5, n5, c5, rfl, r5, b4⟩; have q22 := r2.below b4; have q33 := r3.below b4)
          | ((with_reducible refine (rshl_f A2 n2 c2 _ k _ _ q22 ?_ hs2.out hk4).mono ?_); (omega); rintro e w5 ⟨A6, n6, c6, rfl, r6, b5⟩; have q333 := q33.below b5; have r55 := r5.below b5)
          | ((with_reducible refine (rshl_f A3 n3 c3 _ k _ _ q333 ?_ hs3.out hk4).mono ?_); (omega); rintro e w6 ⟨A7, n7, c7, rfl, r7, b6⟩; have r66 := r6.below b6; have r555 := r55.below b6))
      go_meet
      unfold RS
      rw [HLe.out, HMe.out, HHe.out, HUe.out, E1.out, E2.out]
      exact ⟨_, _, _, _, _, _, _, _, _, rfl, rfl, rfl, ret_val (by omega), r555, r66, r7, on (on b4 b5) b6⟩
  case rest =>
    obtain ⟨A1, n1, c1, A2, n2, c2, A3, n3, c3, rfl, rfl, rfl, rfl, r1, r2, r3, b3⟩ := hcut
    generalize wc = Y2 at *
    have K3 := K2.below b3
    have bl3 := on bl b3
    clear K2 bl b3
    have HX := Lib.hid (rtext_f A2 n2 c2 M Y2 r2 (by rw [← r2.len]; have := (HBG.out M (by omega)).1; omega))
    rw [← HTe.out] at HX
    go_wp2_with (go_at_call 29; (with_reducible refine HX.out.mono ?_); rintro e w3 ⟨rfl, b4⟩)
    have q1 := r1.below b4
    have q2 := r2.below b4
    have q3 := r3.below b4
    have K4 := K3.below b4
    have bl4 := on bl3 b4
    clear r1 r2 r3 K3 bl3 b4 HX
    go_loopw [16] (fun z wr => ∃ n k : Nat, z = .int .i64 (n : Nat) ∧ Hid (n + k = T.size) ∧ 1 ≤ n ∧ n ≤ T.size ∧ Hid (few L M H ends (T.size - 1) = few L M H ends k) ∧ Below w3.heap.size w3 wr) (fun z _ => T.size - (intOf z).toNat)
    case atStart => exact ⟨1, T.size - 1, rfl, by unfold Hid; omega, Nat.le_refl _, by omega, rfl, Below.refl _ _⟩
    case round =>
      obtain ⟨n, k, rfl, HN, hn1, hn2, HF, hb⟩ := hrel
      cases k with
      | zero =>
        obtain rfl : n = T.size := by have := HN.out; omega
        have HD := Lib.hid (rdec_f ng A2 n2 c2 M u wr (q2.below hb) ((HBG.out M (by omega)).1) ((HBG.out M (by omega)).2) HU.out.1 HU.out.2)
        have B := (K4.below hb)
        have HBx := Lib.hid B
        clear B q1 q2 q3
        go_wp2_with (go_at_call 32; (with_reducible refine HD.out.mono ?_); rintro e w4 ⟨rfl, b5⟩; have B3 := HBx.out.below b5; have f0 := B3.fr 0; have f1 := B3.fr 1; have f2 := B3.fr 2; have f3 := B3.fr 3; have j0 := B3.at_ 0 rfl; have j1 := B3.at_ 1 rfl; have j2 := B3.at_ 2 rfl; have j3 := B3.at_ 3 rfl)
        rw [HF.out]
        refine bodyPost_ret (res_bk rfl _ (B3.set4 (.int .i64 0) (.bool ng) (.string ⟨(cd M).toArray⟩) (.int .i64 (ce M u)) rfl) rfl Tryz.underlying25 rfl (by kernel_rfl)) rfl ⟨rfl, ?_⟩
        have hs : w.heap.size ≤ w.heap.size + 1 := Nat.le_succ _
        exact ((((on (on bl4 hb) b5).setCell hs _).setCell hs _).setCell hs _).setCell hs _
      | succ k =>
        have hlt : n < T.size := by have := HN.out; omega
        obtain ⟨t, ht⟩ : ∃ t, t = 10 ^ (k + 1) := ⟨_, rfl⟩
        have ht0 : 0 < t := by rw [ht]; exact p10 _
        have htM : t ≤ M := by rw [ht]; exact Nat.le_trans (Nat.pow_le_pow_right (by omega) (by have := HN.out; omega)) HDL.out
        obtain ⟨q, hq⟩ : ∃ q, q = M / t := ⟨_, rfl⟩
        obtain ⟨s, hs⟩ : ∃ s, s = M % t := ⟨_, rfl⟩
        have hqs : q * t + s = M := by rw [hq, hs, Nat.mul_comm]; exact Nat.div_add_mod M t
        have hst : s < t := by rw [hs]; exact Nat.mod_lt _ ht0
        have hqM : q ≤ M := by rw [hq]; exact Nat.div_le_self M t
        obtain ⟨x1, hx1⟩ : ∃ x1, x1 = q * t := ⟨_, rfl⟩
        obtain ⟨x2, hx2⟩ : ∃ x2, x2 = x1 + t := ⟨_, rfl⟩
        have hx1M : x1 ≤ M := by omega
        have hx2M : x2 ≤ 20 * M := by omega
        obtain ⟨a, ha⟩ : ∃ a, win ends L H x1 = a := ⟨_, rfl⟩
        obtain ⟨b, hbb⟩ : ∃ b, win ends L H x2 = b := ⟨_, rfl⟩
        have len := fun (x : Nat) (h : x ≤ 20 * M) => (show (digs V x).length ≤ 65536 by have := (HBG.out x h).1; omega)
        have p1 := q1.below hb
        have p2 := q2.below hb
        have p3 := q3.below hb
        have HW1 := Lib.hid (fun x w1 hx => ht ▸ rpow_f 10 10 (k + 1) x w1 rfl (by omega) (by omega) hx (by have := HN.out; omega))
        have HW2 := Lib.hid (fun (A n c : _) (w1 : World) (b : Below wr.heap.size wr w1) (h : SI w1 .u32 A n c (digs V t)) => rdiv_e A2 A n2 c2 n c M t w1 (p2.below b) h (len M (by omega)) ht0)
        rw [← hq, ← hs] at HW2
        have HW3 := Lib.hid (fun (A n c A' n' c' : _) (w1 : World) (h : SI w1 .u32 A n c (digs V q)) (h' : SI w1 .u32 A' n' c' (digs V t)) => hx1 ▸ rmul_e A A' n c n' c' q t w1 h h' (len q (by omega)) (len t (by omega)))
        have HW4 := Lib.hid (fun (A n c A' n' c' : _) (w1 : World) (h : SI w1 .u32 A n c (digs V x1)) (h' : SI w1 .u32 A' n' c' (digs V t)) => hx2 ▸ radd_e A A' n c n' c' x1 t w1 h h' (len x1 (by omega)) (len t (by omega)))
        have HW5 := Lib.hid (fun (A n c : _) (w1 : World) (b : Below wr.heap.size wr w1) (h : SI w1 .u32 A n c (digs V x1)) => ha ▸ inside_calls A1 A A3 n1 c1 n c n3 c3 L x1 H ends w1 (p1.below b) h (p3.below b))
        have HW6 := Lib.hid (fun (A n c : _) (w1 : World) (b : Below wr.heap.size wr w1) (h : SI w1 .u32 A n c (digs V x2)) => hbb ▸ inside_calls A1 A A3 n1 c1 n c n3 c3 L x2 H ends w1 (p1.below b) h (p3.below b))
        have HW7 := Lib.hid (fun (A n c : _) (w1 : World) (h : SI w1 .u32 A n c (digs V s)) => radd_e A A n c n c s s w1 h h (len s (by omega)) (len s (by omega)))
        have HW8 := Lib.hid (fun (A n c A' n' c' : _) (w1 : World) (h : SI w1 .u32 A n c (digs V (s + s))) (h' : SI w1 .u32 A' n' c' (digs V t)) => rcmp_d A A' n c n' c' (s + s) t w1 h h')
        have HD1 := Lib.hid (fun (A n c : _) (w1 : World) (h : SI w1 .u32 A n c (digs V x1)) => rdec_f ng A n c x1 u w1 h ((HBG.out x1 (by omega)).1) ((HBG.out x1 (by omega)).2) HU.out.1 HU.out.2)
        have HD2 := Lib.hid (fun (A n c : _) (w1 : World) (h : SI w1 .u32 A n c (digs V x2)) => rdec_f ng A n c x2 u w1 h ((HBG.out x2 (by omega)).1) ((HBG.out x2 (by omega)).2) HU.out.1 HU.out.2)
        obtain ⟨far, hfar⟩ : ∃ far, far = cmp (s + s) t := ⟨_, rfl⟩
        rw [← hfar] at HW8
        have HFR := Lib.hid hfar
        have HFW := Lib.hid (fun (lt eq odd : Bool) (hl : decide (2 * s < t) = lt) (he : decide (2 * s = t) = eq) (ho : decide (q % 2 = 1) = odd) => few_abs ht hq hs hx1 hx2 ha hbb hl he ho)
        have B := K4.below hb
        have HBx := Lib.hid B
        have HBL := Lib.hid (on bl4 hb)
        clear B q1 q2 q3 p1 p2 p3 len hqs hst hqM hx1M hx2M ha hbb hq hs hx1 hx2 htM ht0 ht hfar
        go_upto_region 21 with (first
          | (go_at_call 26; (with_reducible refine (HW1.out _ _ ?_).mono ?_); (have := HN.out; omega); rintro e w5 ⟨A5, n5, c5, rfl, r5, b5⟩)
          | (go_at_call 30; (with_reducible refine (HW2.out A5 n5 c5 w5 b5 r5).mono ?_); rintro e w6 ⟨A6, n6, c6, A7, n7, c7, rfl, r6, r7, b6⟩; have r5' := r5.below b6; have b6' := on b5 b6)
          | (go_at_call 27; (with_reducible refine (HW3.out A6 n6 c6 A5 n5 c5 w6 r6 r5').mono ?_); rintro e w8 ⟨A8, n8, c8, rfl, r8, b8⟩; have r5'' := r5'.below b8; have r6' := r6.below b8; have r7' := r7.below b8; have b8' := on b6' b8)
          | (go_at_call 20; first
            | ((with_reducible refine (HW4.out A8 n8 c8 A5 n5 c5 w8 r8 r5'').mono ?_); rintro e w9 ⟨A9, n9, c9, rfl, r9, b9⟩; have r5a := r5''.below b9; have r6a := r6'.below b9; have r7a := r7'.below b9; have r8a := r8.below b9; have b9' := on b8' b9)
            | ((with_reducible refine (HW7.out A7 n7 c7 w11 r7c).mono ?_); rintro e w12 ⟨A12, n12, c12, rfl, r12, b12⟩; have r5d := r5c.below b12; have r6d := r6c.below b12; have r8d := r8c.below b12; have r9d := r9c.below b12; have b12' := on b11' b12))
          | (go_at_call 31; first
            | ((with_reducible refine (HW5.out A8 n8 c8 w9 b9' r8a).mono ?_); rintro e w10 ⟨rfl, d10⟩; have r5b := r5a.below d10.below; have r6b := r6a.below d10.below; have r7b := r7a.below d10.below; have r8b := r8a.below d10.below; have r9b := r9.below d10.below; have b10' := on b9' d10.below)
            | ((with_reducible refine (HW6.out A9 n9 c9 w10 b10' r9b).mono ?_); rintro e w11 ⟨rfl, d11⟩; have r5c := r5b.below d11.below; have r6c := r6b.below d11.below; have r7c := r7b.below d11.below; have r8c := r8b.below d11.below; have r9c := r9b.below d11.below; have b11' := on b10' d11.below))
          | (go_at_call 21; (with_reducible refine (HW8.out A12 n12 c12 A5 n5 c5 w12 r12 r5d).mono ?_); rintro e w13 ⟨rfl, d13⟩; have r6e := r6d.below d13.below; have r8e := r8d.below d13.below; have r9e := r9d.below d13.below; have b13' := on b12' d13.below))
        obtain ⟨od, hod⟩ : ∃ od, decide (q % 2 = 1) = od := ⟨_, rfl⟩
        have HOD := Lib.hid hod
        clear hod
        go_cut [25] (fun s25 wx => s25 = .bool od ∧ w13 = wx)
        case first =>
          have hlo := limb_odd (x := q)
          have hll := limb_lt (x := q)
          rcases Nat.eq_zero_or_pos n6 with z6 | z6
          · subst z6
            have hq0 : q % 2 = 0 := by
              have : digs V q = [] := List.eq_nil_of_length_eq_zero r6e.len
              rw [this] at hlo
              rw [← hlo]; rfl
            have ho : od = false := by rw [← HOD.out]; exact decide_eq_false (by omega)
            have HO := Lib.hid ho
            clear hlo hll hq0 ho HFW HOD
            go_wp2
            go_meet
            exact ⟨by rw [HO.out], rfl⟩
          · obtain ⟨b6, o6, rfl, hc6⟩ := r6e.at_ z6
            obtain ⟨z, hz⟩ : ∃ z, z = rd (digs V q) 0 := ⟨_, rfl⟩
            rw [Nat.add_zero, ← hz] at hc6
            rw [← hz] at hlo hll
            have hcap := Sl.cap r6e
            have hle := Sl.le r6e
            have y1 : ((z : Int) % 2 == 1) = od := by rw [← HOD.out, Bool.eq_iff_iff]; simp; omega
            have y2 : ((z : Int).tmod 2 == 1) = od := by rw [← y1, Int.tmod_eq_emod_of_nonneg (by omega)]
            clear hz hlo HFW HOD
            go_wp2
            go_meet
            exact ⟨rfl, rfl⟩
        case rest =>
          obtain ⟨rfl, rfl⟩ := hcut
          have HBy := Lib.hid (HBx.out.below b13')
          have HBz := Lib.hid (on HBL.out b13')
          have HBw := Lib.hid (on hb b13')
          clear HBx HBL hb b13' HW1 HW2 HW3 HW4 HW5 HW6 HW7 HW8
          rcases far_cases s t with ⟨g1, g2, g3⟩ | ⟨g1, g2, g3⟩ | ⟨g1, g2, g3⟩
          · obtain rfl : far = -1 := HFR.out.trans g1
            have G2 := Lib.hid g2
            have G3 := Lib.hid g3
            clear g1 g2 g3 HFR
            cases a
            · cases b
              · have e : few L M H ends (k + 1) = few L M H ends k := HFW.out _ _ _ G2.out G3.out HOD.out
                have e2 := Lib.hid (HF.out.trans e)
                clear e HFW HF HD1 HD2 HOD G2 G3
                go_wp2
                go_roundw
                case rel => exact ⟨n + 1, k, by go_num, by have := HN.out; unfold Hid; omega, by omega, by omega, e2.out, HBw.out⟩
                case measure => simp [intOf]; omega
              · have e : few L M H ends (k + 1) = x2 := HFW.out _ _ _ G2.out G3.out HOD.out
                have e2 := Lib.hid (HF.out.trans e)
                have HD := Lib.hid (HD2.out A9 n9 c9 w13 r9e)
                clear e HFW HF HD1 HD2 HOD G2 G3
                go_wp2_with (go_at_call 32; (with_reducible refine HD.out.mono ?_); rintro e w14 ⟨rfl, b14⟩; have B3 := HBy.out.below b14; have f0 := B3.fr 0; have f1 := B3.fr 1; have f2 := B3.fr 2; have f3 := B3.fr 3; have j0 := B3.at_ 0 rfl; have j1 := B3.at_ 1 rfl; have j2 := B3.at_ 2 rfl; have j3 := B3.at_ 3 rfl)
                rw [e2.out]
                have hs : w.heap.size ≤ w.heap.size + 1 := Nat.le_succ _
                exact bodyPost_ret (res_bk rfl _ (B3.set4 (.int .i64 0) (.bool ng) (.string ⟨(cd x2).toArray⟩) (.int .i64 (ce x2 u)) rfl) rfl Tryz.underlying25 rfl (by kernel_rfl)) rfl ⟨rfl, ((((on HBz.out b14).setCell hs _).setCell hs _).setCell hs _).setCell hs _⟩
            · cases b
              · have e : few L M H ends (k + 1) = x1 := HFW.out _ _ _ G2.out G3.out HOD.out
                have e2 := Lib.hid (HF.out.trans e)
                have HD := Lib.hid (HD1.out A8 n8 c8 w13 r8e)
                clear e HFW HF HD1 HD2 HOD G2 G3
                go_wp2_with (go_at_call 32; (with_reducible refine HD.out.mono ?_); rintro e w14 ⟨rfl, b14⟩; have B3 := HBy.out.below b14; have f0 := B3.fr 0; have f1 := B3.fr 1; have f2 := B3.fr 2; have f3 := B3.fr 3; have j0 := B3.at_ 0 rfl; have j1 := B3.at_ 1 rfl; have j2 := B3.at_ 2 rfl; have j3 := B3.at_ 3 rfl)
                rw [e2.out]
                have hs : w.heap.size ≤ w.heap.size + 1 := Nat.le_succ _
                exact bodyPost_ret (res_bk rfl _ (B3.set4 (.int .i64 0) (.bool ng) (.string ⟨(cd x1).toArray⟩) (.int .i64 (ce x1 u)) rfl) rfl Tryz.underlying25 rfl (by kernel_rfl)) rfl ⟨rfl, ((((on HBz.out b14).setCell hs _).setCell hs _).setCell hs _).setCell hs _⟩
              · have e : few L M H ends (k + 1) = x1 := HFW.out _ _ _ G2.out G3.out HOD.out
                have e2 := Lib.hid (HF.out.trans e)
                have HD := Lib.hid (HD1.out A8 n8 c8 w13 r8e)
                clear e HFW HF HD1 HD2 HOD G2 G3
                go_wp2_with (go_at_call 32; (with_reducible refine HD.out.mono ?_); rintro e w14 ⟨rfl, b14⟩; have B3 := HBy.out.below b14; have f0 := B3.fr 0; have f1 := B3.fr 1; have f2 := B3.fr 2; have f3 := B3.fr 3; have j0 := B3.at_ 0 rfl; have j1 := B3.at_ 1 rfl; have j2 := B3.at_ 2 rfl; have j3 := B3.at_ 3 rfl)
                rw [e2.out]
                have hs : w.heap.size ≤ w.heap.size + 1 := Nat.le_succ _
                exact bodyPost_ret (res_bk rfl _ (B3.set4 (.int .i64 0) (.bool ng) (.string ⟨(cd x1).toArray⟩) (.int .i64 (ce x1 u)) rfl) rfl Tryz.underlying25 rfl (by kernel_rfl)) rfl ⟨rfl, ((((on HBz.out b14).setCell hs _).setCell hs _).setCell hs _).setCell hs _⟩
          · obtain rfl : far = 0 := HFR.out.trans g1
            have G2 := Lib.hid g2
            have G3 := Lib.hid g3
            clear g1 g2 g3 HFR
            cases a
            · cases b
              · have e : few L M H ends (k + 1) = few L M H ends k := HFW.out _ _ _ G2.out G3.out HOD.out
                have e2 := Lib.hid (HF.out.trans e)
                clear e HFW HF HD1 HD2 HOD G2 G3
                go_wp2
                go_roundw
                case rel => exact ⟨n + 1, k, by go_num, by have := HN.out; unfold Hid; omega, by omega, by omega, e2.out, HBw.out⟩
                case measure => simp [intOf]; omega
              · have e : few L M H ends (k + 1) = x2 := HFW.out _ _ _ G2.out G3.out HOD.out
                have e2 := Lib.hid (HF.out.trans e)
                have HD := Lib.hid (HD2.out A9 n9 c9 w13 r9e)
                clear e HFW HF HD1 HD2 HOD G2 G3
                go_wp2_with (go_at_call 32; (with_reducible refine HD.out.mono ?_); rintro e w14 ⟨rfl, b14⟩; have B3 := HBy.out.below b14; have f0 := B3.fr 0; have f1 := B3.fr 1; have f2 := B3.fr 2; have f3 := B3.fr 3; have j0 := B3.at_ 0 rfl; have j1 := B3.at_ 1 rfl; have j2 := B3.at_ 2 rfl; have j3 := B3.at_ 3 rfl)
                rw [e2.out]
                have hs : w.heap.size ≤ w.heap.size + 1 := Nat.le_succ _
                exact bodyPost_ret (res_bk rfl _ (B3.set4 (.int .i64 0) (.bool ng) (.string ⟨(cd x2).toArray⟩) (.int .i64 (ce x2 u)) rfl) rfl Tryz.underlying25 rfl (by kernel_rfl)) rfl ⟨rfl, ((((on HBz.out b14).setCell hs _).setCell hs _).setCell hs _).setCell hs _⟩
            · cases b
              · have e : few L M H ends (k + 1) = x1 := HFW.out _ _ _ G2.out G3.out HOD.out
                have e2 := Lib.hid (HF.out.trans e)
                have HD := Lib.hid (HD1.out A8 n8 c8 w13 r8e)
                clear e HFW HF HD1 HD2 HOD G2 G3
                go_wp2_with (go_at_call 32; (with_reducible refine HD.out.mono ?_); rintro e w14 ⟨rfl, b14⟩; have B3 := HBy.out.below b14; have f0 := B3.fr 0; have f1 := B3.fr 1; have f2 := B3.fr 2; have f3 := B3.fr 3; have j0 := B3.at_ 0 rfl; have j1 := B3.at_ 1 rfl; have j2 := B3.at_ 2 rfl; have j3 := B3.at_ 3 rfl)
                rw [e2.out]
                have hs : w.heap.size ≤ w.heap.size + 1 := Nat.le_succ _
                exact bodyPost_ret (res_bk rfl _ (B3.set4 (.int .i64 0) (.bool ng) (.string ⟨(cd x1).toArray⟩) (.int .i64 (ce x1 u)) rfl) rfl Tryz.underlying25 rfl (by kernel_rfl)) rfl ⟨rfl, ((((on HBz.out b14).setCell hs _).setCell hs _).setCell hs _).setCell hs _⟩
              · cases od
                · have e : few L M H ends (k + 1) = x1 := HFW.out _ _ _ G2.out G3.out HOD.out
                  have e2 := Lib.hid (HF.out.trans e)
                  have HD := Lib.hid (HD1.out A8 n8 c8 w13 r8e)
                  clear e HFW HF HD1 HD2 HOD G2 G3
                  go_wp2_with (go_at_call 32; (with_reducible refine HD.out.mono ?_); rintro e w14 ⟨rfl, b14⟩; have B3 := HBy.out.below b14; have f0 := B3.fr 0; have f1 := B3.fr 1; have f2 := B3.fr 2; have f3 := B3.fr 3; have j0 := B3.at_ 0 rfl; have j1 := B3.at_ 1 rfl; have j2 := B3.at_ 2 rfl; have j3 := B3.at_ 3 rfl)
                  rw [e2.out]
                  have hs : w.heap.size ≤ w.heap.size + 1 := Nat.le_succ _
                  exact bodyPost_ret (res_bk rfl _ (B3.set4 (.int .i64 0) (.bool ng) (.string ⟨(cd x1).toArray⟩) (.int .i64 (ce x1 u)) rfl) rfl Tryz.underlying25 rfl (by kernel_rfl)) rfl ⟨rfl, ((((on HBz.out b14).setCell hs _).setCell hs _).setCell hs _).setCell hs _⟩
                · have e : few L M H ends (k + 1) = x2 := HFW.out _ _ _ G2.out G3.out HOD.out
                  have e2 := Lib.hid (HF.out.trans e)
                  have HD := Lib.hid (HD2.out A9 n9 c9 w13 r9e)
                  clear e HFW HF HD1 HD2 HOD G2 G3
                  go_wp2_with (go_at_call 32; (with_reducible refine HD.out.mono ?_); rintro e w14 ⟨rfl, b14⟩; have B3 := HBy.out.below b14; have f0 := B3.fr 0; have f1 := B3.fr 1; have f2 := B3.fr 2; have f3 := B3.fr 3; have j0 := B3.at_ 0 rfl; have j1 := B3.at_ 1 rfl; have j2 := B3.at_ 2 rfl; have j3 := B3.at_ 3 rfl)
                  rw [e2.out]
                  have hs : w.heap.size ≤ w.heap.size + 1 := Nat.le_succ _
                  exact bodyPost_ret (res_bk rfl _ (B3.set4 (.int .i64 0) (.bool ng) (.string ⟨(cd x2).toArray⟩) (.int .i64 (ce x2 u)) rfl) rfl Tryz.underlying25 rfl (by kernel_rfl)) rfl ⟨rfl, ((((on HBz.out b14).setCell hs _).setCell hs _).setCell hs _).setCell hs _⟩
          · obtain rfl : far = 1 := HFR.out.trans g1
            have G2 := Lib.hid g2
            have G3 := Lib.hid g3
            clear g1 g2 g3 HFR
            cases a
            · cases b
              · have e : few L M H ends (k + 1) = few L M H ends k := HFW.out _ _ _ G2.out G3.out HOD.out
                have e2 := Lib.hid (HF.out.trans e)
                clear e HFW HF HD1 HD2 HOD G2 G3
                go_wp2
                go_roundw
                case rel => exact ⟨n + 1, k, by go_num, by have := HN.out; unfold Hid; omega, by omega, by omega, e2.out, HBw.out⟩
                case measure => simp [intOf]; omega
              · have e : few L M H ends (k + 1) = x2 := HFW.out _ _ _ G2.out G3.out HOD.out
                have e2 := Lib.hid (HF.out.trans e)
                have HD := Lib.hid (HD2.out A9 n9 c9 w13 r9e)
                clear e HFW HF HD1 HD2 HOD G2 G3
                go_wp2_with (go_at_call 32; (with_reducible refine HD.out.mono ?_); rintro e w14 ⟨rfl, b14⟩; have B3 := HBy.out.below b14; have f0 := B3.fr 0; have f1 := B3.fr 1; have f2 := B3.fr 2; have f3 := B3.fr 3; have j0 := B3.at_ 0 rfl; have j1 := B3.at_ 1 rfl; have j2 := B3.at_ 2 rfl; have j3 := B3.at_ 3 rfl)
                rw [e2.out]
                have hs : w.heap.size ≤ w.heap.size + 1 := Nat.le_succ _
                exact bodyPost_ret (res_bk rfl _ (B3.set4 (.int .i64 0) (.bool ng) (.string ⟨(cd x2).toArray⟩) (.int .i64 (ce x2 u)) rfl) rfl Tryz.underlying25 rfl (by kernel_rfl)) rfl ⟨rfl, ((((on HBz.out b14).setCell hs _).setCell hs _).setCell hs _).setCell hs _⟩
            · cases b
              · have e : few L M H ends (k + 1) = x1 := HFW.out _ _ _ G2.out G3.out HOD.out
                have e2 := Lib.hid (HF.out.trans e)
                have HD := Lib.hid (HD1.out A8 n8 c8 w13 r8e)
                clear e HFW HF HD1 HD2 HOD G2 G3
                go_wp2_with (go_at_call 32; (with_reducible refine HD.out.mono ?_); rintro e w14 ⟨rfl, b14⟩; have B3 := HBy.out.below b14; have f0 := B3.fr 0; have f1 := B3.fr 1; have f2 := B3.fr 2; have f3 := B3.fr 3; have j0 := B3.at_ 0 rfl; have j1 := B3.at_ 1 rfl; have j2 := B3.at_ 2 rfl; have j3 := B3.at_ 3 rfl)
                rw [e2.out]
                have hs : w.heap.size ≤ w.heap.size + 1 := Nat.le_succ _
                exact bodyPost_ret (res_bk rfl _ (B3.set4 (.int .i64 0) (.bool ng) (.string ⟨(cd x1).toArray⟩) (.int .i64 (ce x1 u)) rfl) rfl Tryz.underlying25 rfl (by kernel_rfl)) rfl ⟨rfl, ((((on HBz.out b14).setCell hs _).setCell hs _).setCell hs _).setCell hs _⟩
              · have e : few L M H ends (k + 1) = x2 := HFW.out _ _ _ G2.out G3.out HOD.out
                have e2 := Lib.hid (HF.out.trans e)
                have HD := Lib.hid (HD2.out A9 n9 c9 w13 r9e)
                clear e HFW HF HD1 HD2 HOD G2 G3
                go_wp2_with (go_at_call 32; (with_reducible refine HD.out.mono ?_); rintro e w14 ⟨rfl, b14⟩; have B3 := HBy.out.below b14; have f0 := B3.fr 0; have f1 := B3.fr 1; have f2 := B3.fr 2; have f3 := B3.fr 3; have j0 := B3.at_ 0 rfl; have j1 := B3.at_ 1 rfl; have j2 := B3.at_ 2 rfl; have j3 := B3.at_ 3 rfl)
                rw [e2.out]
                have hs : w.heap.size ≤ w.heap.size + 1 := Nat.le_succ _
                exact bodyPost_ret (res_bk rfl _ (B3.set4 (.int .i64 0) (.bool ng) (.string ⟨(cd x2).toArray⟩) (.int .i64 (ce x2 u)) rfl) rfl Tryz.underlying25 rfl (by kernel_rfl)) rfl ⟨rfl, ((((on HBz.out b14).setCell hs _).setCell hs _).setCell hs _).setCell hs _⟩
end Go.Proofs.YtphpcpomhcodpaaGreatDoor.Sh

/- Layer 3, the document: Of at every float; Wide, Narrow. -/
set_option linter.unusedSimpArgs false
set_option linter.unusedVariables false
namespace Go.Proofs.YtphpcpomhcodpaaGreatDoor.Sh
open Go.RowKit Go.Proofs.YtphpcpomhcodpaaGreatDoor.Dig Go.Proofs.YtphpcpomhcodpaaGreatDoor.W Go.Proofs.YtphpcpomhcodpaaGreatDoor.Nat Go.Proofs.YtphpcpomhcodpaaGreatDoor.Wh Go.Proofs.YtphpcpomhcodpaaGreatDoor.Td Go.Proofs.YtphpcpomhcodpaaGreatDoor.Bu Go.Proofs.YtphpcpomhcodpaaGreatDoor.Tx Go.Proofs.YtphpcpomhcodpaaGreatDoor.Sp

set_option maxHeartbeats 4000000 in
set_option maxRecDepth 100000 in
theorem rof_odd_w {bits : Nat} {q x c e : Int} {ng g : Bool} {l : ByteArray} {m : Nat} (hq : (!(q == 0)) = true ∨ ((!(q == 0)) = false ∧ m = 0)) (w : World)
    (HA : ∀ w, Calls Tryz.prog 24 #[.agg #[.int .i64 52, .int .i64 11], .int .u64 (bits : Nat)] w fun e w' =>
      e = .returned (.tuple #[.bool ng, .int .i64 q, .int .u64 (m : Nat), .int .i64 x]) ∧ Below w.heap.size w w')
    (HE : ∀ w, Calls Tryz.prog 15 #[.agg #[.int .i64 52, .int .i64 11], .int .u64 (bits : Nat)] w fun e' w' => e' = .returned (.agg #[.int .i64 c, .bool g, .string l, .int .i64 e]) ∧ Below w.heap.size w w') :
    Calls Tryz.prog 11 #[.agg #[.int .i64 52, .int .i64 11], .int .u64 (bits : Nat)] w fun e' w' => e' = .returned (.agg #[.int .i64 c, .bool g, .string l, .int .i64 e]) ∧ Below w.heap.size w w' := by
  have HA := Lib.hid HA
  have HE := Lib.hid HE
  obtain ⟨B1, B2, bl⟩ := blk_two w #[.int .i64 52, .int .i64 11] #[.int .i64 0, .bool false, .string ⟨#[]⟩, .int .i64 0] 28 25
  have HB1 := Lib.hid B1
  have HB2 := Lib.hid B2
  have HB := Lib.hid bl
  clear B1 B2 bl
  rcases hq with hq | ⟨hq, rfl⟩
  case' inl =>
    have hq1 : (q == 0) = false := by simpa using hq
    have hq2 : (q != 0) = true := hq
  case' inr =>
    have hq1 : (q == 0) = true := by simpa using hq
    have hq2 : (q != 0) = false := hq
  all_goals
    go_enter Tryz.func11, Tryz.ntmps11
    go_wp2_with (first
      | (go_at_call 24; (with_reducible refine (HA.out _).mono ?_); rintro e w1 ⟨rfl, b1⟩; have C := HB1.out.below b1; have k0 := C.at_ 0 rfl; have k1 := C.at_ 1 rfl)
      | (go_at_call 15; (with_reducible refine (HE.out _).mono ?_); rintro e w2 ⟨rfl, b2⟩; have B3 := (HB2.out.below b1).below b2; have f0 := B3.fr 0; have f1 := B3.fr 1; have f2 := B3.fr 2; have f3 := B3.fr 3; have q0 := B3.at_ 0 rfl; have q1 := B3.at_ 1 rfl; have q2 := B3.at_ 2 rfl; have q3 := B3.at_ 3 rfl))
    refine bodyPost_ret (res_bk rfl _ (B3.set4 (.int .i64 c) (.bool g) (.string l) (.int .i64 e) rfl) rfl Tryz.underlying25 rfl (by kernel_rfl)) rfl ⟨rfl, ?_⟩
    have hs : w.heap.size ≤ w.heap.size + 1 := Nat.le_succ _
    exact ((((on (on HB.out b1) b2).setCell hs _).setCell hs _).setCell hs _).setCell hs _
theorem xF_zero_w : xF 52 1074 0 = 0 := by
  have : am 52 0 = 0 := by unfold am; simp
  unfold xF
  rw [this, Nat.zero_mul]
theorem rof_calls_w {bits : Nat} (hb : bits < 18446744073709551616) (w : World) :
    Calls Tryz.prog 11 #[.agg #[.int .i64 52, .int .i64 11], .int .u64 (bits : Nat)] w fun e w' => e = .returned (.agg (oV_w bits)) ∧ Below w.heap.size w w' := by
  have H := fb_w hb
  have HL := H.fl_w
  have HX := fun w1 => rexact_calls_w hb w1
  have hodd : ∀ {q x : Int} {ng : Bool} {m : Nat}, ((!(q == 0)) = true ∨ ((!(q == 0)) = false ∧ m = 0)) → eV_w bits = oV_w bits →
      (∀ w, Calls Tryz.prog 24 #[.agg #[.int .i64 52, .int .i64 11], .int .u64 (bits : Nat)] w fun e w' => e = .returned (.tuple #[.bool ng, .int .i64 q, .int .u64 (m : Nat), .int .i64 x]) ∧ Below w.heap.size w w') →
      Calls Tryz.prog 11 #[.agg #[.int .i64 52, .int .i64 11], .int .u64 (bits : Nat)] w fun e w' => e = .returned (.agg (oV_w bits)) ∧ Below w.heap.size w w' := by
    intro q x ng m hq he HA
    obtain ⟨c, g, l, e, h4⟩ := eV_four_w bits
    rw [← he, h4]
    rw [h4] at HX
    exact rof_odd_w hq w HA HX
  have hlt : bits % 9223372036854775808 / 4503599627370496 ≤ 2047 := by omega
  by_cases h : bits % 9223372036854775808 / 4503599627370496 = 2047
  · have he : eV_w bits = oV_w bits := by unfold eV_w oV_w; rw [if_pos h, if_pos h]
    rw [h] at HL
    by_cases h2 : bits % 9223372036854775808 % 4503599627370496 = 0
    · rw [h2] at HL
      exact hodd (m := 0) (.inl (by decide)) he (rparts_inf_w HL)
    · exact hodd (m := 0) (.inl (by decide)) he (rparts_nan_w HL h2)
  · by_cases h2 : bits % 9223372036854775808 = 0
    · have he : eV_w bits = oV_w bits := by
        unfold eV_w oV_w
        rw [if_neg h, if_neg h, if_pos h2, h2, xF_zero_w, cd_zero, ce_zero]
      rw [h2] at HL
      exact hodd (.inr ⟨by decide, rfl⟩) he (rparts_sub_w HL)
    · unfold oV_w
      rw [if_neg h, if_neg h2]
      generalize bits % 9223372036854775808 = b at *
      generalize decide (bits / 9223372036854775808 = 1) = ng at *
      have h0 : 0 < b := by omega
      have hm : am 52 b < 2 * 4503599627370496 := by have := am_lt 52 b; simpa using this
      have e := rof_fin_w (m := am 52 b) (v := b / 4503599627370496 - 1) (nb := decide (am 52 b = 4503599627370496) && decide (0 < b / 4503599627370496 - 1)) w hm (am_pos 52 h0) (by omega) rfl (rparts_fin_w H (by omega))
      have en : nrv (decide (am 52 b = 4503599627370496) && decide (0 < b / 4503599627370496 - 1)) = nr 52 b := by
        unfold nrv nr
        simp only [Nat.reducePow, Bool.and_eq_true, decide_eq_true_eq]
        by_cases h : 1 < b / 4503599627370496
        · simp only [h, show 0 < b / 4503599627370496 - 1 by omega]
        · simp only [h, show ¬ 0 < b / 4503599627370496 - 1 by omega]
      rw [en] at e
      exact e
set_option maxHeartbeats 4000000 in
set_option maxRecDepth 100000 in
theorem rof_odd_n {bits : Nat} {q x c e : Int} {ng g : Bool} {l : ByteArray} {m : Nat} (hq : (!(q == 0)) = true ∨ ((!(q == 0)) = false ∧ m = 0)) (w : World)
    (HA : ∀ w, Calls Tryz.prog 24 #[.agg #[.int .i64 23, .int .i64 8], .int .u64 (bits : Nat)] w fun e w' =>
      e = .returned (.tuple #[.bool ng, .int .i64 q, .int .u64 (m : Nat), .int .i64 x]) ∧ Below w.heap.size w w')
    (HE : ∀ w, Calls Tryz.prog 15 #[.agg #[.int .i64 23, .int .i64 8], .int .u64 (bits : Nat)] w fun e' w' => e' = .returned (.agg #[.int .i64 c, .bool g, .string l, .int .i64 e]) ∧ Below w.heap.size w w') :
    Calls Tryz.prog 11 #[.agg #[.int .i64 23, .int .i64 8], .int .u64 (bits : Nat)] w fun e' w' => e' = .returned (.agg #[.int .i64 c, .bool g, .string l, .int .i64 e]) ∧ Below w.heap.size w w' := by
  have HA := Lib.hid HA
  have HE := Lib.hid HE
  obtain ⟨B1, B2, bl⟩ := blk_two w #[.int .i64 23, .int .i64 8] #[.int .i64 0, .bool false, .string ⟨#[]⟩, .int .i64 0] 28 25
  have HB1 := Lib.hid B1
  have HB2 := Lib.hid B2
  have HB := Lib.hid bl
  clear B1 B2 bl
  rcases hq with hq | ⟨hq, rfl⟩
  case' inl =>
    have hq1 : (q == 0) = false := by simpa using hq
    have hq2 : (q != 0) = true := hq
  case' inr =>
    have hq1 : (q == 0) = true := by simpa using hq
    have hq2 : (q != 0) = false := hq
  all_goals
    go_enter Tryz.func11, Tryz.ntmps11
    go_wp2_with (first
      | (go_at_call 24; (with_reducible refine (HA.out _).mono ?_); rintro e w1 ⟨rfl, b1⟩; have C := HB1.out.below b1; have k0 := C.at_ 0 rfl; have k1 := C.at_ 1 rfl)
      | (go_at_call 15; (with_reducible refine (HE.out _).mono ?_); rintro e w2 ⟨rfl, b2⟩; have B3 := (HB2.out.below b1).below b2; have f0 := B3.fr 0; have f1 := B3.fr 1; have f2 := B3.fr 2; have f3 := B3.fr 3; have q0 := B3.at_ 0 rfl; have q1 := B3.at_ 1 rfl; have q2 := B3.at_ 2 rfl; have q3 := B3.at_ 3 rfl))
    refine bodyPost_ret (res_bk rfl _ (B3.set4 (.int .i64 c) (.bool g) (.string l) (.int .i64 e) rfl) rfl Tryz.underlying25 rfl (by kernel_rfl)) rfl ⟨rfl, ?_⟩
    have hs : w.heap.size ≤ w.heap.size + 1 := Nat.le_succ _
    exact ((((on (on HB.out b1) b2).setCell hs _).setCell hs _).setCell hs _).setCell hs _
theorem xF_zero_n : xF 23 149 0 = 0 := by
  have : am 23 0 = 0 := by unfold am; simp
  unfold xF
  rw [this, Nat.zero_mul]
theorem rof_calls_n {bits : Nat} (hb : bits < 4294967296) (w : World) :
    Calls Tryz.prog 11 #[.agg #[.int .i64 23, .int .i64 8], .int .u64 (bits : Nat)] w fun e w' => e = .returned (.agg (oV_n bits)) ∧ Below w.heap.size w w' := by
  have H := fb_n hb
  have HL := H.fl_n
  have HX := fun w1 => rexact_calls_n hb w1
  have hodd : ∀ {q x : Int} {ng : Bool} {m : Nat}, ((!(q == 0)) = true ∨ ((!(q == 0)) = false ∧ m = 0)) → eV_n bits = oV_n bits →
      (∀ w, Calls Tryz.prog 24 #[.agg #[.int .i64 23, .int .i64 8], .int .u64 (bits : Nat)] w fun e w' => e = .returned (.tuple #[.bool ng, .int .i64 q, .int .u64 (m : Nat), .int .i64 x]) ∧ Below w.heap.size w w') →
      Calls Tryz.prog 11 #[.agg #[.int .i64 23, .int .i64 8], .int .u64 (bits : Nat)] w fun e w' => e = .returned (.agg (oV_n bits)) ∧ Below w.heap.size w w' := by
    intro q x ng m hq he HA
    obtain ⟨c, g, l, e, h4⟩ := eV_four_n bits
    rw [← he, h4]
    rw [h4] at HX
    exact rof_odd_n hq w HA HX
  have hlt : bits % 2147483648 / 8388608 ≤ 255 := by omega
  by_cases h : bits % 2147483648 / 8388608 = 255
  · have he : eV_n bits = oV_n bits := by unfold eV_n oV_n; rw [if_pos h, if_pos h]
    rw [h] at HL
    by_cases h2 : bits % 2147483648 % 8388608 = 0
    · rw [h2] at HL
      exact hodd (m := 0) (.inl (by decide)) he (rparts_inf_n HL)
    · exact hodd (m := 0) (.inl (by decide)) he (rparts_nan_n HL h2)
  · by_cases h2 : bits % 2147483648 = 0
    · have he : eV_n bits = oV_n bits := by
        unfold eV_n oV_n
        rw [if_neg h, if_neg h, if_pos h2, h2, xF_zero_n, cd_zero, ce_zero]
      rw [h2] at HL
      exact hodd (.inr ⟨by decide, rfl⟩) he (rparts_sub_n HL)
    · unfold oV_n
      rw [if_neg h, if_neg h2]
      generalize bits % 2147483648 = b at *
      generalize decide (bits / 2147483648 = 1) = ng at *
      have h0 : 0 < b := by omega
      have hm : am 23 b < 2 * 8388608 := by have := am_lt 23 b; simpa using this
      have e := rof_fin_n (m := am 23 b) (v := b / 8388608 - 1) (nb := decide (am 23 b = 8388608) && decide (0 < b / 8388608 - 1)) w hm (am_pos 23 h0) (by omega) rfl (rparts_fin_n H (by omega))
      have en : nrv (decide (am 23 b = 8388608) && decide (0 < b / 8388608 - 1)) = nr 23 b := by
        unfold nrv nr
        simp only [Nat.reducePow, Bool.and_eq_true, decide_eq_true_eq]
        by_cases h : 1 < b / 8388608
        · simp only [h, show 0 < b / 8388608 - 1 by omega]
        · simp only [h, show ¬ 0 < b / 8388608 - 1 by omega]
      rw [en] at e
      exact e
theorem wide_calls (w : World) : Calls Tryz.prog 10 #[] w fun e w' => e = .returned (.agg #[.int .i64 52, .int .i64 11]) ∧ Below w.heap.size w w' := by
  go_enter Tryz.func10, Tryz.ntmps10
  go_wp2
  exact bodyPost_ret (res_bk rfl _ (Bk.start w 28 #[.int .i64 52, .int .i64 11]) rfl Tryz.underlying28 rfl (by kernel_rfl)) rfl ⟨rfl, alloc_below _ _⟩
theorem narrow_calls (w : World) : Calls Tryz.prog 13 #[] w fun e w' => e = .returned (.agg #[.int .i64 23, .int .i64 8]) ∧ Below w.heap.size w w' := by
  go_enter Tryz.func13, Tryz.ntmps13
  go_wp2
  exact bodyPost_ret (res_bk rfl _ (Bk.start w 28 #[.int .i64 23, .int .i64 8]) rfl Tryz.underlying28 rfl (by kernel_rfl)) rfl ⟨rfl, alloc_below _ _⟩
end Go.Proofs.YtphpcpomhcodpaaGreatDoor.Sh
