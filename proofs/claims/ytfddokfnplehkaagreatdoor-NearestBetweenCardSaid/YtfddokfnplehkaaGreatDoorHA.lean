/- Texts of one layer, joined: Ha, Hb, Hc, Hd, He, Hf, Hg, Hh. -/
import Derived.Test.YtfddokfnplehkaaGreatDoorGI
import Derived.Test.YtfddokfnplehkaaGreatDoorGH
import Derived.WalkLawsBesides
import Derived.Test.YtfddokfnplehkaaGreatDoorGF
import Derived.Test.YtfddokfnplehkaaGreatDoorGE
import Derived.Laws.IdiomStrings
import Derived.Lib.BufferMore
import Derived.Deep.DeepCutAuto
import Derived.Deep.CutBlock
set_option linter.unusedVariables false
set_option linter.unusedSimpArgs false
set_option linter.unusedSectionVars false
/- Layer 3: the parts of a float. -/
set_option linter.unusedSimpArgs false
set_option linter.unusedVariables false
namespace Go.Proofs.YtfddokfnplehkaaGreatDoor.Sh
open Go.RowKit Go.Proofs.YtfddokfnplehkaaGreatDoor.Dig Go.Proofs.YtfddokfnplehkaaGreatDoor.W Go.Proofs.YtfddokfnplehkaaGreatDoor.Nat

theorem least_w (w : World) :
    Calls Tryz.prog 80 #[.agg #[.int .i64 52, .int .i64 11]] w fun e w' => e = .returned (.int .i64 (-1074)) ∧ Below w.heap.size w w' := by
  go_enter Tryz.func80, Tryz.ntmps80
  go_wp2
  go_quiet (fail)
  go_wp2
  go_ret
  exact ⟨rfl, (alloc_below w _).trans (((drewN_below _ _)).mono (by simp))⟩
theorem least_n (w : World) :
    Calls Tryz.prog 80 #[.agg #[.int .i64 23, .int .i64 8]] w fun e w' => e = .returned (.int .i64 (-149)) ∧ Below w.heap.size w w' := by
  go_enter Tryz.func80, Tryz.ntmps80
  go_wp2
  go_quiet (fail)
  go_wp2
  go_ret
  exact ⟨rfl, (alloc_below w _).trans (((drewN_below _ _)).mono (by simp))⟩
/-- how a float's bits are made: the sign, the exponent's field, the fraction -/
structure Fl (M X bits : Nat) (ng : Bool) (x m : Nat) : Prop where
  lt : bits < 2 ^ (M + X + 1)
  neg : bits / 2 ^ (M + X) = if ng then 1 else 0
  ex : bits / 2 ^ M % 2 ^ X = x
  fr : bits % 2 ^ M = m
theorem ofInt_u64 (a : Nat) (ha : a < 18446744073709551616) : (BitVec.ofInt 64 (a : Int)).toNat = a := by
  rw [BitVec.ofInt_natCast, BitVec.toNat_ofNat]; exact Nat.mod_eq_of_lt (by omega)
theorem and_nat (a b : Nat) (ha : a < 18446744073709551616) (hb : b < 18446744073709551616) : Go.bits .and .u64 (a : Int) (b : Int) = ((a &&& b : Nat) : Int) := by
  have hx : a &&& b < 2 ^ 64 := Nat.and_lt_two_pow _ (by omega)
  show IntKind.u64.wrap ((BitVec.ofInt 64 (a : Int) &&& BitVec.ofInt 64 (b : Int)).toNat : Int) = _
  rw [BitVec.toNat_and, ofInt_u64 a ha, ofInt_u64 b hb, IntKind.wrap_u64]
  omega
theorem or_nat (a b : Nat) (ha : a < 18446744073709551616) (hb : b < 18446744073709551616) : Go.bits .or .u64 (a : Int) (b : Int) = ((a ||| b : Nat) : Int) := by
  have hx : a ||| b < 2 ^ 64 := Nat.or_lt_two_pow (by omega) (by omega)
  show IntKind.u64.wrap ((BitVec.ofInt 64 (a : Int) ||| BitVec.ofInt 64 (b : Int)).toNat : Int) = _
  rw [BitVec.toNat_or, ofInt_u64 a ha, ofInt_u64 b hb, IntKind.wrap_u64]
  omega
theorem and_low (a k : Nat) (ha : a < 18446744073709551616) (hk : k ≤ 63) : Go.bits .and .u64 (a : Int) ((2 ^ k - 1 : Nat) : Int) = ((a % 2 ^ k : Nat) : Int) := by
  have : 2 ^ k ≤ 2 ^ 63 := Nat.pow_le_pow_right (by omega) hk
  rw [and_nat a _ ha (by omega), Nat.and_two_pow_sub_one_eq_mod]
theorem or_high (a k : Nat) (ha : a < 2 ^ k) (hk : k ≤ 63) : Go.bits .or .u64 (a : Int) ((2 ^ k : Nat) : Int) = ((a + 2 ^ k : Nat) : Int) := by
  have : 2 ^ k ≤ 2 ^ 63 := Nat.pow_le_pow_right (by omega) hk
  rw [or_nat a _ (by omega) (by omega)]
  congr 1
  have h := Nat.two_pow_add_eq_or_of_lt ha 1
  rw [Nat.mul_one] at h
  rw [Nat.or_comm, ← h, Nat.add_comm]
section
variable {M X Z bits x m : Nat} {ng : Bool}
theorem Fl.facts_w (H : Fl 52 11 bits ng x m) : ((bits : Int) / 9223372036854775808 == 1) = ng ∧ Go.bits .and .u64 ((bits : Int) / 4503599627370496) 2047 = (x : Int) ∧ Go.bits .and .u64 (bits : Int) 4503599627370495 = (m : Int) ∧
    Go.bits .or .u64 (m : Int) 4503599627370496 = ((m + 4503599627370496 : Nat) : Int) ∧ x ≤ 2047 ∧ m < 4503599627370496 := by
  have h1 := H.lt; have h2 := H.neg; have h3 := H.ex; have h4 := H.fr
  simp only [Nat.reducePow, Nat.reduceAdd] at h1 h2 h3 h4
  refine ⟨?_, ?_, ?_, ?_, by omega, by omega⟩
  · cases ng <;> simp at h2 ⊢ <;> omega
  · have := and_low (bits / 4503599627370496) 11 (by omega) (by omega)
    rw [← h3]; exact this
  · have := and_low bits 52 (by omega) (by omega)
    rw [← h4]; exact this
  · exact or_high m 52 (by omega) (by omega)
theorem Fl.facts_n (H : Fl 23 8 bits ng x m) : ((bits : Int) / 2147483648 == 1) = ng ∧ Go.bits .and .u64 ((bits : Int) / 8388608) 255 = (x : Int) ∧ Go.bits .and .u64 (bits : Int) 8388607 = (m : Int) ∧
    Go.bits .or .u64 (m : Int) 8388608 = ((m + 8388608 : Nat) : Int) ∧ x ≤ 255 ∧ m < 8388608 := by
  have h1 := H.lt; have h2 := H.neg; have h3 := H.ex; have h4 := H.fr
  simp only [Nat.reducePow, Nat.reduceAdd] at h1 h2 h3 h4
  refine ⟨?_, ?_, ?_, ?_, by omega, by omega⟩
  · cases ng <;> simp at h2 ⊢ <;> omega
  · have := and_low (bits / 8388608) 8 (by omega) (by omega)
    rw [← h3]; exact this
  · have := and_low bits 23 (by omega) (by omega)
    rw [← h4]; exact this
  · exact or_high m 23 (by omega) (by omega)
end
theorem blk12 (w : World) (cs ds : Array Value) (t u : TypeId) (n : Nat) : Bk (((w.alloc (.cells cs t)).alloc (.cells ds u)).drewN n) w.heap.size t cs ∧ Bk (((w.alloc (.cells cs t)).alloc (.cells ds u)).drewN n) (w.heap.size + 1) u ds ∧ Below w.heap.size w (((w.alloc (.cells cs t)).alloc (.cells ds u)).drewN n) := by
  refine ⟨((Bk.start w t cs).alloc _).drewN n, ?_, ?_⟩
  · have := Bk.start (w.alloc (.cells cs t)) u ds
    rw [show (w.alloc (.cells cs t)).heap.size = w.heap.size + 1 by simp] at this
    exact this.drewN n
  · exact (alloc_below w _).trans (((alloc_below _ _).mono (by simp)).trans ((drewN_below _ n).mono (by simp; omega)))
theorem keep_w {w : World} {g : Nat} {ng : Bool} {t u : TypeId} (C1 : Bk w g t #[.int .i64 52, .int .i64 11]) (C2 : Bk w (g + 1) u #[.int .i64 0, .bool ng, .string ⟨#[]⟩, .int .i64 0]) :
    (w.cell? ⟨g, 0, none⟩ = some (.int .i64 52) ∧ w.cell? ⟨g, 1, none⟩ = some (.int .i64 11) ∧ w.cell? ⟨g + 1, 0, none⟩ = some (.int .i64 0) ∧ w.cell? ⟨g + 1, 1, none⟩ = some (.bool ng) ∧ w.cell? ⟨g + 1, 2, none⟩ = some (.string ⟨#[]⟩) ∧ w.cell? ⟨g + 1, 3, none⟩ = some (.int .i64 0)) ∧
    (((((w.setCell ⟨g + 1, 0, none⟩ (.int .i64 0)).setCell ⟨g + 1, 1, none⟩ (.bool ng)).setCell ⟨g + 1, 2, none⟩ (.string ⟨#[]⟩)).setCell ⟨g + 1, 3, none⟩ (.int .i64 0)).cell? ⟨g, 0, none⟩ = some (.int .i64 52) ∧ ((((w.setCell ⟨g + 1, 0, none⟩ (.int .i64 0)).setCell ⟨g + 1, 1, none⟩ (.bool ng)).setCell ⟨g + 1, 2, none⟩ (.string ⟨#[]⟩)).setCell ⟨g + 1, 3, none⟩ (.int .i64 0)).cell? ⟨g, 1, none⟩ = some (.int .i64 11) ∧ ((((w.setCell ⟨g + 1, 0, none⟩ (.int .i64 0)).setCell ⟨g + 1, 1, none⟩ (.bool ng)).setCell ⟨g + 1, 2, none⟩ (.string ⟨#[]⟩)).setCell ⟨g + 1, 3, none⟩ (.int .i64 0)).cell? ⟨g + 1, 0, none⟩ = some (.int .i64 0) ∧ ((((w.setCell ⟨g + 1, 0, none⟩ (.int .i64 0)).setCell ⟨g + 1, 1, none⟩ (.bool ng)).setCell ⟨g + 1, 2, none⟩ (.string ⟨#[]⟩)).setCell ⟨g + 1, 3, none⟩ (.int .i64 0)).cell? ⟨g + 1, 1, none⟩ = some (.bool ng) ∧ ((((w.setCell ⟨g + 1, 0, none⟩ (.int .i64 0)).setCell ⟨g + 1, 1, none⟩ (.bool ng)).setCell ⟨g + 1, 2, none⟩ (.string ⟨#[]⟩)).setCell ⟨g + 1, 3, none⟩ (.int .i64 0)).cell? ⟨g + 1, 2, none⟩ = some (.string ⟨#[]⟩) ∧ ((((w.setCell ⟨g + 1, 0, none⟩ (.int .i64 0)).setCell ⟨g + 1, 1, none⟩ (.bool ng)).setCell ⟨g + 1, 2, none⟩ (.string ⟨#[]⟩)).setCell ⟨g + 1, 3, none⟩ (.int .i64 0)).cell? ⟨g + 1, 3, none⟩ = some (.int .i64 0)) ∧
    Bk ((((w.setCell ⟨g + 1, 0, none⟩ (.int .i64 0)).setCell ⟨g + 1, 1, none⟩ (.bool ng)).setCell ⟨g + 1, 2, none⟩ (.string ⟨#[]⟩)).setCell ⟨g + 1, 3, none⟩ (.int .i64 0)) (g + 1) u #[.int .i64 0, .bool ng, .string ⟨#[]⟩, .int .i64 0] := by
  have D2 := Bk.set4 C2 (.int .i64 0) (.bool ng) (.string ⟨#[]⟩) (.int .i64 0) rfl
  have D1 := (((C1.far (a := ⟨g + 1, 0, none⟩) (.int .i64 0) (by simp)).far (a := ⟨g + 1, 1, none⟩) (.bool ng) (by simp)).far (a := ⟨g + 1, 2, none⟩) (.string ⟨#[]⟩) (by simp)).far (a := ⟨g + 1, 3, none⟩) (.int .i64 0) (by simp)
  exact ⟨⟨C1.at_ 0 rfl, C1.at_ 1 rfl, C2.at_ 0 rfl, C2.at_ 1 rfl, C2.at_ 2 rfl, C2.at_ 3 rfl⟩, ⟨D1.at_ 0 rfl, D1.at_ 1 rfl, D2.at_ 0 rfl, D2.at_ 1 rfl, D2.at_ 2 rfl, D2.at_ 3 rfl⟩, D2⟩
set_option maxHeartbeats 4000000 in
set_option maxRecDepth 100000 in
theorem parts_norm_w {bits x m : Nat} {ng : Bool} (H : Fl 52 11 bits ng (x + 1) m) (hx : x + 1 < 2047) (w : World) :
    Calls Tryz.prog 76 #[.agg #[.int .i64 52, .int .i64 11], .int .u64 (bits : Nat)] w fun e w' =>
      e = .returned (.tuple #[.agg #[.int .i64 0, .bool ng, .string ⟨#[]⟩, .int .i64 0], .int .u64 ((m + 4503599627370496 : Nat) : Int), .int .i64 ((x : Int) - 1074)]) ∧ Below w.heap.size w w' := by
  obtain ⟨e0, e1, e2, e3, x1, m1⟩ := H.facts_w
  have s1 : IntKind.i64.wrap ((x : Int) + 1 - 1) = (x : Int) := by rw [IntWalk.i64_in _ (by omega)]; omega
  have s2 : IntKind.i64.wrap (-1074 + (x : Int)) = (x : Int) - 1074 := by rw [IntWalk.i64_in _ (by omega)]; omega
  have s3 : IntKind.i64.wrap (x : Int) = (x : Int) := IntWalk.i64_in _ (by omega)
  have S3 := Lib.hid s3
  have s4 : (if 0 < x then (x : Int) else 0) = (x : Int) := by split <;> omega
  have S4 := Lib.hid s4
  have S1 := Lib.hid s1
  have S2 := Lib.hid s2
  clear s1 s2 s3 s4
  go_enter Tryz.func76, Tryz.ntmps76
  go_wp2
  go_quiet (fail)
  go_wp2
  obtain ⟨B1, B2, bl⟩ := blk12 w #[.int .i64 52, .int .i64 11] #[.int .i64 0, .bool ng, .string ⟨#[]⟩, .int .i64 0] 73 23 nq
  generalize ((w.alloc (.cells #[.int .i64 52, .int .i64 11] 73)).alloc (.cells #[.int .i64 0, .bool ng, .string ⟨#[]⟩, .int .i64 0] 23)).drewN nq = W at *
  have s1 := S1.out
  have s2 := S2.out
  have s3 := S3.out
  have s4 := S4.out
  have kp := (keep_w B1.drew B2.drew).1
  clear e0 e1 e2 e3 S1 S2 S3 S4
  go_region_held3 (fun w' => w'.cell? ⟨w.heap.size, 0, none⟩ = some (.int .i64 52) ∧ w'.cell? ⟨w.heap.size, 1, none⟩ = some (.int .i64 11) ∧ w'.cell? ⟨w.heap.size + 1, 0, none⟩ = some (.int .i64 0) ∧ w'.cell? ⟨w.heap.size + 1, 1, none⟩ = some (.bool ng) ∧ w'.cell? ⟨w.heap.size + 1, 2, none⟩ = some (.string ⟨#[]⟩) ∧ w'.cell? ⟨w.heap.size + 1, 3, none⟩ = some (.int .i64 0))
    (first | (with_reducible exact kp) | (with_reducible exact kq) | (with_reducible exact kr))
    (first | (go_at_call 80; (with_reducible refine (least_w _).mono ?_); rintro e w1 ⟨rfl, b1⟩; have C2 := B2.drew.below b1; have C1 := B1.drew.below b1; have f0 := C2.fr 0; have f1 := C2.fr 1; have f2 := C2.fr 2; have f3 := C2.fr 3; obtain ⟨kq, kr, D⟩ := keep_w C1 C2))
  all_goals
    clear kp kq kr
    go_wp2
    refine bodyPost_ret (res_bk_tt rfl _ D rfl Tryz.underlying23 rfl (by kernel_rfl)) rfl ⟨rfl, ?_⟩
    have b0 := bl.drew.trans (b1.mono bl.drew.size)
    exact (((b0.setCell (by show _ ≤ w.heap.size + 1; omega) _).setCell (by show _ ≤ w.heap.size + 1; omega) _).setCell (by show _ ≤ w.heap.size + 1; omega) _).setCell (by show _ ≤ w.heap.size + 1; omega) _
set_option maxHeartbeats 4000000 in
set_option maxRecDepth 100000 in
theorem parts_sub_w {bits m : Nat} {ng : Bool} (H : Fl 52 11 bits ng 0 m) (w : World) :
    Calls Tryz.prog 76 #[.agg #[.int .i64 52, .int .i64 11], .int .u64 (bits : Nat)] w fun e w' =>
      e = .returned (.tuple #[.agg #[.int .i64 0, .bool ng, .string ⟨#[]⟩, .int .i64 0], .int .u64 (m : Nat), .int .i64 (-1074)]) ∧ Below w.heap.size w w' := by
  obtain ⟨e0, e1, e2, e3, x1, m1⟩ := H.facts_w
  have s1 : IntKind.i64.wrap (-1) = -1 := by decide
  have s2 : IntKind.i64.wrap (0 - 1) = -1 := by decide
  have s3 : IntKind.i64.wrap (-1074) = -1074 := by decide
  have S1 := Lib.hid s1
  have S2 := Lib.hid s2
  have S3 := Lib.hid s3
  clear s1 s2 s3
  go_enter Tryz.func76, Tryz.ntmps76
  go_wp2
  go_quiet (fail)
  go_wp2
  obtain ⟨B1, B2, bl⟩ := blk12 w #[.int .i64 52, .int .i64 11] #[.int .i64 0, .bool ng, .string ⟨#[]⟩, .int .i64 0] 73 23 nq
  generalize ((w.alloc (.cells #[.int .i64 52, .int .i64 11] 73)).alloc (.cells #[.int .i64 0, .bool ng, .string ⟨#[]⟩, .int .i64 0] 23)).drewN nq = W at *
  have s1 := S1.out
  have s2 := S2.out
  have s3 := S3.out
  have kp := (keep_w B1.drew B2.drew).1
  clear e0 e1 e2 e3 S1 S2 S3
  go_region_held3 (fun w' => w'.cell? ⟨w.heap.size, 0, none⟩ = some (.int .i64 52) ∧ w'.cell? ⟨w.heap.size, 1, none⟩ = some (.int .i64 11) ∧ w'.cell? ⟨w.heap.size + 1, 0, none⟩ = some (.int .i64 0) ∧ w'.cell? ⟨w.heap.size + 1, 1, none⟩ = some (.bool ng) ∧ w'.cell? ⟨w.heap.size + 1, 2, none⟩ = some (.string ⟨#[]⟩) ∧ w'.cell? ⟨w.heap.size + 1, 3, none⟩ = some (.int .i64 0))
    (first | (with_reducible exact kp) | (with_reducible exact kq) | (with_reducible exact kr))
    (first | (go_at_call 80; (with_reducible refine (least_w _).mono ?_); rintro e w1 ⟨rfl, b1⟩; have C2 := B2.drew.below b1; have C1 := B1.drew.below b1; have f0 := C2.fr 0; have f1 := C2.fr 1; have f2 := C2.fr 2; have f3 := C2.fr 3; obtain ⟨kq, kr, D⟩ := keep_w C1 C2))
  all_goals
    clear kp kq kr
    go_wp2
    refine bodyPost_ret (res_bk_tt rfl _ D rfl Tryz.underlying23 rfl (by kernel_rfl)) rfl ⟨rfl, ?_⟩
    have b0 := bl.drew.trans (b1.mono bl.drew.size)
    exact (((b0.setCell (by show _ ≤ w.heap.size + 1; omega) _).setCell (by show _ ≤ w.heap.size + 1; omega) _).setCell (by show _ ≤ w.heap.size + 1; omega) _).setCell (by show _ ≤ w.heap.size + 1; omega) _
set_option maxHeartbeats 4000000 in
set_option maxRecDepth 100000 in
theorem parts_inf_w {bits : Nat} {ng : Bool} (H : Fl 52 11 bits ng 2047 0) (w : World) :
    Calls Tryz.prog 76 #[.agg #[.int .i64 52, .int .i64 11], .int .u64 (bits : Nat)] w fun e w' =>
      e = .returned (.tuple #[.agg #[.int .i64 1, .bool ng, .string ⟨#[]⟩, .int .i64 0], .int .u64 0, .int .i64 0]) ∧ Below w.heap.size w w' := by
  obtain ⟨e0, e1, e2, e3, x1, m1⟩ := H.facts_w
  go_enter Tryz.func76, Tryz.ntmps76
  go_wp2
  go_quiet (fail)
  go_wp2
  obtain ⟨B1, B2, bl⟩ := blk12 w #[.int .i64 52, .int .i64 11] #[.int .i64 0, .bool ng, .string ⟨#[]⟩, .int .i64 0] 73 23 nq
  refine bodyPost_ret (res_bk_tt rfl _ (Bk.set4 (B2.set 0 (.int .i64 1)) (.int .i64 1) (.bool ng) (.string ⟨#[]⟩) (.int .i64 0) rfl) rfl Tryz.underlying23 rfl (by kernel_rfl)) rfl ⟨rfl, ?_⟩
  exact ((((bl.setCell (by show _ ≤ w.heap.size + 1; omega) _).setCell (by show _ ≤ w.heap.size + 1; omega) _).setCell (by show _ ≤ w.heap.size + 1; omega) _).setCell (by show _ ≤ w.heap.size + 1; omega) _).setCell (by show _ ≤ w.heap.size + 1; omega) _
set_option maxHeartbeats 4000000 in
set_option maxRecDepth 100000 in
theorem parts_nan_w {bits m : Nat} {ng : Bool} (H : Fl 52 11 bits ng 2047 m) (hm : m ≠ 0) (w : World) :
    Calls Tryz.prog 76 #[.agg #[.int .i64 52, .int .i64 11], .int .u64 (bits : Nat)] w fun e w' =>
      e = .returned (.tuple #[.agg #[.int .i64 2, .bool false, .string ⟨#[]⟩, .int .i64 0], .int .u64 0, .int .i64 0]) ∧ Below w.heap.size w w' := by
  obtain ⟨e0, e1, e2, e3, x1, m1⟩ := H.facts_w
  have h0 : ((m : Int) == 0) = false := by simp; omega
  have h0' : (m == 0) = false := by simp; omega
  go_enter Tryz.func76, Tryz.ntmps76
  go_wp2
  go_quiet (fail)
  go_wp2
  obtain ⟨B1, B2, bl⟩ := blk12 w #[.int .i64 52, .int .i64 11] #[.int .i64 0, .bool ng, .string ⟨#[]⟩, .int .i64 0] 73 23 nq
  refine bodyPost_ret (res_bk_tt rfl _ (Bk.set4 (Bk.set4 B2 (.int .i64 2) (.bool false) (.string ⟨#[]⟩) (.int .i64 0) rfl) (.int .i64 2) (.bool false) (.string ⟨#[]⟩) (.int .i64 0) rfl) rfl Tryz.underlying23 rfl (by kernel_rfl)) rfl ⟨rfl, ?_⟩
  have hs : w.heap.size ≤ w.heap.size + 1 := Nat.le_succ _
  exact (((((((bl.setCell hs _).setCell hs _).setCell hs _).setCell hs _).setCell hs _).setCell hs _).setCell hs _).setCell hs _
theorem keep_n {w : World} {g : Nat} {ng : Bool} {t u : TypeId} (C1 : Bk w g t #[.int .i64 23, .int .i64 8]) (C2 : Bk w (g + 1) u #[.int .i64 0, .bool ng, .string ⟨#[]⟩, .int .i64 0]) :
    (w.cell? ⟨g, 0, none⟩ = some (.int .i64 23) ∧ w.cell? ⟨g, 1, none⟩ = some (.int .i64 8) ∧ w.cell? ⟨g + 1, 0, none⟩ = some (.int .i64 0) ∧ w.cell? ⟨g + 1, 1, none⟩ = some (.bool ng) ∧ w.cell? ⟨g + 1, 2, none⟩ = some (.string ⟨#[]⟩) ∧ w.cell? ⟨g + 1, 3, none⟩ = some (.int .i64 0)) ∧
    (((((w.setCell ⟨g + 1, 0, none⟩ (.int .i64 0)).setCell ⟨g + 1, 1, none⟩ (.bool ng)).setCell ⟨g + 1, 2, none⟩ (.string ⟨#[]⟩)).setCell ⟨g + 1, 3, none⟩ (.int .i64 0)).cell? ⟨g, 0, none⟩ = some (.int .i64 23) ∧ ((((w.setCell ⟨g + 1, 0, none⟩ (.int .i64 0)).setCell ⟨g + 1, 1, none⟩ (.bool ng)).setCell ⟨g + 1, 2, none⟩ (.string ⟨#[]⟩)).setCell ⟨g + 1, 3, none⟩ (.int .i64 0)).cell? ⟨g, 1, none⟩ = some (.int .i64 8) ∧ ((((w.setCell ⟨g + 1, 0, none⟩ (.int .i64 0)).setCell ⟨g + 1, 1, none⟩ (.bool ng)).setCell ⟨g + 1, 2, none⟩ (.string ⟨#[]⟩)).setCell ⟨g + 1, 3, none⟩ (.int .i64 0)).cell? ⟨g + 1, 0, none⟩ = some (.int .i64 0) ∧ ((((w.setCell ⟨g + 1, 0, none⟩ (.int .i64 0)).setCell ⟨g + 1, 1, none⟩ (.bool ng)).setCell ⟨g + 1, 2, none⟩ (.string ⟨#[]⟩)).setCell ⟨g + 1, 3, none⟩ (.int .i64 0)).cell? ⟨g + 1, 1, none⟩ = some (.bool ng) ∧ ((((w.setCell ⟨g + 1, 0, none⟩ (.int .i64 0)).setCell ⟨g + 1, 1, none⟩ (.bool ng)).setCell ⟨g + 1, 2, none⟩ (.string ⟨#[]⟩)).setCell ⟨g + 1, 3, none⟩ (.int .i64 0)).cell? ⟨g + 1, 2, none⟩ = some (.string ⟨#[]⟩) ∧ ((((w.setCell ⟨g + 1, 0, none⟩ (.int .i64 0)).setCell ⟨g + 1, 1, none⟩ (.bool ng)).setCell ⟨g + 1, 2, none⟩ (.string ⟨#[]⟩)).setCell ⟨g + 1, 3, none⟩ (.int .i64 0)).cell? ⟨g + 1, 3, none⟩ = some (.int .i64 0)) ∧
    Bk ((((w.setCell ⟨g + 1, 0, none⟩ (.int .i64 0)).setCell ⟨g + 1, 1, none⟩ (.bool ng)).setCell ⟨g + 1, 2, none⟩ (.string ⟨#[]⟩)).setCell ⟨g + 1, 3, none⟩ (.int .i64 0)) (g + 1) u #[.int .i64 0, .bool ng, .string ⟨#[]⟩, .int .i64 0] := by
  have D2 := Bk.set4 C2 (.int .i64 0) (.bool ng) (.string ⟨#[]⟩) (.int .i64 0) rfl
  have D1 := (((C1.far (a := ⟨g + 1, 0, none⟩) (.int .i64 0) (by simp)).far (a := ⟨g + 1, 1, none⟩) (.bool ng) (by simp)).far (a := ⟨g + 1, 2, none⟩) (.string ⟨#[]⟩) (by simp)).far (a := ⟨g + 1, 3, none⟩) (.int .i64 0) (by simp)
  exact ⟨⟨C1.at_ 0 rfl, C1.at_ 1 rfl, C2.at_ 0 rfl, C2.at_ 1 rfl, C2.at_ 2 rfl, C2.at_ 3 rfl⟩, ⟨D1.at_ 0 rfl, D1.at_ 1 rfl, D2.at_ 0 rfl, D2.at_ 1 rfl, D2.at_ 2 rfl, D2.at_ 3 rfl⟩, D2⟩
set_option maxHeartbeats 4000000 in
set_option maxRecDepth 100000 in
theorem parts_norm_n {bits x m : Nat} {ng : Bool} (H : Fl 23 8 bits ng (x + 1) m) (hx : x + 1 < 255) (w : World) :
    Calls Tryz.prog 76 #[.agg #[.int .i64 23, .int .i64 8], .int .u64 (bits : Nat)] w fun e w' =>
      e = .returned (.tuple #[.agg #[.int .i64 0, .bool ng, .string ⟨#[]⟩, .int .i64 0], .int .u64 ((m + 8388608 : Nat) : Int), .int .i64 ((x : Int) - 149)]) ∧ Below w.heap.size w w' := by
  obtain ⟨e0, e1, e2, e3, x1, m1⟩ := H.facts_n
  have s1 : IntKind.i64.wrap ((x : Int) + 1 - 1) = (x : Int) := by rw [IntWalk.i64_in _ (by omega)]; omega
  have s2 : IntKind.i64.wrap (-149 + (x : Int)) = (x : Int) - 149 := by rw [IntWalk.i64_in _ (by omega)]; omega
  have s3 : IntKind.i64.wrap (x : Int) = (x : Int) := IntWalk.i64_in _ (by omega)
  have S3 := Lib.hid s3
  have s4 : (if 0 < x then (x : Int) else 0) = (x : Int) := by split <;> omega
  have S4 := Lib.hid s4
  have S1 := Lib.hid s1
  have S2 := Lib.hid s2
  clear s1 s2 s3 s4
  go_enter Tryz.func76, Tryz.ntmps76
  go_wp2
  go_quiet (fail)
  go_wp2
  obtain ⟨B1, B2, bl⟩ := blk12 w #[.int .i64 23, .int .i64 8] #[.int .i64 0, .bool ng, .string ⟨#[]⟩, .int .i64 0] 73 23 nq
  generalize ((w.alloc (.cells #[.int .i64 23, .int .i64 8] 73)).alloc (.cells #[.int .i64 0, .bool ng, .string ⟨#[]⟩, .int .i64 0] 23)).drewN nq = W at *
  have s1 := S1.out
  have s2 := S2.out
  have s3 := S3.out
  have s4 := S4.out
  have kp := (keep_n B1.drew B2.drew).1
  clear e0 e1 e2 e3 S1 S2 S3 S4
  go_region_held3 (fun w' => w'.cell? ⟨w.heap.size, 0, none⟩ = some (.int .i64 23) ∧ w'.cell? ⟨w.heap.size, 1, none⟩ = some (.int .i64 8) ∧ w'.cell? ⟨w.heap.size + 1, 0, none⟩ = some (.int .i64 0) ∧ w'.cell? ⟨w.heap.size + 1, 1, none⟩ = some (.bool ng) ∧ w'.cell? ⟨w.heap.size + 1, 2, none⟩ = some (.string ⟨#[]⟩) ∧ w'.cell? ⟨w.heap.size + 1, 3, none⟩ = some (.int .i64 0))
    (first | (with_reducible exact kp) | (with_reducible exact kq) | (with_reducible exact kr))
    (first | (go_at_call 80; (with_reducible refine (least_n _).mono ?_); rintro e w1 ⟨rfl, b1⟩; have C2 := B2.drew.below b1; have C1 := B1.drew.below b1; have f0 := C2.fr 0; have f1 := C2.fr 1; have f2 := C2.fr 2; have f3 := C2.fr 3; obtain ⟨kq, kr, D⟩ := keep_n C1 C2))
  all_goals
    clear kp kq kr
    go_wp2
    refine bodyPost_ret (res_bk_tt rfl _ D rfl Tryz.underlying23 rfl (by kernel_rfl)) rfl ⟨rfl, ?_⟩
    have b0 := bl.drew.trans (b1.mono bl.drew.size)
    exact (((b0.setCell (by show _ ≤ w.heap.size + 1; omega) _).setCell (by show _ ≤ w.heap.size + 1; omega) _).setCell (by show _ ≤ w.heap.size + 1; omega) _).setCell (by show _ ≤ w.heap.size + 1; omega) _
set_option maxHeartbeats 4000000 in
set_option maxRecDepth 100000 in
theorem parts_sub_n {bits m : Nat} {ng : Bool} (H : Fl 23 8 bits ng 0 m) (w : World) :
    Calls Tryz.prog 76 #[.agg #[.int .i64 23, .int .i64 8], .int .u64 (bits : Nat)] w fun e w' =>
      e = .returned (.tuple #[.agg #[.int .i64 0, .bool ng, .string ⟨#[]⟩, .int .i64 0], .int .u64 (m : Nat), .int .i64 (-149)]) ∧ Below w.heap.size w w' := by
  obtain ⟨e0, e1, e2, e3, x1, m1⟩ := H.facts_n
  have s1 : IntKind.i64.wrap (-1) = -1 := by decide
  have s2 : IntKind.i64.wrap (0 - 1) = -1 := by decide
  have s3 : IntKind.i64.wrap (-149) = -149 := by decide
  have S1 := Lib.hid s1
  have S2 := Lib.hid s2
  have S3 := Lib.hid s3
  clear s1 s2 s3
  go_enter Tryz.func76, Tryz.ntmps76
  go_wp2
  go_quiet (fail)
  go_wp2
  obtain ⟨B1, B2, bl⟩ := blk12 w #[.int .i64 23, .int .i64 8] #[.int .i64 0, .bool ng, .string ⟨#[]⟩, .int .i64 0] 73 23 nq
  generalize ((w.alloc (.cells #[.int .i64 23, .int .i64 8] 73)).alloc (.cells #[.int .i64 0, .bool ng, .string ⟨#[]⟩, .int .i64 0] 23)).drewN nq = W at *
  have s1 := S1.out
  have s2 := S2.out
  have s3 := S3.out
  have kp := (keep_n B1.drew B2.drew).1
  clear e0 e1 e2 e3 S1 S2 S3
  go_region_held3 (fun w' => w'.cell? ⟨w.heap.size, 0, none⟩ = some (.int .i64 23) ∧ w'.cell? ⟨w.heap.size, 1, none⟩ = some (.int .i64 8) ∧ w'.cell? ⟨w.heap.size + 1, 0, none⟩ = some (.int .i64 0) ∧ w'.cell? ⟨w.heap.size + 1, 1, none⟩ = some (.bool ng) ∧ w'.cell? ⟨w.heap.size + 1, 2, none⟩ = some (.string ⟨#[]⟩) ∧ w'.cell? ⟨w.heap.size + 1, 3, none⟩ = some (.int .i64 0))
    (first | (with_reducible exact kp) | (with_reducible exact kq) | (with_reducible exact kr))
    (first | (go_at_call 80; (with_reducible refine (least_n _).mono ?_); rintro e w1 ⟨rfl, b1⟩; have C2 := B2.drew.below b1; have C1 := B1.drew.below b1; have f0 := C2.fr 0; have f1 := C2.fr 1; have f2 := C2.fr 2; have f3 := C2.fr 3; obtain ⟨kq, kr, D⟩ := keep_n C1 C2))
  all_goals
    clear kp kq kr
    go_wp2
    refine bodyPost_ret (res_bk_tt rfl _ D rfl Tryz.underlying23 rfl (by kernel_rfl)) rfl ⟨rfl, ?_⟩
    have b0 := bl.drew.trans (b1.mono bl.drew.size)
    exact (((b0.setCell (by show _ ≤ w.heap.size + 1; omega) _).setCell (by show _ ≤ w.heap.size + 1; omega) _).setCell (by show _ ≤ w.heap.size + 1; omega) _).setCell (by show _ ≤ w.heap.size + 1; omega) _
set_option maxHeartbeats 4000000 in
set_option maxRecDepth 100000 in
theorem parts_inf_n {bits : Nat} {ng : Bool} (H : Fl 23 8 bits ng 255 0) (w : World) :
    Calls Tryz.prog 76 #[.agg #[.int .i64 23, .int .i64 8], .int .u64 (bits : Nat)] w fun e w' =>
      e = .returned (.tuple #[.agg #[.int .i64 1, .bool ng, .string ⟨#[]⟩, .int .i64 0], .int .u64 0, .int .i64 0]) ∧ Below w.heap.size w w' := by
  obtain ⟨e0, e1, e2, e3, x1, m1⟩ := H.facts_n
  go_enter Tryz.func76, Tryz.ntmps76
  go_wp2
  go_quiet (fail)
  go_wp2
  obtain ⟨B1, B2, bl⟩ := blk12 w #[.int .i64 23, .int .i64 8] #[.int .i64 0, .bool ng, .string ⟨#[]⟩, .int .i64 0] 73 23 nq
  refine bodyPost_ret (res_bk_tt rfl _ (Bk.set4 (B2.set 0 (.int .i64 1)) (.int .i64 1) (.bool ng) (.string ⟨#[]⟩) (.int .i64 0) rfl) rfl Tryz.underlying23 rfl (by kernel_rfl)) rfl ⟨rfl, ?_⟩
  exact ((((bl.setCell (by show _ ≤ w.heap.size + 1; omega) _).setCell (by show _ ≤ w.heap.size + 1; omega) _).setCell (by show _ ≤ w.heap.size + 1; omega) _).setCell (by show _ ≤ w.heap.size + 1; omega) _).setCell (by show _ ≤ w.heap.size + 1; omega) _
set_option maxHeartbeats 4000000 in
set_option maxRecDepth 100000 in
theorem parts_nan_n {bits m : Nat} {ng : Bool} (H : Fl 23 8 bits ng 255 m) (hm : m ≠ 0) (w : World) :
    Calls Tryz.prog 76 #[.agg #[.int .i64 23, .int .i64 8], .int .u64 (bits : Nat)] w fun e w' =>
      e = .returned (.tuple #[.agg #[.int .i64 2, .bool false, .string ⟨#[]⟩, .int .i64 0], .int .u64 0, .int .i64 0]) ∧ Below w.heap.size w w' := by
  obtain ⟨e0, e1, e2, e3, x1, m1⟩ := H.facts_n
  have h0 : ((m : Int) == 0) = false := by simp; omega
  have h0' : (m == 0) = false := by simp; omega
  go_enter Tryz.func76, Tryz.ntmps76
  go_wp2
  go_quiet (fail)
  go_wp2
  obtain ⟨B1, B2, bl⟩ := blk12 w #[.int .i64 23, .int .i64 8] #[.int .i64 0, .bool ng, .string ⟨#[]⟩, .int .i64 0] 73 23 nq
  refine bodyPost_ret (res_bk_tt rfl _ (Bk.set4 (Bk.set4 B2 (.int .i64 2) (.bool false) (.string ⟨#[]⟩) (.int .i64 0) rfl) (.int .i64 2) (.bool false) (.string ⟨#[]⟩) (.int .i64 0) rfl) rfl Tryz.underlying23 rfl (by kernel_rfl)) rfl ⟨rfl, ?_⟩
  have hs : w.heap.size ≤ w.heap.size + 1 := Nat.le_succ _
  exact (((((((bl.setCell hs _).setCell hs _).setCell hs _).setCell hs _).setCell hs _).setCell hs _).setCell hs _).setCell hs _
end Go.Proofs.YtfddokfnplehkaaGreatDoor.Sh

/- Layer 3: the digits of an amount. -/
set_option linter.unusedSimpArgs false
set_option linter.unusedVariables false
namespace Go.Proofs.YtfddokfnplehkaaGreatDoor.Sh
open Go.RowKit Go.Proofs.YtfddokfnplehkaaGreatDoor.Dig Go.Proofs.YtfddokfnplehkaaGreatDoor.W Go.Proofs.YtfddokfnplehkaaGreatDoor.Nat Go.Proofs.YtfddokfnplehkaaGreatDoor.Wh Go.Proofs.YtfddokfnplehkaaGreatDoor.Td Go.Proofs.YtfddokfnplehkaaGreatDoor.Bu Go.Proofs.YtfddokfnplehkaaGreatDoor.Tx Go.Proofs.YtfddokfnplehkaaGreatDoor.Sp

/-- a text -/
def str (l : List UInt8) : Value := .string ⟨l.toArray⟩
def GivesT (w : World) (l : List UInt8) (x : Int) (e : Ending) (w' : World) : Prop := e = .returned (.tuple #[str l, .int .i64 x]) ∧ Below w.heap.size w w'
theorem one_len {m : Nat} (h : m < U) : (digs U m).length ≤ 1 := (digs_length_le U_two _ _).2 (by rw [Nat.pow_one]; exact h)
theorem shl_d (A : Option Addr) (n c m k : Nat) (w : World) (h : SI w .u64 A n c (digs U m)) (hn : n ≤ 1099511627776) (hk : k ≤ 65536) :
    Calls Tryz.prog 113 #[.slice A n c, .int .i64 (k : Nat)] w (GivesOwn2 w 24 .u64 (digs U (m * 2 ^ k))) := by
  have e := Nat.shl_calls A n c (digs U m) k w h (dl m) hn hk
  rw [val_digs U_two] at e
  exact e
theorem text_d (A : Option Addr) (n c m : Nat) (w : World) (h : SI w .u64 A n c (digs U m)) (hn : n ≤ 1000000000000) (hp : Pow w) :
    Calls Tryz.prog 64 #[.slice A n c] w fun e w' => e = .returned (str (Lib.decDigits m)) ∧ Below w.heap.size w w' := by
  have e := text_calls A n c (digs U m) w h (dl m) hn hp
  rw [val_digs U_two] at e
  exact e
theorem mul_len {m x K : Nat} (h : m < U) (hx : x < U ^ K) : (digs U (m * x)).length ≤ K + 1 := by
  refine (digs_length_le U_two _ _).2 ?_
  rw [Nat.pow_succ, Nat.mul_comm m]
  exact Nat.mul_lt_mul'' hx h
theorem pow_lt_U {a k : Nat} (ha : a ≤ 5) : a ^ k < U ^ (k + 1) := by
  have h1 : a ^ k ≤ U ^ k := Nat.pow_le_pow_left (by unfold U; omega) k
  have h2 : U ^ k < U ^ (k + 1) := Nat.pow_lt_pow_right (by unfold U; omega) (Nat.lt_succ_self k)
  exact Nat.lt_of_le_of_lt h1 h2
theorem shl_len {m k : Nat} (h : m < U) (hk : k ≤ 4096) : (digs U (m * 2 ^ k)).length ≤ 8192 := Nat.le_trans (mul_len h (pow_lt_U (by omega))) (by omega)
theorem five_len {m k : Nat} (h : m < U) (hk : k ≤ 4096) : (digs U (5 ^ k)).length ≤ 8192 ∧ (digs U (m * 5 ^ k)).length ≤ 8192 :=
  ⟨Nat.le_trans ((digs_length_le U_two _ _).2 (pow_lt_U (by omega))) (by omega), Nat.le_trans (mul_len h (pow_lt_U (by omega))) (by omega)⟩
theorem sf_up (Z k : Nat) : sf Z (Z + k) = 2 ^ k ∧ un Z (Z + k) = Z := by
  unfold sf un
  rw [if_pos (by omega), if_pos (by omega), Nat.add_sub_cancel_left]
  exact ⟨rfl, rfl⟩
theorem sf_down {Z w k : Nat} (h : w + k = Z) (hk : 0 < k) : sf Z w = 5 ^ k ∧ un Z w = w := by
  unfold sf un
  rw [if_neg (by omega), if_neg (by omega), show Z - w = k by omega]
  exact ⟨rfl, rfl⟩
set_option maxHeartbeats 4000000 in
set_option maxRecDepth 100000 in
theorem digits_up (m k : Nat) (w : World) (hm : m < U) (hk : k ≤ 4096) (hp : Pow w) :
    Calls Tryz.prog 77 #[.int .u64 (m : Nat), .int .i64 (k : Nat)] w (GivesT w (Lib.decDigits (m * 2 ^ k)) 0) := by
  have HL := Lib.hid (shl_len hm hk)
  have HP := Lib.hid hp
  have HO := Lib.hid (Nat.of_calls m w hm)
  have HM := Lib.hid (one_len hm)
  have HS := Lib.hid (fun (A : Option Addr) (n c : Nat) (w1 : World) (h : SI w1 .u64 A n c (digs U m)) => shl_d A n c m k w1 h (by rw [← h.len]; exact Nat.le_trans HM.out (by omega)) (by omega))
  have HT := Lib.hid (fun (A : Option Addr) (n c : Nat) (w1 : World) (h : SI w1 .u64 A n c (digs U (m * 2 ^ k))) (hp : Pow w1) => text_d A n c (m * 2 ^ k) w1 h (by rw [← h.len]; exact Nat.le_trans HL.out (by omega)) hp)
  clear hp
  generalize m * 2 ^ k = x at *
  unfold U at hm
  go_enter Tryz.func77, Tryz.ntmps77
  go_wp2_with (first
    | (go_at_call 71; (with_reducible refine HO.out.mono ?_); rintro e w1 ⟨v1, rfl, o1, b1⟩; obtain ⟨A1, n1, c1, rfl, r1⟩ := o1.reads_n)
    | (go_at_call 113; (with_reducible refine (HS.out A1 n1 c1 w1 r1).mono ?_); rintro e w2 ⟨v2, rfl, o2, b2⟩; obtain ⟨A2, n2, c2, rfl, r2⟩ := o2.reads_n)
    | (go_at_call 64; (with_reducible refine (HT.out A2 n2 c2 w2 r2 ((HP.out.below b1).below b2)).mono ?_); rintro e w3 ⟨rfl, b3⟩))
  go_ret2
  exact ⟨rfl, (b1.trans (b2.mono b1.size)).trans (b3.mono (Nat.le_trans b1.size b2.size))⟩
set_option maxHeartbeats 4000000 in
set_option maxRecDepth 100000 in
theorem digits_down (m k : Nat) (w : World) (hm : m < U) (h0 : 0 < k) (hk : k ≤ 4096) (hp : Pow w) :
    Calls Tryz.prog 77 #[.int .u64 (m : Nat), .int .i64 (-(k : Int))] w (GivesT w (Lib.decDigits (m * 5 ^ k)) (-(k : Int))) := by
  obtain ⟨l1, l2⟩ := five_len hm hk
  have HM := Lib.hid (one_len hm)
  have HL1 := Lib.hid l1
  have HL := Lib.hid l2
  clear l1 l2
  have HP := Lib.hid hp
  have H5 := Lib.hid (pow5_calls k w (by omega))
  have HO := Lib.hid (fun w1 => Nat.of_calls m w1 hm)
  have HS := Lib.hid (fun (A A' : Option Addr) (n c n' c' : Nat) (w1 : World) (h : SI w1 .u64 A n c (digs U m)) (h' : SI w1 .u64 A' n' c' (digs U (5 ^ k))) => mul_d A A' n c n' c' m (5 ^ k) w1 h h' (by rw [← h.len]; exact Nat.le_trans HM.out (by omega)) (by rw [← h'.len]; exact Nat.le_trans HL1.out (by omega)))
  have HT := Lib.hid (fun (A : Option Addr) (n c : Nat) (w1 : World) (h : SI w1 .u64 A n c (digs U (m * 5 ^ k))) (hp : Pow w1) => text_d A n c (m * 5 ^ k) w1 h (by rw [← h.len]; exact Nat.le_trans HL.out (by omega)) hp)
  clear hp
  generalize m * 5 ^ k = x at *
  generalize 5 ^ k = y at *
  unfold U at hm
  go_enter Tryz.func77, Tryz.ntmps77
  go_wp2_with (first
    | (go_at_call 114; (with_reducible refine H5.out.mono ?_); rintro e w1 ⟨A1, n1, c1, rfl, r1, b1⟩)
    | (go_at_call 71; (with_reducible refine (HO.out w1).mono ?_); rintro e w2 ⟨v2, rfl, o2, b2⟩; obtain ⟨A2, n2, c2, rfl, r2⟩ := o2.reads_n)
    | (go_at_call 70; (with_reducible refine (HS.out A2 A1 n2 c2 n1 c1 w2 r2 (r1.below b2)).mono ?_); rintro e w3 ⟨v3, rfl, o3, b3⟩; obtain ⟨A3, n3, c3, rfl, r3⟩ := o3.reads_n)
    | (go_at_call 64; (with_reducible refine (HT.out A3 n3 c3 w3 r3 (((HP.out.below b1).below b2).below b3)).mono ?_); rintro e w4 ⟨rfl, b4⟩))
  go_ret2
  exact ⟨rfl, ((b1.trans (b2.mono b1.size)).trans (b3.mono (Nat.le_trans b1.size b2.size))).trans (b4.mono (Nat.le_trans b1.size (Nat.le_trans b2.size b3.size)))⟩
/-- the digits of a float's amount, and where they stand -/
theorem digits_at (m Z w' : Nat) {mi E : Int} (w : World) (hm : m < U) (hi : mi = (m : Nat)) (hE : E = (w' : Int) - (Z : Int)) (hZ : Z ≤ 4096) (hw : w' ≤ 4096) (hp : Pow w) :
    Calls Tryz.prog 77 #[.int .u64 mi, .int .i64 E] w (GivesT w (Lib.decDigits (m * sf Z w')) ((un Z w' : Nat) - (Z : Int))) := by
  subst hi
  rcases Nat.lt_or_ge w' Z with h | h
  · obtain ⟨k, hk⟩ : ∃ k, w' + k = Z := ⟨Z - w', by omega⟩
    obtain ⟨e1, e2⟩ := sf_down hk (by omega)
    obtain rfl : E = -(k : Int) := by omega
    rw [e1, e2, show ((w' : Nat) : Int) - (Z : Int) = -(k : Int) by omega]
    exact digits_down m k w hm (by omega) (by omega) hp
  · obtain ⟨k, rfl⟩ : ∃ k, w' = Z + k := ⟨w' - Z, by omega⟩
    obtain ⟨e1, e2⟩ := sf_up Z k
    obtain rfl : E = (k : Nat) := by omega
    rw [e1, e2, show ((Z : Nat) : Int) - (Z : Int) = 0 by omega]
    exact digits_up m k w hm (by omega) hp
end Go.Proofs.YtfddokfnplehkaaGreatDoor.Sh

/- Layer 3: made, exact. -/
set_option linter.unusedSimpArgs false
set_option linter.unusedVariables false
namespace Go.Proofs.YtfddokfnplehkaaGreatDoor.Sh
open Go.RowKit Go.Proofs.YtfddokfnplehkaaGreatDoor.Dig Go.Proofs.YtfddokfnplehkaaGreatDoor.W Go.Proofs.YtfddokfnplehkaaGreatDoor.Nat Go.Proofs.YtfddokfnplehkaaGreatDoor.Wh Go.Proofs.YtfddokfnplehkaaGreatDoor.Td Go.Proofs.YtfddokfnplehkaaGreatDoor.Bu Go.Proofs.YtfddokfnplehkaaGreatDoor.Tx Go.Proofs.YtfddokfnplehkaaGreatDoor.Sp

/-- a Dec -/
def dec (c : Int) (ng : Bool) (l : List UInt8) (x : Int) : Array Value := #[.int .i64 c, .bool ng, str l, .int .i64 x]
theorem left_calls (l t : List UInt8) (h : Lib.trimLeftB l 48 = t) (w : World) : Calls Tryz.prog 82 #[.string ⟨l.toArray⟩, .string ⟨#[48]⟩] w fun e w' => e = .returned (.string ⟨t.toArray⟩) ∧ w = w' := by
  subst h
  exact (Tryz.strings_TrimLeft_one ⟨l.toArray⟩ 48 (by decide) w).mono fun _ _ ⟨a, b⟩ => ⟨a, b.symm⟩
theorem right_calls (l t : List UInt8) (h : Lib.trimRightB l 48 = t) (hl : l.length ≤ 9223372036854775807) (w : World) : Calls Tryz.prog 97 #[.string ⟨l.toArray⟩, .string ⟨#[48]⟩] w fun e w' => e = .returned (.string ⟨t.toArray⟩) ∧ w = w' := by
  subst h
  exact (Tryz.strings_TrimRight_one ⟨l.toArray⟩ 48 (by decide) w (by show l.toArray.size ≤ _; rw [List.size_toArray]; exact hl)).mono fun _ _ ⟨a, b⟩ => ⟨a, b.symm⟩
theorem blk_two (w : World) (cs ds : Array Value) (t u : TypeId) : Bk ((w.alloc (.cells cs t)).alloc (.cells ds u)) w.heap.size t cs ∧ Bk ((w.alloc (.cells cs t)).alloc (.cells ds u)) (w.heap.size + 1) u ds ∧ Below w.heap.size w ((w.alloc (.cells cs t)).alloc (.cells ds u)) := blk12 w cs ds t u 0
set_option maxHeartbeats 4000000 in
set_option maxRecDepth 100000 in
theorem made_calls (q : Int) (ng : Bool) (k a : Nat) (x : Int) (w : World) (ha : a < 10 ^ k) (hk : k ≤ 65536) (hx : -65536 ≤ x) (hx' : x ≤ 65536) :
    Calls Tryz.prog 78 #[.agg #[.int .i64 q, .bool ng, .string ⟨#[]⟩, .int .i64 0], .string ⟨(dd k a).toArray⟩, .int .i64 x] w fun e w' => e = .returned (.agg (dec q ng (cd a) (ce a x))) ∧ Below w.heap.size w w' := by
  obtain ⟨h1, h2⟩ := trims ha
  have h3 : (Lib.trimLeftB (dd k a) 48).length ≤ k := by
    unfold Lib.trimLeftB
    exact Nat.le_trans (List.dropWhile_sublist _).length_le (Nat.le_of_eq (dd_len k a))
  have HL := Lib.hid (left_calls (dd k a) _ rfl)
  generalize Lib.trimLeftB (dd k a) 48 = t at *
  by_cases h0 : a = 0
  · subst h0
    rw [ce_zero]
    rw [cd_zero] at h1 ⊢
    have HR := Lib.hid (right_calls _ _ h1 (by omega))
    clear h1 h2 ha
    go_enter Tryz.func78, Tryz.ntmps78
    go_wp2_with (first
      | (go_at_call 82; (with_reducible refine (HL.out _).mono ?_); rintro e w1 ⟨rfl, rfl⟩)
      | (go_at_call 97; (with_reducible refine (HR.out _).mono ?_); rintro e w2 ⟨rfl, rfl⟩))
    obtain ⟨B1, B2, bl⟩ := blk_two w #[.int .i64 q, .bool ng, .string ⟨#[]⟩, .int .i64 0] #[.int .i64 q, .bool ng, .string ⟨#[]⟩, .int .i64 0] 23 23
    exact bodyPost_ret (res_bk rfl _ B2 rfl Tryz.underlying23 rfl (by kernel_rfl)) rfl ⟨rfl, bl⟩
  · have he : (cd a).isEmpty = false := by
      cases h : cd a with
      | nil => exact absurd (cd_nil.1 h) h0
      | cons _ _ => rfl
    have hl := h2 h0
    have hce : ce a x = x + (t.length : Int) - ((cd a).length : Int) := by unfold ce; rw [if_neg h0]; omega
    rw [hce]
    have HR := Lib.hid (right_calls _ _ h1 (by omega))
    clear h2 hce ha h1
    have hc : (cd a).length ≤ t.length := by omega
    clear hl
    generalize cd a = c at *
    go_enter Tryz.func78, Tryz.ntmps78
    go_wp2_with (first
      | (go_at_call 82; (with_reducible refine (HL.out _).mono ?_); rintro e w1 ⟨rfl, rfl⟩)
      | (go_at_call 97; (with_reducible refine (HR.out _).mono ?_); rintro e w2 ⟨rfl, rfl⟩))
    obtain ⟨B1, B2, bl⟩ := blk_two w #[.int .i64 q, .bool ng, .string ⟨c.toArray⟩, .int .i64 (x + (t.length : Int) - (c.length : Int))] #[.int .i64 q, .bool ng, .string ⟨c.toArray⟩, .int .i64 (x + (t.length : Int) - (c.length : Int))] 23 23
    exact bodyPost_ret (res_bk rfl _ B2 rfl Tryz.underlying23 rfl (by kernel_rfl)) rfl ⟨rfl, bl⟩
theorem dec_dd (a : Nat) : Lib.decDigits a = dd (Lib.decDigits a).length a := by
  have := padded (x := a) (Nat.le_refl (Lib.decDigits a).length)
  rwa [Nat.sub_self, List.replicate_zero, List.nil_append] at this
/-- the same, at a number's digits -/
theorem made_dec (q : Int) (ng : Bool) (a : Nat) (x : Int) (w : World) (hk : (Lib.decDigits a).length ≤ 65536) (hx : -65536 ≤ x) (hx' : x ≤ 65536) :
    Calls Tryz.prog 78 #[.agg #[.int .i64 q, .bool ng, .string ⟨#[]⟩, .int .i64 0], str (Lib.decDigits a), .int .i64 x] w fun e w' => e = .returned (.agg (dec q ng (cd a) (ce a x))) ∧ Below w.heap.size w w' := by
  have e := made_calls q ng (Lib.decDigits a).length a x w (dec_upper a) hk hx hx'
  rw [← dec_dd a] at e
  exact e
theorem sf_le {Z w K : Nat} (hZ : Z ≤ K) (hw : w ≤ K) : sf Z w ≤ 10 ^ K := by
  unfold sf
  split
  · exact Nat.le_trans (Nat.pow_le_pow_left (by omega) _) (Nat.pow_le_pow_right (by omega) (by omega))
  · exact Nat.le_trans (Nat.pow_le_pow_left (by omega) _) (Nat.pow_le_pow_right (by omega) (by omega))
theorem dig_len' {m Z w K : Nat} (hm : m < U) (hZ : Z ≤ K) (hw : w ≤ K) : (Lib.decDigits (m * sf Z w)).length ≤ K + 20 := by
  refine dec_len_le ?_ (by omega)
  have h1 := sf_le hZ hw
  have h2 : m < 10 ^ 20 := Nat.lt_trans hm (by decide)
  have key : ∀ K, sf Z w ≤ 10 ^ K → m * sf Z w < 10 ^ (K + 20) := fun K h => by
    rw [Nat.pow_add, Nat.mul_comm]
    exact Nat.lt_of_lt_of_le (Nat.mul_lt_mul_of_pos_left h2 (sf_pos Z w)) (Nat.mul_le_mul_right _ h)
  exact key K h1
theorem dig_len {m Z w : Nat} (hm : m < U) (hZ : Z ≤ 4096) (hw : w ≤ 4096) : (Lib.decDigits (m * sf Z w)).length ≤ 4116 := dig_len' hm hZ hw
/-- bits of a float: the sign, and what stands behind it -/
structure Fb (S bits : Nat) (ng : Bool) (b : Nat) : Prop where
  neg : bits / S = if ng then 1 else 0
  rest : bits % S = b
theorem Fb.fl_w {bits b : Nat} {ng : Bool} (H : Fb 9223372036854775808 bits ng b) : Fl 52 11 bits ng (b / 4503599627370496) (b % 4503599627370496) := by
  obtain ⟨h1, h2⟩ := H
  have h3 : bits / 9223372036854775808 ≤ 1 := by rw [h1]; split <;> omega
  exact ⟨by simp only [Nat.reducePow, Nat.reduceAdd]; omega, by simp only [Nat.reducePow, Nat.reduceAdd]; exact h1, by simp only [Nat.reducePow]; omega, by simp only [Nat.reducePow]; omega⟩
theorem parts_fin_w {bits b : Nat} {ng : Bool} (H : Fb 9223372036854775808 bits ng b) (hx : b / 4503599627370496 < 2047) (w : World) :
    Calls Tryz.prog 76 #[.agg #[.int .i64 52, .int .i64 11], .int .u64 (bits : Nat)] w fun e w' =>
      e = .returned (.tuple #[.agg #[.int .i64 0, .bool ng, .string ⟨#[]⟩, .int .i64 0], .int .u64 (am 52 b : Nat), .int .i64 (((b / 4503599627370496 - 1 : Nat) : Int) - 1074)]) ∧ Below w.heap.size w w' := by
  have hF := H.fl_w
  unfold am
  simp only [Nat.reducePow]
  obtain ⟨x, hx'⟩ : ∃ x, x = b / 4503599627370496 := ⟨_, rfl⟩
  rw [← hx'] at hF hx ⊢
  cases x with
  | zero => rw [if_pos rfl]; exact parts_sub_w hF w
  | succ x => rw [if_neg (by omega)]; exact parts_norm_w hF hx w
theorem am_lt_w (b : Nat) : am 52 b < U := by
  unfold am U
  simp only [Nat.reducePow]
  split <;> omega
set_option maxHeartbeats 4000000 in
set_option maxRecDepth 100000 in
theorem exact_fin_w {bits b : Nat} {ng : Bool} (H : Fb 9223372036854775808 bits ng b) (hx : b / 4503599627370496 < 2047) (w : World) (hp : Pow w) :
    Calls Tryz.prog 49 #[.agg #[.int .i64 52, .int .i64 11], .int .u64 (bits : Nat)] w fun e w' =>
      e = .returned (.agg (dec 0 ng (cd (xF 52 1074 b)) (ce (xF 52 1074 b) ((un 1074 (b / 2 ^ 52 - 1) : Nat) - (1074 : Nat))))) ∧ Below w.heap.size w w' := by
  have HA := Lib.hid (parts_fin_w H hx)
  have hm := am_lt_w b
  unfold xF
  simp only [Nat.reducePow]
  obtain ⟨v, hv⟩ : ∃ v, v = b / 4503599627370496 - 1 := ⟨_, rfl⟩
  have hv' : v ≤ 4096 := by omega
  rw [← hv] at HA ⊢
  have hl := dig_len (Z := 1074) hm (by omega) hv'
  have hun : un 1074 v ≤ 4096 := by unfold un; split <;> omega
  have hD : ∀ w1 : World, Pow w1 → Calls Tryz.prog 77 #[.int .u64 (am 52 b : Nat), .int .i64 ((v : Int) - 1074)] w1 (GivesT w1 (Lib.decDigits (am 52 b * sf 1074 v)) ((un 1074 v : Nat) - 1074)) := fun w1 h => digits_at (am 52 b) 1074 v w1 hm rfl rfl (by omega) hv' h
  have hM : ∀ w1 : World, Calls Tryz.prog 78 #[.agg #[.int .i64 0, .bool ng, .string ⟨#[]⟩, .int .i64 0], str (Lib.decDigits (am 52 b * sf 1074 v)), .int .i64 ((un 1074 v : Nat) - 1074)] w1 fun e w' => e = .returned (.agg #[.int .i64 0, .bool ng, .string ⟨(cd (am 52 b * sf 1074 v)).toArray⟩, .int .i64 (ce (am 52 b * sf 1074 v) ((un 1074 v : Nat) - ((1074 : Nat) : Int)))]) ∧ Below w1.heap.size w1 w' := fun w1 => made_dec 0 ng (am 52 b * sf 1074 v) ((un 1074 v : Nat) - ((1074 : Nat) : Int)) w1 (by omega) (by omega) (by omega)
  have HD := Lib.hid hD
  have HM := Lib.hid hM
  obtain ⟨_, B2, bl⟩ := blk_two w #[.int .i64 52, .int .i64 11] #[.int .i64 0, .bool false, .string ⟨#[]⟩, .int .i64 0] 73 23
  have HP := Lib.hid (hp.below bl)
  have HB := Lib.hid bl
  have HB2 := Lib.hid B2
  clear hp hm hx hl hv H hD hM B2 bl hun hv'
  generalize cd (am 52 b * sf 1074 v) = C at *
  generalize ce (am 52 b * sf 1074 v) ((un 1074 v : Nat) - ((1074 : Nat) : Int)) = x at *
  generalize Lib.decDigits (am 52 b * sf 1074 v) = L at *
  generalize am 52 b = m at *
  generalize un 1074 v = u at *
  go_enter Tryz.func49, Tryz.ntmps49
  go_wp2_with (first
    | (go_at_call 76; (with_reducible refine (HA.out _).mono ?_); rintro e w1 ⟨rfl, b1⟩)
    | (go_at_call 77; (with_reducible refine (HD.out _ ((HP.out.below b1).below (alloc_below _ _))).mono ?_); rintro e w2 ⟨rfl, b2⟩; have q := (Bk.start w1 23 #[.int .i64 0, .bool ng, .string ⟨#[]⟩, .int .i64 0]).below b2; have q0 := q.at_ 0 rfl; have q1 := q.at_ 1 rfl; have q2 := q.at_ 2 rfl; have q3 := q.at_ 3 rfl)
    | (go_at_call 78; (with_reducible refine (HM.out _).mono ?_); rintro e w3 ⟨rfl, b3⟩; have B3 := (((HB2.out.below b1).alloc (.cells #[.int .i64 0, .bool ng, .string ⟨#[]⟩, .int .i64 0] 23)).below b2).below b3; have f0 := B3.fr 0; have f1 := B3.fr 1; have f2 := B3.fr 2; have f3 := B3.fr 3; clear q0 q1 q2 q3; have q0 := B3.at_ 0 rfl; have q1 := B3.at_ 1 rfl; have q2 := B3.at_ 2 rfl; have q3 := B3.at_ 3 rfl))
  refine bodyPost_ret (res_bk rfl _ (B3.set4 (.int .i64 0) (.bool ng) (.string ⟨C.toArray⟩) (.int .i64 x) rfl) rfl Tryz.underlying23 rfl (by kernel_rfl)) rfl ⟨rfl, ?_⟩
  have c1 := HB.out.trans (b1.mono HB.out.size)
  have c2 := c1.trans ((alloc_below w1 (.cells #[.int .i64 0, .bool ng, .string ⟨#[]⟩, .int .i64 0] 23)).mono c1.size)
  have c3 := c2.trans (b2.mono c2.size)
  have c4 := c3.trans (b3.mono c3.size)
  have hs : w.heap.size ≤ w.heap.size + 1 := Nat.le_succ _
  exact (((c4.setCell hs _).setCell hs _).setCell hs _).setCell hs _
theorem Fb.fl_n {bits b : Nat} {ng : Bool} (H : Fb 2147483648 bits ng b) : Fl 23 8 bits ng (b / 8388608) (b % 8388608) := by
  obtain ⟨h1, h2⟩ := H
  have h3 : bits / 2147483648 ≤ 1 := by rw [h1]; split <;> omega
  exact ⟨by simp only [Nat.reducePow, Nat.reduceAdd]; omega, by simp only [Nat.reducePow, Nat.reduceAdd]; exact h1, by simp only [Nat.reducePow]; omega, by simp only [Nat.reducePow]; omega⟩
theorem parts_fin_n {bits b : Nat} {ng : Bool} (H : Fb 2147483648 bits ng b) (hx : b / 8388608 < 255) (w : World) :
    Calls Tryz.prog 76 #[.agg #[.int .i64 23, .int .i64 8], .int .u64 (bits : Nat)] w fun e w' =>
      e = .returned (.tuple #[.agg #[.int .i64 0, .bool ng, .string ⟨#[]⟩, .int .i64 0], .int .u64 (am 23 b : Nat), .int .i64 (((b / 8388608 - 1 : Nat) : Int) - 149)]) ∧ Below w.heap.size w w' := by
  have hF := H.fl_n
  unfold am
  simp only [Nat.reducePow]
  obtain ⟨x, hx'⟩ : ∃ x, x = b / 8388608 := ⟨_, rfl⟩
  rw [← hx'] at hF hx ⊢
  cases x with
  | zero => rw [if_pos rfl]; exact parts_sub_n hF w
  | succ x => rw [if_neg (by omega)]; exact parts_norm_n hF hx w
theorem am_lt_n (b : Nat) : am 23 b < U := by
  unfold am U
  simp only [Nat.reducePow]
  split <;> omega
set_option maxHeartbeats 4000000 in
set_option maxRecDepth 100000 in
theorem exact_fin_n {bits b : Nat} {ng : Bool} (H : Fb 2147483648 bits ng b) (hx : b / 8388608 < 255) (w : World) (hp : Pow w) :
    Calls Tryz.prog 49 #[.agg #[.int .i64 23, .int .i64 8], .int .u64 (bits : Nat)] w fun e w' =>
      e = .returned (.agg (dec 0 ng (cd (xF 23 149 b)) (ce (xF 23 149 b) ((un 149 (b / 2 ^ 23 - 1) : Nat) - (149 : Nat))))) ∧ Below w.heap.size w w' := by
  have HA := Lib.hid (parts_fin_n H hx)
  have hm := am_lt_n b
  unfold xF
  simp only [Nat.reducePow]
  obtain ⟨v, hv⟩ : ∃ v, v = b / 8388608 - 1 := ⟨_, rfl⟩
  have hv' : v ≤ 4096 := by omega
  rw [← hv] at HA ⊢
  have hl := dig_len (Z := 149) hm (by omega) hv'
  have hun : un 149 v ≤ 4096 := by unfold un; split <;> omega
  have hD : ∀ w1 : World, Pow w1 → Calls Tryz.prog 77 #[.int .u64 (am 23 b : Nat), .int .i64 ((v : Int) - 149)] w1 (GivesT w1 (Lib.decDigits (am 23 b * sf 149 v)) ((un 149 v : Nat) - 149)) := fun w1 h => digits_at (am 23 b) 149 v w1 hm rfl rfl (by omega) hv' h
  have hM : ∀ w1 : World, Calls Tryz.prog 78 #[.agg #[.int .i64 0, .bool ng, .string ⟨#[]⟩, .int .i64 0], str (Lib.decDigits (am 23 b * sf 149 v)), .int .i64 ((un 149 v : Nat) - 149)] w1 fun e w' => e = .returned (.agg #[.int .i64 0, .bool ng, .string ⟨(cd (am 23 b * sf 149 v)).toArray⟩, .int .i64 (ce (am 23 b * sf 149 v) ((un 149 v : Nat) - ((149 : Nat) : Int)))]) ∧ Below w1.heap.size w1 w' := fun w1 => made_dec 0 ng (am 23 b * sf 149 v) ((un 149 v : Nat) - ((149 : Nat) : Int)) w1 (by omega) (by omega) (by omega)
  have HD := Lib.hid hD
  have HM := Lib.hid hM
  obtain ⟨_, B2, bl⟩ := blk_two w #[.int .i64 23, .int .i64 8] #[.int .i64 0, .bool false, .string ⟨#[]⟩, .int .i64 0] 73 23
  have HP := Lib.hid (hp.below bl)
  have HB := Lib.hid bl
  have HB2 := Lib.hid B2
  clear hp hm hx hl hv H hD hM B2 bl hun hv'
  generalize cd (am 23 b * sf 149 v) = C at *
  generalize ce (am 23 b * sf 149 v) ((un 149 v : Nat) - ((149 : Nat) : Int)) = x at *
  generalize Lib.decDigits (am 23 b * sf 149 v) = L at *
  generalize am 23 b = m at *
  generalize un 149 v = u at *
  go_enter Tryz.func49, Tryz.ntmps49
  go_wp2_with (first
    | (go_at_call 76; (with_reducible refine (HA.out _).mono ?_); rintro e w1 ⟨rfl, b1⟩)
    | (go_at_call 77; (with_reducible refine (HD.out _ ((HP.out.below b1).below (alloc_below _ _))).mono ?_); rintro e w2 ⟨rfl, b2⟩; have q := (Bk.start w1 23 #[.int .i64 0, .bool ng, .string ⟨#[]⟩, .int .i64 0]).below b2; have q0 := q.at_ 0 rfl; have q1 := q.at_ 1 rfl; have q2 := q.at_ 2 rfl; have q3 := q.at_ 3 rfl)
    | (go_at_call 78; (with_reducible refine (HM.out _).mono ?_); rintro e w3 ⟨rfl, b3⟩; have B3 := (((HB2.out.below b1).alloc (.cells #[.int .i64 0, .bool ng, .string ⟨#[]⟩, .int .i64 0] 23)).below b2).below b3; have f0 := B3.fr 0; have f1 := B3.fr 1; have f2 := B3.fr 2; have f3 := B3.fr 3; clear q0 q1 q2 q3; have q0 := B3.at_ 0 rfl; have q1 := B3.at_ 1 rfl; have q2 := B3.at_ 2 rfl; have q3 := B3.at_ 3 rfl))
  refine bodyPost_ret (res_bk rfl _ (B3.set4 (.int .i64 0) (.bool ng) (.string ⟨C.toArray⟩) (.int .i64 x) rfl) rfl Tryz.underlying23 rfl (by kernel_rfl)) rfl ⟨rfl, ?_⟩
  have c1 := HB.out.trans (b1.mono HB.out.size)
  have c2 := c1.trans ((alloc_below w1 (.cells #[.int .i64 0, .bool ng, .string ⟨#[]⟩, .int .i64 0] 23)).mono c1.size)
  have c3 := c2.trans (b2.mono c2.size)
  have c4 := c3.trans (b3.mono c3.size)
  have hs : w.heap.size ≤ w.heap.size + 1 := Nat.le_succ _
  exact (((c4.setCell hs _).setCell hs _).setCell hs _).setCell hs _
end Go.Proofs.YtfddokfnplehkaaGreatDoor.Sh

/- Layer 3: more. -/
set_option linter.unusedSimpArgs false
set_option linter.unusedVariables false
namespace Go.Proofs.YtfddokfnplehkaaGreatDoor.Sh
open Go.RowKit Go.Proofs.YtfddokfnplehkaaGreatDoor.Dig Go.Proofs.YtfddokfnplehkaaGreatDoor.W Go.Proofs.YtfddokfnplehkaaGreatDoor.Nat Go.Proofs.YtfddokfnplehkaaGreatDoor.Wh Go.Proofs.YtfddokfnplehkaaGreatDoor.Td Go.Proofs.YtfddokfnplehkaaGreatDoor.Bu Go.Proofs.YtfddokfnplehkaaGreatDoor.Tx Go.Proofs.YtfddokfnplehkaaGreatDoor.Sp

/-- a conversion's row of bytes -/
def By (w : World) (g : Nat) (l : List UInt8) : Prop := ∃ cs, w.heap[g]? = some (.cells cs 5 (cs.size, cs.size + 1)) ∧ l.length ≤ cs.size ∧ ∀ j (hj : j < l.length), cs[j]? = some (.int .u8 (l[j].toNat : Int))
theorem By.lt {w : World} {g : Nat} {l : List UInt8} (h : By w g l) : g < w.heap.size := by
  obtain ⟨cs, h1, _⟩ := h
  exact (Array.getElem?_eq_some_iff.1 h1).1
theorem By.below {w w' : World} {g : Nat} {l : List UInt8} (h : By w g l) (hb : Below w.heap.size w w') : By w' g l := by
  have hlt := h.lt
  obtain ⟨cs, h1, h2⟩ := h
  exact ⟨cs, (hb.block g hlt).trans h1, h2⟩
theorem By.cell {w : World} {g : Nat} {l : List UInt8} (h : By w g l) {j : Nat} {b : UInt8} (hj : l[j]? = some b) : w.cell? ⟨g, j, none⟩ = some (.int .u8 (b.toNat : Int)) := by
  obtain ⟨cs, h1, h2, h3⟩ := h
  obtain ⟨hl, e⟩ := List.getElem?_eq_some_iff.1 hj
  rw [cell_of_row w g j cs _ _ h1, h3 j hl, e]
theorem By.free {w : World} {g : Nat} {l : List UInt8} (h : By w g l) {j : Nat} (hj : j < l.length) : w.frozen? ⟨g, j, none⟩ = false := by
  obtain ⟨cs, h1, h2, h3⟩ := h
  simp [World.frozen?, h1]
  omega
theorem By.set {w : World} {g : Nat} {l : List UInt8} (h : By w g l) (j : Nat) (b : UInt8) : By (w.setCell ⟨g, j, none⟩ (.int .u8 (b.toNat : Int))) g (l.set j b) := by
  obtain ⟨cs, h1, h2, h3⟩ := h
  refine ⟨cs.setIfInBounds j (.int .u8 (b.toNat : Int)), ?_, by simpa using h2, fun i hi => ?_⟩
  · have := Lib.heap_setCell_same (i := j) h1 (.int .u8 (b.toNat : Int))
    simpa using this
  · rw [List.length_set] at hi
    rw [Array.getElem?_setIfInBounds]
    by_cases e : j = i
    · subst e
      rw [if_pos rfl, if_pos (by omega)]
      simp
    · rw [if_neg e, h3 i hi, List.getElem_set_ne e]
theorem to_bytes (l : List UInt8) (w : World) : ∃ c W, (convert 9 108 (.string ⟨l.toArray⟩)).run Tryz.prog w = .ok (.slice (some ⟨w.heap.size, 0, none⟩) l.length c) W ∧ By W w.heap.size l ∧ Below w.heap.size w W ∧ l.length ≤ c := by
  refine ⟨_, _, run_bytes_of_string w 9 108 5 ⟨l.toArray⟩ Tryz.underlying9 Tryz.underlying108 Tryz.underlying5, ⟨_, heap_alloc_new w.drew _, ?_, fun j hj => ?_⟩, ?_, grownCap_ge _ _ _ _⟩
  · simp [bytesRow]
  · simp [bytesRow, Array.getElem?_append, hj]
  · exact (Below.refl _ _).drew.trans ((alloc_below w.drew _).mono (Nat.le_refl _))
theorem of_bytes (l : List UInt8) (g c : Nat) (w : World) (h : By w g l) : (convert 108 9 (.slice (some ⟨g, 0, none⟩) l.length c)).run Tryz.prog w = .ok (.string ⟨l.toArray⟩) w :=
  run_convert_bytes_back w 108 9 5 ⟨g, 0, none⟩ c l Tryz.underlying108 Tryz.underlying5 Tryz.underlying9 fun j hj => by
    rw [add_at, Nat.zero_add]
    exact h.cell (List.getElem?_eq_getElem hj)
theorem row_at (j q k : Nat) : (dd (j + 1) q ++ List.replicate k 48)[j]? = some (db (q % 10)) := by
  rw [dd, List.append_assoc, List.getElem?_append_right (by rw [dd_len]; omega), dd_len, Nat.sub_self]
  rfl
theorem row_set (j q k : Nat) (b : UInt8) : (dd (j + 1) q ++ List.replicate k 48).set j b = dd j (q / 10) ++ b :: List.replicate k 48 := by
  rw [dd, List.append_assoc, List.set_append_right _ _ (by rw [dd_len]; omega), dd_len, Nat.sub_self]
  rfl
theorem row_nine (j v k : Nat) : (dd (j + 1 + 1) (v / 10 ^ k) ++ List.replicate k 48).set (j + 1) 48 = dd (j + 1) (v / 10 ^ (k + 1)) ++ List.replicate (k + 1) 48 := by
  rw [row_set, Nat.div_div_eq_div_mul, ← Nat.pow_succ, List.replicate_succ]
theorem row_more {j v k : Nat} (h : v % 10 ^ k = 10 ^ k - 1) (hd : v / 10 ^ k % 10 < 9) : (dd (j + 1) (v / 10 ^ k) ++ List.replicate k 48).set j (db (v / 10 ^ k % 10 + 1)) = dd (j + 1 + k) (v + 1) := by
  rw [row_set, more_dd h, dd, List.append_assoc]
  have e1 : (v / 10 ^ k + 1) / 10 = v / 10 ^ k / 10 := by omega
  have e2 : (v / 10 ^ k + 1) % 10 = v / 10 ^ k % 10 + 1 := by omega
  rw [e1, e2]
  rfl
theorem nine_next {v k : Nat} (h : v % 10 ^ k = 10 ^ k - 1) (hd : v / 10 ^ k % 10 = 9) : v % 10 ^ (k + 1) = 10 ^ (k + 1) - 1 := by
  have hp := p10 k
  rw [Nat.pow_succ, Nat.mod_mul, hd, h]
  omega
theorem nine_end {v k : Nat} (h : v % 10 ^ k = 10 ^ k - 1) (hd : v / 10 ^ k % 10 = 9) (hv : v + 1 < 10 ^ (0 + 1 + k)) : False := by
  have h1 := nine_next h hd
  rw [show 0 + 1 + k = k + 1 by omega] at hv
  rw [Nat.mod_eq_of_lt (by omega)] at h1
  omega
set_option maxHeartbeats 4000000 in
set_option maxRecDepth 100000 in
theorem more_calls (n v : Nat) (w : World) (hv : v + 1 < 10 ^ n) (hn : n ≤ 65536) :
    Calls Tryz.prog 128 #[.string ⟨(dd n v).toArray⟩] w fun e w' => e = .returned (.string ⟨(dd n (v + 1)).toArray⟩) ∧ Below w.heap.size w w' := by
  obtain ⟨c, W, hc, hby, hbl, hcap⟩ := to_bytes (dd n v) w
  rw [dd_len] at hc hcap
  have HV := Lib.hid hv
  have n0 : 0 < n := by
    rcases Nat.eq_zero_or_pos n with h | h
    · subst h; simp at hv
    · exact h
  clear hv
  have HBY := Lib.hid hby
  have HBL := Lib.hid hbl
  clear hby hbl hcap
  go_enter Tryz.func128, Tryz.ntmps128
  go_wp2
  clear hc
  go_loopw [4] (fun z wr => ∃ k j : Nat, z = .int .i64 (j : Nat) ∧ Hid (j + 1 + k = n) ∧ Hid (v % 10 ^ k = 10 ^ k - 1) ∧ j < n ∧ By wr w.heap.size (dd (j + 1) (v / 10 ^ k) ++ List.replicate k 48) ∧ Below w.heap.size w wr) (fun z _ => (intOf z).toNat)
  case atStart => exact ⟨0, n - 1, by go_num, by unfold Hid; omega, by unfold Hid; rw [Nat.pow_zero, Nat.mod_one], by omega, by rw [Nat.pow_zero, Nat.div_one, show n - 1 + 1 = n by omega]; simpa using HBY.out, HBL.out⟩
  case round =>
    obtain ⟨k, j, rfl, HN, HK, hj, hby, hb⟩ := hrel
    have hcell := hby.cell (row_at j (v / 10 ^ k) k)
    have hfr : wr.frozen? ⟨w.heap.size, j, none⟩ = false := hby.free (by rw [List.length_append, dd_len]; omega)
    have hlt := Nat.mod_lt (v / 10 ^ k) (show 10 > 0 by omega)
    have hn := HN.out
    by_cases h9 : v / 10 ^ k % 10 = 9
    · rw [h9] at hcell
      have hs := hby.set j 48
      cases j with
      | zero => exact (nine_end HK.out h9 (by rw [hn]; exact HV.out)).elim
      | succ j =>
        rw [row_nine] at hs
        have HS := Lib.hid hs
        have hnx := Lib.hid (nine_next HK.out h9)
        have hc9 : wr.cell? ⟨w.heap.size, j + 1, none⟩ = some (.int .u8 57) := hcell
        clear hcell hby h9 hs hn
        go_wp2
        go_roundw
        case rel => exact ⟨k + 1, j, by go_num, by have := HN.out; unfold Hid; omega, hnx, by omega, HS.out, hb.setCell (Nat.le_refl _) _⟩
        case measure => simp [intOf]
    · have hs := hby.set j (db (v / 10 ^ k % 10 + 1))
      rw [row_more HK.out (by omega), hn] at hs
      rw [db_nat (by omega)] at hcell hs
      obtain ⟨d, hd⟩ : ∃ d, d = v / 10 ^ k % 10 := ⟨_, rfl⟩
      rw [← hd] at hcell hs h9 hlt
      have hob := of_bytes _ _ c _ hs
      rw [dd_len] at hob
      have HS := Lib.hid hob
      have hne : (((48 + d : Nat) : Int) == 57) = false := by simp; omega
      rw [show ((48 + (d + 1) : Nat) : Int) = 48 + (d : Int) + 1 by omega] at hob
      have hne' : (48 + d == 57) = false := by simp; omega
      have hcc : wr.cell? ⟨w.heap.size, j, none⟩ = some (.int .u8 (48 + (d : Int))) := hcell
      have hne'' : (48 + (d : Int) == 57) = false := by simp; omega
      clear hcell hby hd hs hn HS
      go_wp2
      go_ret
      exact ⟨rfl, hb.setCell (Nat.le_refl _) _⟩
end Go.Proofs.YtfddokfnplehkaaGreatDoor.Sh

/- Layer 3: cmp.Compare on texts, the closure of fewest. -/
set_option linter.unusedSimpArgs false
set_option linter.unusedVariables false
namespace Go.Proofs.YtfddokfnplehkaaGreatDoor.Sh
open Go.RowKit Go.Proofs.YtfddokfnplehkaaGreatDoor.Dig Go.Proofs.YtfddokfnplehkaaGreatDoor.W Go.Proofs.YtfddokfnplehkaaGreatDoor.Nat Go.Proofs.YtfddokfnplehkaaGreatDoor.Wh Go.Proofs.YtfddokfnplehkaaGreatDoor.Td Go.Proofs.YtfddokfnplehkaaGreatDoor.Bu Go.Proofs.YtfddokfnplehkaaGreatDoor.Tx Go.Proofs.YtfddokfnplehkaaGreatDoor.Sp

theorem isnan_calls (s : ByteArray) (w : World) : Calls Tryz.prog 158 #[.string s] w fun e w' => e = .returned (.bool false) ∧ w = w' := by
  go_enter Tryz.func158, Tryz.ntmps158
  go_wp2
  go_ret
  exact ⟨rfl, rfl⟩
/-- how two texts stand -/
theorem comp_calls (s t : List UInt8) (c : Int) (h : c = if Go.Op.bytesLess s t then -1 else if s == t then 0 else 1) (w : World) :
    Calls Tryz.prog 127 #[.string ⟨s.toArray⟩, .string ⟨t.toArray⟩] w fun e w' => e = .returned (.int .i64 c) ∧ w = w' := by
  subst h
  cases h1 : Go.Op.bytesLess s t <;> cases h2 : s == t
  all_goals
    go_enter Tryz.func127, Tryz.ntmps127
    go_wp2_with (go_at_call 158; (with_reducible refine (isnan_calls _ _).mono ?_); rintro e w1 ⟨rfl, rfl⟩)
    go_ret
    exact ⟨rfl, rfl⟩
theorem comp_dd (k x y : Nat) (hx : x < 10 ^ k) (hy : y < 10 ^ k) (w : World) :
    Calls Tryz.prog 127 #[.string ⟨(dd k x).toArray⟩, .string ⟨(dd k y).toArray⟩] w fun e w' => e = .returned (.int .i64 (cmp x y)) ∧ w = w' := by
  refine comp_calls _ _ _ ?_ w
  rw [less_dd hx hy, eq_dd hx hy]
  unfold cmp
  by_cases h1 : x < y
  · simp [h1]
  · by_cases h2 : x = y
    · subst h2; simp
    · rw [if_neg h1, if_pos (by omega)]
      simp [h1, h2]
set_option maxRecDepth 100000 in
set_option maxHeartbeats 1000000 in
theorem within_raw (s l h : ByteArray) (c1 c2 f t : Int) (p1 p2 p3 p4 : Addr) (w : World)
    (H1 : ∀ w, Calls Tryz.prog 127 #[.string s, .string l] w fun e w' => e = .returned (.int .i64 c1) ∧ w = w')
    (H2 : ∀ w, Calls Tryz.prog 127 #[.string s, .string h] w fun e w' => e = .returned (.int .i64 c2) ∧ w = w')
    (k1 : w.cell? p1 = some (.string l)) (k2 : w.cell? p2 = some (.int .i64 f)) (k3 : w.cell? p3 = some (.string h)) (k4 : w.cell? p4 = some (.int .i64 t)) :
    Calls Tryz.prog 126 #[.string s, .pointer (some p1), .pointer (some p2), .pointer (some p3), .pointer (some p4)] w fun e w' => e = .returned (.bool (decide (f ≤ c1) && decide (c2 ≤ t))) ∧ Drawn w w' := by
  have G1 := Lib.hid (fun w1 => (H1 w1).mono fun _ _ ⟨a, b⟩ => (⟨a, b.symm⟩ : _ ∧ _ = w1))
  have G2 := Lib.hid (fun w1 => (H2 w1).mono fun _ _ ⟨a, b⟩ => (⟨a, b.symm⟩ : _ ∧ _ = w1))
  clear H1 H2
  by_cases h1 : f ≤ c1
  · go_enter Tryz.func126, Tryz.ntmps126
    go_wp2
    go_quiet ((go_at_call 127; first | (with_reducible exact Calls.quiet_of_same (G1.out _)) | (with_reducible exact Calls.quiet_of_same (G2.out _))))
    go_wp2
    go_ret
    exact ⟨by simp <;> omega, ⟨_, rfl⟩⟩
  · have hd : decide (f ≤ c1) = false := by simpa using h1
    go_enter Tryz.func126, Tryz.ntmps126
    go_wp2
    go_quiet ((go_at_call 127; first | (with_reducible exact Calls.quiet_of_same (G1.out _)) | (with_reducible exact Calls.quiet_of_same (G2.out _))))
    go_wp2
    go_ret
    exact ⟨by simp <;> omega, ⟨_, rfl⟩⟩
def cfr (ends : Bool) : Int := if ends then 0 else 1
def cto (ends : Bool) : Int := if ends then 0 else -1
theorem win_cmp (ends : Bool) (l h x : Nat) : (decide (cfr ends ≤ cmp x l) && decide (cmp x h ≤ cto ends)) = win ends l h x := by
  unfold cfr cto win cmp
  have e1 : ∀ p q : Nat, ((0 : Int) ≤ if p < q then -1 else if q < p then 1 else 0) ↔ q ≤ p := fun p q => by split <;> (try split) <;> omega
  have e2 : ∀ p q : Nat, ((1 : Int) ≤ if p < q then -1 else if q < p then 1 else 0) ↔ q < p := fun p q => by split <;> (try split) <;> omega
  have e3 : ∀ p q : Nat, ((if p < q then -1 else if q < p then 1 else 0) ≤ (0 : Int)) ↔ p ≤ q := fun p q => by split <;> (try split) <;> omega
  have e4 : ∀ p q : Nat, ((if p < q then -1 else if q < p then 1 else 0) ≤ (-1 : Int)) ↔ p < q := fun p q => by split <;> (try split) <;> omega
  cases ends
  · simp only [Bool.false_eq_true, if_false, e2, e4]
  · simp only [if_true, e1, e3]
theorem within_calls (L l h x : Nat) (ends : Bool) (p1 p2 p3 p4 : Addr) (w : World) (hl : l < 10 ^ L) (hh : h < 10 ^ L) (hx : x < 10 ^ L)
    (k1 : w.cell? p1 = some (.string ⟨(dd L l).toArray⟩)) (k2 : w.cell? p2 = some (.int .i64 (cfr ends))) (k3 : w.cell? p3 = some (.string ⟨(dd L h).toArray⟩)) (k4 : w.cell? p4 = some (.int .i64 (cto ends))) :
    Calls Tryz.prog 126 #[.string ⟨(dd L x).toArray⟩, .pointer (some p1), .pointer (some p2), .pointer (some p3), .pointer (some p4)] w fun e w' => e = .returned (.bool (win ends l h x)) ∧ Drawn w w' := by
  have e := within_raw ⟨(dd L x).toArray⟩ ⟨(dd L l).toArray⟩ ⟨(dd L h).toArray⟩ (cmp x l) (cmp x h) (cfr ends) (cto ends) p1 p2 p3 p4 w (fun w => comp_dd L x l hx hl w) (fun w => comp_dd L x h hx hh w) k1 k2 k3 k4
  rw [win_cmp] at e
  exact e
end Go.Proofs.YtfddokfnplehkaaGreatDoor.Sh

/- Layer 3: fewest. -/
set_option linter.unusedSimpArgs false
set_option linter.unusedVariables false
namespace Go.Proofs.YtfddokfnplehkaaGreatDoor.Sh
open Go.RowKit Go.Proofs.YtfddokfnplehkaaGreatDoor.Dig Go.Proofs.YtfddokfnplehkaaGreatDoor.W Go.Proofs.YtfddokfnplehkaaGreatDoor.Nat Go.Proofs.YtfddokfnplehkaaGreatDoor.Wh Go.Proofs.YtfddokfnplehkaaGreatDoor.Td Go.Proofs.YtfddokfnplehkaaGreatDoor.Bu Go.Proofs.YtfddokfnplehkaaGreatDoor.Tx Go.Proofs.YtfddokfnplehkaaGreatDoor.Sp

theorem rep48 (x : Int) (k : Nat) (h : x = (k : Nat)) (hk : k ≤ 65536) (w : World) :
    Calls Tryz.prog 81 #[.string ⟨#[48]⟩, .int .i64 x] w fun e w' => e = .returned (.string ⟨(List.replicate k 48).toArray⟩) ∧ Below w.heap.size w w' := by
  subst h
  have e := Tryz.strings_Repeat ⟨#[48]⟩ k w (by omega) (by show 1 * _ ≤ _; omega)
  have e2 : Lib.repeatL (⟨#[48]⟩ : ByteArray).data.toList k = List.replicate k 48 := repeatL_one _
  rw [e2] at e
  exact e
/-- what fewest holds on to -/
structure Fw (W : World) (g : Nat) (L l h : Nat) (ends : Bool) : Prop where
  k1 : W.cell? ⟨g, 0, none⟩ = some (.string ⟨(dd L l).toArray⟩)
  k2 : W.cell? ⟨g + 1 + 1, 0, none⟩ = some (.int .i64 (cfr ends))
  k3 : W.cell? ⟨g + 1, 0, none⟩ = some (.string ⟨(dd L h).toArray⟩)
  k4 : W.cell? ⟨g + 1 + 1 + 1, 0, none⟩ = some (.int .i64 (cto ends))
theorem Fw.below {W W' : World} {g L l h : Nat} {ends : Bool} (H : Fw W g L l h ends) (b : Below W.heap.size W W') : Fw W' g L l h ends :=
  ⟨cell_keep b H.k1, cell_keep b H.k2, cell_keep b H.k3, cell_keep b H.k4⟩
/-- the texts that one round makes -/
structure Rd (L n k m : Nat) (S N : ByteArray) : Prop where
  hS : S = ⟨(dd L m).toArray⟩
  hN : N = ⟨(List.replicate (k + 1) 48).toArray⟩
  e : n + (k + 1) = L
theorem Rd.below {L n k m : Nat} {S N : ByteArray} (H : Rd L n k m S N) : S.extract 0 n ++ N = ⟨(dd L (m / 10 ^ (k + 1) * 10 ^ (k + 1))).toArray⟩ := by
  obtain ⟨rfl, rfl, rfl⟩ := H
  rw [← below_dd, Lib.extract_upto]
  apply ByteArray.ext
  simp
theorem Rd.head {L n k m : Nat} {S N : ByteArray} (H : Rd L n k m S N) : S.extract 0 n = ⟨(dd n (m / 10 ^ (k + 1))).toArray⟩ := by
  obtain ⟨rfl, rfl, rfl⟩ := H
  rw [← dd_take, Lib.extract_upto]
theorem Rd.above {L n k m : Nat} {S N : ByteArray} (H : Rd L n k m S N) : (⟨(dd n (m / 10 ^ (k + 1) + 1)).toArray⟩ : ByteArray) ++ N = ⟨(dd L (m / 10 ^ (k + 1) * 10 ^ (k + 1) + 10 ^ (k + 1))).toArray⟩ := by
  obtain ⟨rfl, rfl, rfl⟩ := H
  rw [← above_dd]
  apply ByteArray.ext
  simp
theorem Rd.tail {L n k m : Nat} {S N : ByteArray} (H : Rd L n k m S N) : S.extract n S.size = ⟨((dd (n + (k + 1)) m).drop n).toArray⟩ := by
  obtain ⟨rfl, rfl, rfl⟩ := H
  rw [Lib.extract_from]
theorem Rd.half {L n k m : Nat} {S N : ByteArray} (H : Rd L n k m S N) : (⟨#[53]⟩ : ByteArray) ++ N.extract 1 N.size = ⟨(53 :: List.replicate k 48).toArray⟩ := by
  obtain ⟨rfl, rfl, rfl⟩ := H
  rw [Lib.extract_from]
  apply ByteArray.ext
  simp
theorem Rd.byte {L n k m : Nat} {S N : ByteArray} (H : Rd L n k m S N) (h0 : 1 ≤ n) (h : n - 1 < S.size) : S[n - 1].toNat % 2 = m / 10 ^ (k + 1) % 2 := by
  obtain ⟨rfl, rfl, rfl⟩ := H
  obtain ⟨j, rfl⟩ : ∃ j, n = j + 1 := ⟨n - 1, by omega⟩
  have e1 := Lib.getElem_mk (dd (j + 1 + (k + 1)) m) j h
  rw [digit_at] at e1
  injection e1 with e1
  have e2 : (db (m / 10 ^ (k + 1) % 10)).toNat % 2 = m / 10 ^ (k + 1) % 2 := by rw [digit_odd (Nat.mod_lt _ (by omega)), mod10_odd]
  rw [← e2, e1]
  rfl
/-- how the rest stands to the half of a step -/
def hc (m t : Nat) : Int := if 2 * (m % t) < t then -1 else if 2 * (m % t) = t then 0 else 1
theorem Rd.comp {L n k m : Nat} {S N : ByteArray} (H : Rd L n k m S N) (w : World) :
    Calls Tryz.prog 127 #[.string (S.extract n S.size), .string ((⟨#[53]⟩ : ByteArray) ++ N.extract 1 N.size)] w fun e w' => e = .returned (.int .i64 (hc m (10 ^ (k + 1)))) ∧ w' = w := by
  rw [H.tail, H.half]
  refine (comp_calls _ _ (hc m (10 ^ (k + 1))) ?_ w).mono fun _ _ ⟨a, b⟩ => ⟨a, b.symm⟩
  rw [half_lt, half_eq]
  unfold hc
  simp only [decide_eq_true_eq]
def upv (m t : Nat) : Bool := decide (t < 2 * (m % t)) || decide (2 * (m % t) = t) && decide (m / t % 2 = 1)
theorem hc_cases (m t : Nat) : hc m t = -1 ∧ upv m t = false ∨ hc m t = 1 ∧ upv m t = true ∨ hc m t = 0 ∧ upv m t = decide (m / t % 2 = 1) := by
  unfold hc upv
  rcases Nat.lt_trichotomy (2 * (m % t)) t with a | a | a
  · refine .inl ⟨if_pos a, ?_⟩
    simp; omega
  · refine .inr (.inr ⟨by rw [if_neg (by omega), if_pos a], ?_⟩)
    simp [a]
  · refine .inr (.inl ⟨by rw [if_neg (by omega), if_neg (by omega)], ?_⟩)
    simp [a]
theorem few_round {l m h k : Nat} {ends : Bool} {a b u : Bool} (ha : win ends l h (m / 10 ^ (k + 1) * 10 ^ (k + 1)) = a) (hb : win ends l h (m / 10 ^ (k + 1) * 10 ^ (k + 1) + 10 ^ (k + 1)) = b) (hu : upv m (10 ^ (k + 1)) = u) :
    few l m h ends (k + 1) = if b && (u || !a) then m / 10 ^ (k + 1) * 10 ^ (k + 1) + 10 ^ (k + 1) else if a then m / 10 ^ (k + 1) * 10 ^ (k + 1) else few l m h ends k := by
  rw [few]
  unfold hit
  rw [ha, hb, show (decide (10 ^ (k + 1) < 2 * (m % 10 ^ (k + 1))) || decide (2 * (m % 10 ^ (k + 1)) = 10 ^ (k + 1)) && decide (m / 10 ^ (k + 1) % 2 = 1)) = u from hu]
  split
  · rfl
  · split <;> rfl
theorem fw4 (w : World) (L l h : Nat) (a b : Int) (ends : Bool) (ha : a = cfr ends) (hb : b = cto ends) (t u : TypeId) :
    Fw ((((w.alloc (.cells #[.string ⟨(dd L l).toArray⟩] t)).alloc (.cells #[.string ⟨(dd L h).toArray⟩] t)).alloc (.cells #[.int .i64 a] u)).alloc (.cells #[.int .i64 b] u)) w.heap.size L l h ends ∧
    Below w.heap.size w ((((w.alloc (.cells #[.string ⟨(dd L l).toArray⟩] t)).alloc (.cells #[.string ⟨(dd L h).toArray⟩] t)).alloc (.cells #[.int .i64 a] u)).alloc (.cells #[.int .i64 b] u)) := by
  subst ha; subst hb
  have e1 : ∀ (W : World) (o : Obj), (W.alloc o).heap.size = W.heap.size + 1 := fun W o => by simp
  have B1 := ((((Bk.start w t #[.string ⟨(dd L l).toArray⟩]).alloc (.cells #[.string ⟨(dd L h).toArray⟩] t)).alloc (.cells #[.int .i64 (cfr ends)] u)).alloc (.cells #[.int .i64 (cto ends)] u))
  have B2 := (((Bk.start (w.alloc (.cells #[.string ⟨(dd L l).toArray⟩] t)) t #[.string ⟨(dd L h).toArray⟩]).alloc (.cells #[.int .i64 (cfr ends)] u)).alloc (.cells #[.int .i64 (cto ends)] u))
  have B3 := ((Bk.start ((w.alloc (.cells #[.string ⟨(dd L l).toArray⟩] t)).alloc (.cells #[.string ⟨(dd L h).toArray⟩] t)) u #[.int .i64 (cfr ends)]).alloc (.cells #[.int .i64 (cto ends)] u))
  have B4 := (Bk.start (((w.alloc (.cells #[.string ⟨(dd L l).toArray⟩] t)).alloc (.cells #[.string ⟨(dd L h).toArray⟩] t)).alloc (.cells #[.int .i64 (cfr ends)] u)) u #[.int .i64 (cto ends)])
  rw [e1] at B2
  rw [e1, e1] at B3
  rw [e1, e1, e1] at B4
  refine ⟨⟨B1.at_ 0 rfl, B3.at_ 0 rfl, B2.at_ 0 rfl, B4.at_ 0 rfl⟩, ?_⟩
  have c1 := alloc_below w (.cells #[.string ⟨(dd L l).toArray⟩] t)
  have c2 := c1.trans ((alloc_below _ (.cells #[.string ⟨(dd L h).toArray⟩] t)).mono c1.size)
  have c3 := c2.trans ((alloc_below _ (.cells #[.int .i64 (cfr ends)] u)).mono c2.size)
  exact c3.trans ((alloc_below _ (.cells #[.int .i64 (cto ends)] u)).mono c3.size)
theorem few_le' {m D : Nat} (hm : m < 10 ^ D) (k : Nat) (hk : k + 1 ≤ D) : m / 10 ^ (k + 1) * 10 ^ (k + 1) + 10 ^ (k + 1) ≤ 10 ^ D := by
  obtain ⟨j, rfl⟩ : ∃ j, D = j + (k + 1) := ⟨D - (k + 1), by omega⟩
  rw [Nat.pow_add 10 j (k + 1)] at hm ⊢
  have h1 : m / 10 ^ (k + 1) < 10 ^ j := by rw [Nat.div_lt_iff_lt_mul (p10 _)]; exact hm
  generalize 10 ^ (k + 1) = T at *
  rw [← Nat.succ_mul]
  exact Nat.mul_le_mul_right _ h1
theorem head_lt {L n k m : Nat} (hm : m < 10 ^ (L + 1)) (e : n + (k + 1) = L + 1 + 1) (hn : 2 ≤ n) : m / 10 ^ (k + 1) + 1 < 10 ^ n := by
  obtain ⟨j, rfl⟩ : ∃ j, n = j + 1 := ⟨n - 1, by omega⟩
  rw [show L + 1 = j + (k + 1) by omega, Nat.pow_add 10 j (k + 1)] at hm
  have h1 : m / 10 ^ (k + 1) < 10 ^ j := by rw [Nat.div_lt_iff_lt_mul (p10 _)]; exact hm
  have := p10 j
  have e2 : 10 ^ (j + 1) = 10 ^ j * 10 := Nat.pow_succ ..
  generalize m / 10 ^ (k + 1) = z at *
  omega
theorem step_lt {L n k m : Nat} (hm : m < 10 ^ (L + 1)) (e : n + (k + 1) = L + 1 + 1) (hn : 2 ≤ n) : m / 10 ^ (k + 1) * 10 ^ (k + 1) < 10 ^ (L + 1 + 1) ∧ m / 10 ^ (k + 1) * 10 ^ (k + 1) + 10 ^ (k + 1) < 10 ^ (L + 1 + 1) := by
  have h1 := few_le' hm k (by omega)
  have h2 : 10 ^ (L + 1 + 1) = 10 ^ (L + 1) * 10 := Nat.pow_succ ..
  have := p10 (L + 1)
  have := p10 (k + 1)
  generalize m / 10 ^ (k + 1) * 10 ^ (k + 1) = z at *
  omega
theorem on {w W W' : World} (h : Below w.heap.size w W) (b : Below W.heap.size W W') : Below w.heap.size w W' := h.trans (b.mono h.size)
theorem cat_run (a b c : ByteArray) (h : a.size + b.size ≤ 9223372036854775807) (e : a ++ b = c) (w : World) : (Op.stringOp .add a b).run Tryz.prog w = .ok (.string c) w := by
  rw [run_string_add_sum w a b h, e]
set_option maxHeartbeats 8000000 in
set_option maxRecDepth 100000 in
theorem fewest_any (L l m h : Nat) (ends q : Bool) (hq : q = ends) (w : World) (hl : l < 10 ^ (L + 1 + 1)) (hm : m < 10 ^ (L + 1)) (hh : h < 10 ^ (L + 1 + 1)) (hL : L ≤ 60000) :
    Calls Tryz.prog 84 #[.string ⟨(dd (L + 1 + 1) l).toArray⟩, .string ⟨(dd (L + 1 + 1) m).toArray⟩, .string ⟨(dd (L + 1 + 1) h).toArray⟩, .bool ends] w fun e w' =>
      e = .returned (.string ⟨(dd (L + 1 + 1) (few l m h q L)).toArray⟩) ∧ Below w.heap.size w w' := by
  obtain ⟨S, hS⟩ : ∃ S : ByteArray, S = ⟨(dd (L + 1 + 1) m).toArray⟩ := ⟨_, rfl⟩
  have hz : S.size = L + 1 + 1 := by rw [hS]; show (dd (L + 1 + 1) m).toArray.size = _; rw [List.size_toArray, dd_len]
  rw [← hS]
  have HS := Lib.hid hS
  have HZ := Lib.hid hz
  have hS1 : S.size ≤ 65536 := by omega
  have hS2 : 2 ≤ S.size := by omega
  have HM := Lib.hid hm
  have HL := Lib.hid hl
  have HH := Lib.hid hh
  clear hS hz hm hl hh
  cases ends
  case' false =>
    obtain ⟨hF, hB⟩ := fw4 w (L + 1 + 1) l h 1 (-1) q (by subst hq; rfl) (by subst hq; rfl) 9 3
    clear hq
    go_enter Tryz.func84, Tryz.ntmps84
    go_wp2
    generalize (((w.alloc (.cells #[.string ⟨(dd (L + 1 + 1) l).toArray⟩] 9)).alloc (.cells #[.string ⟨(dd (L + 1 + 1) h).toArray⟩] 9)).alloc (.cells #[.int .i64 1] 3)).alloc (.cells #[.int .i64 (-1)] 3) = W at *
  case' true =>
    obtain ⟨hF, hB⟩ := fw4 w (L + 1 + 1) l h 0 0 q (by subst hq; rfl) (by subst hq; rfl) 9 3
    clear hq
    go_enter Tryz.func84, Tryz.ntmps84
    go_wp2
    generalize (((w.alloc (.cells #[.string ⟨(dd (L + 1 + 1) l).toArray⟩] 9)).alloc (.cells #[.string ⟨(dd (L + 1 + 1) h).toArray⟩] 9)).alloc (.cells #[.int .i64 0] 3)).alloc (.cells #[.int .i64 0] 3) = W at *
  all_goals
    go_loopw [12] (fun z wr => ∃ n k : Nat, z = .int .i64 (n : Nat) ∧ Hid (n + k = S.size) ∧ 2 ≤ n ∧ n ≤ S.size ∧ Hid (few l m h q L = few l m h q k) ∧ Below W.heap.size W wr) (fun z _ => S.size - (intOf z).toNat)
    case atStart => exact ⟨2, L, rfl, by have := HZ.out; unfold Hid; omega, Nat.le_refl _, hS2, rfl, Below.refl _ _⟩
    case round =>
      obtain ⟨n, k, rfl, HN, h2, hn, HF, hb⟩ := hrel
      cases k with
      | zero =>
        obtain rfl : n = S.size := by have := HN.out; omega
        go_wp2
        go_ret
        exact ⟨by rw [HF.out, HS.out]; rfl, hB.trans (hb.mono hB.size)⟩
      | succ k =>
        have hlt : n < S.size := by have := HN.out; omega
        obtain ⟨N, hN⟩ : ∃ N : ByteArray, N = ⟨(List.replicate (k + 1) 48).toArray⟩ := ⟨_, rfl⟩
        have hNs : 1 ≤ N.size := by rw [hN]; show 1 ≤ (List.replicate (k + 1) (48 : UInt8)).toArray.size; simp
        have hR : Rd (L + 1 + 1) n k m S N := ⟨HS.out, hN, by have := HN.out; have := HZ.out; omega⟩
        have HR := Lib.hid hR
        have H1 := Lib.hid (fun (x : Int) (hx : x = (k + 1 : Nat)) (w1 : World) => hN ▸ rep48 x (k + 1) hx (by have := HN.out; omega) w1)
        have hx : m / 10 ^ (k + 1) + 1 < 10 ^ n := head_lt HM.out hR.e h2
        obtain ⟨hx1, hx2⟩ := step_lt HM.out hR.e h2
        have HX1 := Lib.hid hx1
        have HX2 := Lib.hid hx2
        have H2 := Lib.hid (fun (w1 : World) => hR.head ▸ more_calls n (m / 10 ^ (k + 1)) w1 hx (by omega))
        have H3 := Lib.hid (fun (w1 : World) => hR.comp w1)
        have hNz : N.size = k + 1 := by rw [hN]; show (List.replicate (k + 1) (48 : UInt8)).toArray.size = _; simp
        have e1 : (S.extract 0 n).size = n := by rw [ByteArray.size_extract]; omega
        have e2 : (N.extract 1 N.size).size = k := by rw [ByteArray.size_extract]; omega
        have hk : k + 1 ≤ 65536 := by have := HN.out; omega
        obtain ⟨X1, hX1⟩ : ∃ X1 : ByteArray, X1 = ⟨(dd (L + 1 + 1) (m / 10 ^ (k + 1) * 10 ^ (k + 1))).toArray⟩ := ⟨_, rfl⟩
        obtain ⟨X2, hX2⟩ : ∃ X2 : ByteArray, X2 = ⟨(dd (L + 1 + 1) (m / 10 ^ (k + 1) * 10 ^ (k + 1) + 10 ^ (k + 1))).toArray⟩ := ⟨_, rfl⟩
        obtain ⟨HF5, hHF5⟩ : ∃ HF5 : ByteArray, HF5 = ⟨(53 :: List.replicate k 48).toArray⟩ := ⟨_, rfl⟩
        have c1 := cat_run (S.extract 0 n) N X1 (by omega) (by rw [hX1, hR.below])
        have c3 := cat_run ⟨#[53]⟩ (N.extract 1 N.size) HF5 (by rw [e2]; show 1 + _ ≤ _; omega) (by rw [hHF5, hR.half])
        obtain ⟨c, hcd⟩ : ∃ c, c = hc m (10 ^ (k + 1)) := ⟨_, rfl⟩
        have HCD := Lib.hid hcd
        rw [hR.half, ← hHF5, ← hcd] at H3
        clear hcd
        have C3 := Lib.hid c3
        have HX := Lib.hid hX1
        have HY := Lib.hid hX2
        have ab := hR.above
        clear hN hNz e1 e2 hX1 hHF5 c3
        obtain ⟨A1, hA1⟩ : ∃ A1 : ByteArray, A1 = ⟨(dd n (m / 10 ^ (k + 1) + 1)).toArray⟩ := ⟨_, rfl⟩
        rw [← hA1] at H2
        have HA1 := Lib.hid hA1
        have hAz : A1.size = n := by rw [hA1]; show (dd n _).toArray.size = _; rw [List.size_toArray, dd_len]
        have c2 := cat_run A1 N X2 (by rw [hAz]; have := HN.out; have : N.size ≤ 65536 := (by rw [hR.hN]; show (List.replicate (k + 1) (48 : UInt8)).toArray.size ≤ _; simp; omega); omega) (by rw [hA1, hX2, ab])
        have C1 := Lib.hid c1
        have C2 := Lib.hid c2
        clear hAz hX2 hR ab c1 c2
        clear hA1 hx hx1 hx2
        go_wp2_with (first
          | (go_at_call 81; (with_reducible refine (H1.out _ ?_ _).mono ?_); (have := HN.out; omega); rintro e w1 ⟨rfl, b1⟩))
        have c1 := C1.out
        have c2 := C2.out
        go_region_held3 (fun _ => True)
          (trivial)
          (first
            | (go_at_call 128; (with_reducible refine (H2.out _).mono ?_); rintro e w2 ⟨rfl, b2⟩))
        clear c1 c2
        have c3 := C3.out
        have hi1 : (1 : Int) ≤ (n : Int) := by omega
        have hi2 : (n : Int) - 1 < (S.size : Int) := by omega
        go_wp2
        go_quiet ((go_at_call 127; with_reducible exact Calls.quiet_of_same (H3.out _)))
        clear c3 C1 C2 C3 H1 H2 H3
        obtain ⟨a, ha⟩ : ∃ a, win q l h (m / 10 ^ (k + 1) * 10 ^ (k + 1)) = a := ⟨_, rfl⟩
        obtain ⟨b, hbb⟩ : ∃ b, win q l h (m / 10 ^ (k + 1) * 10 ^ (k + 1) + 10 ^ (k + 1)) = b := ⟨_, rfl⟩
        have H4 := Lib.hid (fun (w1 : World) (F : Fw w1 w.heap.size (L + 1 + 1) l h q) => ha ▸ HX.out ▸ within_calls (L + 1 + 1) l h (m / 10 ^ (k + 1) * 10 ^ (k + 1)) q ⟨w.heap.size, 0, none⟩ ⟨w.heap.size + 1 + 1, 0, none⟩ ⟨w.heap.size + 1, 0, none⟩ ⟨w.heap.size + 1 + 1 + 1, 0, none⟩ w1 HL.out HH.out HX1.out F.k1 F.k2 F.k3 F.k4)
        have H5 := Lib.hid (fun (w1 : World) (F : Fw w1 w.heap.size (L + 1 + 1) l h q) => hbb ▸ HY.out ▸ within_calls (L + 1 + 1) l h (m / 10 ^ (k + 1) * 10 ^ (k + 1) + 10 ^ (k + 1)) q ⟨w.heap.size, 0, none⟩ ⟨w.heap.size + 1 + 1, 0, none⟩ ⟨w.heap.size + 1, 0, none⟩ ⟨w.heap.size + 1 + 1 + 1, 0, none⟩ w1 HL.out HH.out HX2.out F.k1 F.k2 F.k3 F.k4)
        have F2 := Lib.hid (((((hF.below hb).below b1).below (Below.refl w1.heap.size w1).drew).below b2).below (drewN_below w2 nq))
        have HQ := Lib.hid (on (on (on (on hb b1) (Below.refl w1.heap.size w1).drew) b2) (drewN_below w2 nq))
        have HA := Lib.hid ha
        have HB := Lib.hid hbb
        clear ha hbb
        have hby := Lib.hid (HR.out.byte (by omega) (show n - 1 < S.size by omega))
        rcases hc_cases m (10 ^ (k + 1)) with ⟨g1, g2⟩ | ⟨g1, g2⟩ | ⟨g1, g2⟩
        · obtain rfl : c = -1 := HCD.out.trans g1
          have HU := Lib.hid g2
          clear g1 g2 HCD
          go_wp2_with (first
            | (go_at_call 126; (with_reducible refine (H4.out _ F2.out).mono ?_); rintro e w4 ⟨rfl, d4⟩; have F4 := Lib.hid (F2.out.below d4.below))
            | (go_at_call 126; (with_reducible refine (H5.out _ F4.out).mono ?_); rintro e w5 ⟨rfl, d5⟩; have Q5 := Lib.hid (on (on HQ.out d4.below) d5.below)))
          all_goals first
            | (have g1 : (!a) = false := (by assumption); have g2 : a = false := (by assumption); rw [g2] at g1; cases g1)
            | (have e : few l m h q L = m / 10 ^ (k + 1) * 10 ^ (k + 1) := (by rw [HF.out, few_round HA.out HB.out HU.out]; simp [*]); go_ret; exact ⟨by rw [e, ← HX.out]; rfl, on hB Q5.out⟩)
            | (have e : few l m h q L = m / 10 ^ (k + 1) * 10 ^ (k + 1) + 10 ^ (k + 1) := (by rw [HF.out, few_round HA.out HB.out HU.out]; simp [*]); go_ret; exact ⟨by rw [e, ← HY.out]; rfl, on hB Q5.out⟩)
            | (have e : few l m h q L = few l m h q k := (by rw [HF.out, few_round HA.out HB.out HU.out]; simp [*]); exact ⟨⟨n + 1, k, by go_num, by have := HN.out; unfold Hid; omega, by omega, by omega, e, Q5.out⟩, by simp [intOf]; omega⟩)
        · obtain rfl : c = 1 := HCD.out.trans g1
          have HU := Lib.hid g2
          clear g1 g2 HCD
          go_wp2_with (first
            | (go_at_call 126; (with_reducible refine (H4.out _ F2.out).mono ?_); rintro e w4 ⟨rfl, d4⟩; have F4 := Lib.hid (F2.out.below d4.below))
            | (go_at_call 126; (with_reducible refine (H5.out _ F4.out).mono ?_); rintro e w5 ⟨rfl, d5⟩; have Q5 := Lib.hid (on (on HQ.out d4.below) d5.below)))
          all_goals first
            | (have g1 : (!a) = false := (by assumption); have g2 : a = false := (by assumption); rw [g2] at g1; cases g1)
            | (have e : few l m h q L = m / 10 ^ (k + 1) * 10 ^ (k + 1) := (by rw [HF.out, few_round HA.out HB.out HU.out]; simp [*]); go_ret; exact ⟨by rw [e, ← HX.out]; rfl, on hB Q5.out⟩)
            | (have e : few l m h q L = m / 10 ^ (k + 1) * 10 ^ (k + 1) + 10 ^ (k + 1) := (by rw [HF.out, few_round HA.out HB.out HU.out]; simp [*]); go_ret; exact ⟨by rw [e, ← HY.out]; rfl, on hB Q5.out⟩)
            | (have e : few l m h q L = few l m h q k := (by rw [HF.out, few_round HA.out HB.out HU.out]; simp [*]); exact ⟨⟨n + 1, k, by go_num, by have := HN.out; unfold Hid; omega, by omega, by omega, e, Q5.out⟩, by simp [intOf]; omega⟩)
        · obtain rfl : c = 0 := HCD.out.trans g1
          rcases Nat.mod_two_eq_zero_or_one (m / 10 ^ (k + 1)) with hp | hp
          · have HU := Lib.hid (g2.trans (decide_eq_false (by omega)))
            have p0 : ((S[n - 1].toNat : Int) % 2 == 1) = false := by have := hby.out; simp; omega
            clear g1 g2 HCD hp hby
            go_wp2_with (first
              | (go_at_call 126; (with_reducible refine (H4.out _ F2.out).mono ?_); rintro e w4 ⟨rfl, d4⟩; have F4 := Lib.hid (F2.out.below d4.below))
              | (go_at_call 126; (with_reducible refine (H5.out _ F4.out).mono ?_); rintro e w5 ⟨rfl, d5⟩; have Q5 := Lib.hid (on (on HQ.out d4.below) d5.below)))
            all_goals first
              | (have g1 : (!a) = false := (by assumption); have g2 : a = false := (by assumption); rw [g2] at g1; cases g1)
              | (have e : few l m h q L = m / 10 ^ (k + 1) * 10 ^ (k + 1) := (by rw [HF.out, few_round HA.out HB.out HU.out]; simp [*]); go_ret; exact ⟨by rw [e, ← HX.out]; rfl, on hB Q5.out⟩)
              | (have e : few l m h q L = m / 10 ^ (k + 1) * 10 ^ (k + 1) + 10 ^ (k + 1) := (by rw [HF.out, few_round HA.out HB.out HU.out]; simp [*]); go_ret; exact ⟨by rw [e, ← HY.out]; rfl, on hB Q5.out⟩)
              | (have e : few l m h q L = few l m h q k := (by rw [HF.out, few_round HA.out HB.out HU.out]; simp [*]); exact ⟨⟨n + 1, k, by go_num, by have := HN.out; unfold Hid; omega, by omega, by omega, e, Q5.out⟩, by simp [intOf]; omega⟩)
          · have HU := Lib.hid (g2.trans (decide_eq_true hp))
            have p0 : ((S[n - 1].toNat : Int) % 2 == 1) = true := by have := hby.out; simp; omega
            clear g1 g2 HCD hp hby
            go_wp2_with (first
              | (go_at_call 126; (with_reducible refine (H4.out _ F2.out).mono ?_); rintro e w4 ⟨rfl, d4⟩; have F4 := Lib.hid (F2.out.below d4.below))
              | (go_at_call 126; (with_reducible refine (H5.out _ F4.out).mono ?_); rintro e w5 ⟨rfl, d5⟩; have Q5 := Lib.hid (on (on HQ.out d4.below) d5.below)))
            all_goals first
              | (have g1 : (!a) = false := (by assumption); have g2 : a = false := (by assumption); rw [g2] at g1; cases g1)
              | (have e : few l m h q L = m / 10 ^ (k + 1) * 10 ^ (k + 1) := (by rw [HF.out, few_round HA.out HB.out HU.out]; simp [*]); go_ret; exact ⟨by rw [e, ← HX.out]; rfl, on hB Q5.out⟩)
              | (have e : few l m h q L = m / 10 ^ (k + 1) * 10 ^ (k + 1) + 10 ^ (k + 1) := (by rw [HF.out, few_round HA.out HB.out HU.out]; simp [*]); go_ret; exact ⟨by rw [e, ← HY.out]; rfl, on hB Q5.out⟩)
              | (have e : few l m h q L = few l m h q k := (by rw [HF.out, few_round HA.out HB.out HU.out]; simp [*]); exact ⟨⟨n + 1, k, by go_num, by have := HN.out; unfold Hid; omega, by omega, by omega, e, Q5.out⟩, by simp [intOf]; omega⟩)
theorem fewest_calls (L l m h : Nat) (ends : Bool) (w : World) (hl : l < 10 ^ (L + 1 + 1)) (hm : m < 10 ^ (L + 1)) (hh : h < 10 ^ (L + 1 + 1)) (hL : L ≤ 60000) :
    Calls Tryz.prog 84 #[.string ⟨(dd (L + 1 + 1) l).toArray⟩, .string ⟨(dd (L + 1 + 1) m).toArray⟩, .string ⟨(dd (L + 1 + 1) h).toArray⟩, .bool ends] w fun e w' =>
      e = .returned (.string ⟨(dd (L + 1 + 1) (few l m h ends L)).toArray⟩) ∧ Below w.heap.size w w' := fewest_any L l m h ends ends rfl w hl hm hh hL
end Go.Proofs.YtfddokfnplehkaaGreatDoor.Sh

/- Layer 3: the fewest digits of a float. -/
set_option linter.unusedSimpArgs false
set_option linter.unusedVariables false
namespace Go.Proofs.YtfddokfnplehkaaGreatDoor.Sh
open Go.RowKit Go.Proofs.YtfddokfnplehkaaGreatDoor.Dig Go.Proofs.YtfddokfnplehkaaGreatDoor.W Go.Proofs.YtfddokfnplehkaaGreatDoor.Nat Go.Proofs.YtfddokfnplehkaaGreatDoor.Wh Go.Proofs.YtfddokfnplehkaaGreatDoor.Td Go.Proofs.YtfddokfnplehkaaGreatDoor.Bu Go.Proofs.YtfddokfnplehkaaGreatDoor.Tx Go.Proofs.YtfddokfnplehkaaGreatDoor.Sp

/-- what of holds on to -/
structure Ko (w wx : World) (g5 : Nat) (M X : Int) (ng : Bool) : Prop where
  b2 : Bk wx w.heap.size 73 #[.int .i64 M, .int .i64 X]
  b1 : Bk wx (w.heap.size + 1) 23 #[.int .i64 0, .bool false, .string ⟨#[]⟩, .int .i64 0]
  b5 : Bk wx g5 23 #[.int .i64 0, .bool ng, .string ⟨#[]⟩, .int .i64 0]
  pw0 : Pow w
  bl : Below w.heap.size w wx
  lt : w.heap.size + 1 < g5
theorem Ko.below {w wx wy : World} {g5 : Nat} {M X : Int} {ng : Bool} (h : Ko w wx g5 M X ng) (b : Below wx.heap.size wx wy) : Ko w wy g5 M X ng :=
  ⟨h.b2.below b, h.b1.below b, h.b5.below b, h.pw0, on h.bl b, h.lt⟩
theorem Ko.pw {w wx : World} {g5 : Nat} {M X : Int} {ng : Bool} (h : Ko w wx g5 M X ng) : Pow wx := h.pw0.below h.bl
theorem Ko.far {w wx : World} {g5 : Nat} {M X : Int} {ng : Bool} (h : Ko w wx g5 M X ng) {a : Addr} (v : Value) (ha : g5 < a.block) : Ko w (wx.setCell a v) g5 M X ng :=
  ⟨h.b2.far v (by have := h.lt; omega), h.b1.far v (by have := h.lt; omega), h.b5.far v (by omega), h.pw0, h.bl.setCell (by have := h.lt; omega) v, h.lt⟩
/-- three texts, the first k of them turned -/
def ar (k : Nat) (a b c a' b' c' : ByteArray) : Array Value := #[.string (if k ≤ 0 then a else a'), .string (if k ≤ 1 then b else b'), .string (if k ≤ 2 then c else c')]
def nrv (nb : Bool) : Nat := if nb then 1 else 2
theorem idx3 (a b c : ByteArray) : (∀ w, (Instr.index 111 (.agg #[.string a, .string b, .string c]) (.int .i64 0)).run Tryz.prog w = .ok (.string a) w) ∧
    (∀ w, (Instr.index 111 (.agg #[.string a, .string b, .string c]) (.int .i64 1)).run Tryz.prog w = .ok (.string b) w) ∧
    (∀ w, (Instr.index 111 (.agg #[.string a, .string b, .string c]) (.int .i64 2)).run Tryz.prog w = .ok (.string c) w) :=
  ⟨fun _ => by kernel_rfl, fun _ => by kernel_rfl, fun _ => by kernel_rfl⟩
theorem trim_calls (S : ByteArray) (hS : S.size ≤ 9223372036854775807) (h : Lib.trimB S.data.toList 48 = []) (w : World) :
    Calls Tryz.prog 83 #[.string S, .string ⟨#[48]⟩] w fun e w' => e = .returned (.string ⟨#[]⟩) ∧ Drawn w w' := by
  have e := Tryz.strings_Trim_one S 48 (by decide) w hS
  rw [h] at e
  refine e.mono fun _ _ ⟨a, b⟩ => ⟨a, ?_⟩
  rcases b with b | b
  · rw [b]; exact Drawn.refl w
  · rw [b]; exact (Drawn.refl w).drew
theorem left_str (S T : ByteArray) (l : List UInt8) (h : Lib.trimLeftB S.data.toList 48 = l) (hT : T = ⟨l.toArray⟩) (w : World) : Calls Tryz.prog 82 #[.string S, .string ⟨#[48]⟩] w fun e w' => e = .returned (.string T) ∧ w' = w := by
  rw [hT, ← h]
  exact Tryz.strings_TrimLeft_one S 48 (by decide) w
theorem rep_str (N : ByteArray) (k : Nat) (hN : N = ⟨(List.replicate k 48).toArray⟩) (hk : k ≤ 65536) (x : Int) (w : World) (h : x = (k : Nat)) :
    Calls Tryz.prog 81 #[.string ⟨#[48]⟩, .int .i64 x] w fun e w' => e = .returned (.string N) ∧ Below w.heap.size w w' := by
  rw [hN]; exact rep48 x k h hk w
theorem keep7 {w : World} {g1 g5 ga : Nat} {ng : Bool} {t u : TypeId} {V0 V1 V2 : ByteArray} (C5 : Bk w g5 t #[.int .i64 0, .bool ng, .string ⟨#[]⟩, .int .i64 0]) (C3 : Bk w ga u #[.string V0, .string V1, .string V2]) :
    w.cell? ⟨g5, 0, none⟩ = some (.int .i64 0) ∧ w.cell? ⟨g5, 1, none⟩ = some (.bool ng) ∧ w.cell? ⟨g5, 2, none⟩ = some (.string ⟨#[]⟩) ∧ w.cell? ⟨g5, 3, none⟩ = some (.int .i64 0) ∧ w.cell? ⟨ga, 0, none⟩ = some (.string V0) ∧ w.cell? ⟨ga, 1, none⟩ = some (.string V1) ∧ w.cell? ⟨ga, 2, none⟩ = some (.string V2) :=
  ⟨C5.at_ 0 rfl, C5.at_ 1 rfl, C5.at_ 2 rfl, C5.at_ 3 rfl, C3.at_ 0 rfl, C3.at_ 1 rfl, C3.at_ 2 rfl⟩
theorem keep7s {w : World} {g1 g5 ga : Nat} {ng : Bool} {t u : TypeId} {V0 V1 V2 : ByteArray} (C5 : Bk w g5 t #[.int .i64 0, .bool ng, .string ⟨#[]⟩, .int .i64 0]) (C3 : Bk w ga u #[.string V0, .string V1, .string V2]) (h5 : g1 < g5) (ha : g5 < ga) (a b c d : Value) :
    ((((w.setCell ⟨g1, 0, none⟩ a).setCell ⟨g1, 1, none⟩ b).setCell ⟨g1, 2, none⟩ c).setCell ⟨g1, 3, none⟩ d).cell? ⟨g5, 0, none⟩ = some (.int .i64 0) ∧ ((((w.setCell ⟨g1, 0, none⟩ a).setCell ⟨g1, 1, none⟩ b).setCell ⟨g1, 2, none⟩ c).setCell ⟨g1, 3, none⟩ d).cell? ⟨g5, 1, none⟩ = some (.bool ng) ∧ ((((w.setCell ⟨g1, 0, none⟩ a).setCell ⟨g1, 1, none⟩ b).setCell ⟨g1, 2, none⟩ c).setCell ⟨g1, 3, none⟩ d).cell? ⟨g5, 2, none⟩ = some (.string ⟨#[]⟩) ∧ ((((w.setCell ⟨g1, 0, none⟩ a).setCell ⟨g1, 1, none⟩ b).setCell ⟨g1, 2, none⟩ c).setCell ⟨g1, 3, none⟩ d).cell? ⟨g5, 3, none⟩ = some (.int .i64 0) ∧ ((((w.setCell ⟨g1, 0, none⟩ a).setCell ⟨g1, 1, none⟩ b).setCell ⟨g1, 2, none⟩ c).setCell ⟨g1, 3, none⟩ d).cell? ⟨ga, 0, none⟩ = some (.string V0) ∧ ((((w.setCell ⟨g1, 0, none⟩ a).setCell ⟨g1, 1, none⟩ b).setCell ⟨g1, 2, none⟩ c).setCell ⟨g1, 3, none⟩ d).cell? ⟨ga, 1, none⟩ = some (.string V1) ∧ ((((w.setCell ⟨g1, 0, none⟩ a).setCell ⟨g1, 1, none⟩ b).setCell ⟨g1, 2, none⟩ c).setCell ⟨g1, 3, none⟩ d).cell? ⟨ga, 2, none⟩ = some (.string V2) := by
  have far : ∀ {g : Nat} {t : TypeId} {cs : Array Value}, g1 < g → Bk w g t cs → Bk ((((w.setCell ⟨g1, 0, none⟩ a).setCell ⟨g1, 1, none⟩ b).setCell ⟨g1, 2, none⟩ c).setCell ⟨g1, 3, none⟩ d) g t cs := fun hg h =>
    (((h.far (a := ⟨g1, 0, none⟩) a (by simp; omega)).far (a := ⟨g1, 1, none⟩) b (by simp; omega)).far (a := ⟨g1, 2, none⟩) c (by simp; omega)).far (a := ⟨g1, 3, none⟩) d (by simp; omega)
  exact keep7 (g1 := g1) (far h5 C5) (far (by omega) C3)
/-- the number that the fewest digits are of -/
def Fv (Z m v r : Nat) : Nat := few ((4 * m - r) * sf Z v) (4 * m * sf Z v) ((4 * m + 2) * sf Z v) (decide (m % 2 = 0)) ((Lib.decDigits (4 * m * sf Z v)).length - 1)
theorem Fv_lt {Z m v r K : Nat} (h : 4 * m * sf Z v < 10 ^ (K + 1)) (hK : (Lib.decDigits (4 * m * sf Z v)).length ≤ K + 1) : Fv Z m v r < 10 ^ (K + 1 + 1) := by
  have h1 : Fv Z m v r ≤ 10 ^ (K + 1) := few_le h _ (by omega)
  have h2 : 10 ^ (K + 1 + 1) = 10 ^ (K + 1) * 10 := Nat.pow_succ ..
  have := p10 (K + 1)
  omega
/-- the texts of the three amounts -/
structure Txs (a0 a1 a2 : Nat) (T0 T1 T2 U0 U1 U2 V0 V1 V2 N0 N1 N2 : ByteArray) (n K : Nat) : Prop where
  t0 : T0 = ⟨(Lib.decDigits a0).toArray⟩
  t1 : T1 = ⟨(Lib.decDigits a1).toArray⟩
  t2 : T2 = ⟨(Lib.decDigits a2).toArray⟩
  s0 : T0.size ≤ K
  s1 : T1.size = K
  s2 : T2.size = K + n
  hn : n ≤ 1
  hK : 1 ≤ K
  hK' : K ≤ 60000
  n0 : N0 = ⟨(List.replicate (1 + (K + n) - T0.size) 48).toArray⟩
  n1 : N1 = ⟨(List.replicate (1 + (K + n) - T1.size) 48).toArray⟩
  n2 : N2 = ⟨(List.replicate (1 + (K + n) - T2.size) 48).toArray⟩
  c0 : ∀ w, (Op.stringOp .add N0 T0).run Tryz.prog w = .ok (.string U0) w
  c1 : ∀ w, (Op.stringOp .add N1 T1).run Tryz.prog w = .ok (.string U1) w
  c2 : ∀ w, (Op.stringOp .add N2 T2).run Tryz.prog w = .ok (.string U2) w
  us0 : U0.size = 1 + (K + n)
  us1 : U1.size = 1 + (K + n)
  us2 : U2.size = 1 + (K + n)
  v0 : U0.extract n U0.size = V0
  v1 : U1.extract n U1.size = V1
  v2 : U2.extract n U2.size = V2
  w0 : V0 = ⟨(dd (K - 1 + 1 + 1) a0).toArray⟩
  w1 : V1 = ⟨(dd (K - 1 + 1 + 1) a1).toArray⟩
  w2 : V2 = ⟨(dd (K - 1 + 1 + 1) a2).toArray⟩
  l0 : a0 < 10 ^ (K - 1 + 1 + 1)
  l1 : a1 < 10 ^ (K - 1 + 1)
  l2 : a2 < 10 ^ (K - 1 + 1 + 1)
  hd : Lib.trimB (U2.extract 0 n).data.toList 48 = []
  tl : Lib.trimLeftB U1.data.toList 48 = Lib.decDigits a1
  kl : K = (Lib.decDigits a1).length
theorem size_of (l : List UInt8) : (⟨l.toArray⟩ : ByteArray).size = l.length := by show l.toArray.size = _; rw [List.size_toArray]
theorem pad_cat {a L : Nat} (h : (Lib.decDigits a).length ≤ L) : (⟨(List.replicate (L - (⟨(Lib.decDigits a).toArray⟩ : ByteArray).size) 48).toArray⟩ : ByteArray) ++ ⟨(Lib.decDigits a).toArray⟩ = ⟨(dd L a).toArray⟩ := by
  rw [size_of, ← padded h]
  apply ByteArray.ext
  simp
theorem texts {a0 a1 a2 : Nat} (h1 : 0 < a1) (h01 : a0 ≤ a1) (h12 : a1 ≤ a2) (h10 : a2 ≤ 10 * a1) (hl : (Lib.decDigits a1).length ≤ 60000) :
    ∃ T0 T1 T2 U0 U1 U2 V0 V1 V2 N0 N1 N2 n K, Txs a0 a1 a2 T0 T1 T2 U0 U1 U2 V0 V1 V2 N0 N1 N2 n K := by
  obtain ⟨K, hK⟩ : ∃ K, K = (Lib.decDigits a1).length := ⟨_, rfl⟩
  obtain ⟨n, hn, e2⟩ : ∃ n, n ≤ 1 ∧ (Lib.decDigits a2).length = K + n := by
    rcases len_ten h1 h12 h10 with e | e
    · exact ⟨0, by omega, by omega⟩
    · exact ⟨1, by omega, by omega⟩
  have m0 := dec_len_mono h01
  have K1 : 1 ≤ K := by have := dec_len_pos a1; omega
  have p0 := dec_upper a0
  have p1 := dec_upper a1
  have p2 := dec_upper a2
  rw [e2] at p2
  rw [← hK] at p1 m0
  have q0 : a0 < 10 ^ (K + 1) := Nat.lt_of_lt_of_le p0 (Nat.pow_le_pow_right (by omega) (by omega))
  have q2 : a2 < 10 ^ (K + 1) := Nat.lt_of_lt_of_le p2 (Nat.pow_le_pow_right (by omega) (by omega))
  have hx : ∀ a, (⟨(dd (1 + (K + n)) a).toArray⟩ : ByteArray).extract n (⟨(dd (1 + (K + n)) a).toArray⟩ : ByteArray).size = ⟨(dd (K - 1 + 1 + 1) a).toArray⟩ := fun a => by
    rw [Lib.extract_from, show 1 + (K + n) = n + (K - 1 + 1 + 1) by omega]
    show (⟨((dd (n + (K - 1 + 1 + 1)) a).drop n).toArray⟩ : ByteArray) = _
    rw [dd_drop]
  have us : ∀ a, (⟨(dd (1 + (K + n)) a).toArray⟩ : ByteArray).size = 1 + (K + n) := fun a => by rw [size_of, dd_len]
  have cc : ∀ a, (Lib.decDigits a).length ≤ 1 + (K + n) → ∀ w, (Op.stringOp .add ⟨(List.replicate (1 + (K + n) - (⟨(Lib.decDigits a).toArray⟩ : ByteArray).size) 48).toArray⟩ ⟨(Lib.decDigits a).toArray⟩).run Tryz.prog w = .ok (.string ⟨(dd (1 + (K + n)) a).toArray⟩) w := fun a h w =>
    cat_run _ _ _ (by rw [size_of, size_of, List.length_replicate]; omega) (pad_cat h) w
  refine ⟨_, _, _, _, _, _, _, _, _, _, _, _, n, K, ⟨rfl, rfl, rfl, by rw [size_of]; exact m0, by rw [size_of]; exact hK.symm, by rw [size_of]; exact e2, hn, K1, by omega, rfl, rfl, rfl,
    cc a0 (by omega), cc a1 (by omega), cc a2 (by omega), us a0, us a1, us a2, hx a0, hx a1, hx a2, rfl, rfl, rfl, ?_, ?_, ?_, ?_, ?_, hK⟩⟩
  · rw [show K - 1 + 1 + 1 = K + 1 by omega]; exact q0
  · rw [show K - 1 + 1 = K by omega]; exact p1
  · rw [show K - 1 + 1 + 1 = K + 1 by omega]; exact q2
  · rw [Lib.extract_upto]
    show Lib.trimB ((dd (1 + (K + n)) a2).take n) 48 = []
    rcases Nat.eq_zero_or_pos n with h | h
    · subst h; rw [List.take_zero]; rfl
    · obtain rfl : n = 1 := by omega
      rw [(dd_behead p2).2]
      rfl
  · have e := strip_dd (show a1 < 10 ^ (1 + (K + n)) from Nat.lt_of_lt_of_le p1 (Nat.pow_le_pow_right (by omega) (by omega)))
    rw [if_neg (by omega)] at e
    exact e
set_option maxHeartbeats 8000000 in
set_option maxRecDepth 100000 in
theorem of_fin_w {bits m v : Nat} {ng nb : Bool} (w : World) (hp : Pow w) (hm : m < 2 * 4503599627370496) (h0 : 0 < m) (hv : v ≤ 2046) (hnb : nb = (decide (m = 4503599627370496) && decide (0 < v)))
    (HA : ∀ w, Calls Tryz.prog 76 #[.agg #[.int .i64 52, .int .i64 11], .int .u64 (bits : Nat)] w fun e w' =>
      e = .returned (.tuple #[.agg #[.int .i64 0, .bool ng, .string ⟨#[]⟩, .int .i64 0], .int .u64 (m : Nat), .int .i64 ((v : Int) - 1074)]) ∧ Below w.heap.size w w') :
    Calls Tryz.prog 52 #[.agg #[.int .i64 52, .int .i64 11], .int .u64 (bits : Nat)] w fun e w' =>
      e = .returned (.agg (dec 0 ng (cd (Fv 1076 m v (nrv nb))) (ce (Fv 1076 m v (nrv nb)) ((un 1076 v : Nat) - (1076 : Nat))))) ∧ Below w.heap.size w w' := by
  have HA' := Lib.hid HA
  have HNB := Lib.hid hnb
  have hr0 : 0 < nrv nb ∧ nrv nb ≤ 2 := by cases nb <;> decide
  have sp := sf_pos 1076 v
  have hlen := dig_len (m := 4 * m) (Z := 1076) (w := v) (by unfold U; omega) (by omega) (by omega)
  obtain ⟨T0, T1, T2, U0, U1, U2, V0, V1, V2, N0, N1, N2, n, K, HT⟩ := texts (a0 := (4 * m - nrv nb) * sf 1076 v) (a1 := 4 * m * sf 1076 v) (a2 := (4 * m + 2) * sf 1076 v) (Nat.mul_pos (by omega) sp) (Nat.mul_le_mul_right _ (by omega)) (Nat.mul_le_mul_right _ (by omega)) (by rw [← Nat.mul_assoc]; exact Nat.mul_le_mul_right _ (by omega)) (by omega)
  have HTX := Lib.hid HT
  obtain ⟨E, hE⟩ : ∃ E : Int, E = ((un 1076 v : Nat) : Int) - ((1076 : Nat) : Int) := ⟨_, rfl⟩
  have hE1 : -1076 ≤ E ∧ E ≤ 4096 := by rw [hE]; unfold un; split <;> omega
  rw [← hE]
  have dg : ∀ (a : Nat) (T : ByteArray) (x e : Int) (w1 : World), a < U → T = ⟨(Lib.decDigits (a * sf 1076 v)).toArray⟩ → x = (a : Nat) → e = (v : Int) - 1076 → Pow w1 →
      Calls Tryz.prog 77 #[.int .u64 x, .int .i64 e] w1 fun e w' => e = .returned (.tuple #[.string T, .int .i64 E]) ∧ Below w1.heap.size w1 w' := fun a T x e w1 ha hT hx he hp => by
    rw [hT, hE]
    exact digits_at a 1076 v w1 ha hx he (by omega) (by omega) hp
  have D0 := Lib.hid (fun x e w1 hx he hp => dg (4 * m - nrv nb) T0 x e w1 (by unfold U; omega) HT.t0 hx he hp)
  have D1 := Lib.hid (fun x e w1 hx he hp => dg (4 * m) T1 x e w1 (by unfold U; omega) HT.t1 hx he hp)
  have D2 := Lib.hid (fun x e w1 hx he hp => dg (4 * m + 2) T2 x e w1 (by unfold U; omega) HT.t2 hx he hp)
  have hlt := Fv_lt (r := nrv nb) HT.l1 (by have := HT.kl; omega)
  have HF := Lib.hid (fewest_calls (K - 1) ((4 * m - nrv nb) * sf 1076 v) (4 * m * sf 1076 v) ((4 * m + 2) * sf 1076 v) (decide (m % 2 = 0)) · HT.l0 HT.l1 HT.l2 (by have := HT.hK'; omega))
  rw [← HT.w0, ← HT.w1, ← HT.w2, show few ((4 * m - nrv nb) * sf 1076 v) (4 * m * sf 1076 v) ((4 * m + 2) * sf 1076 v) (decide (m % 2 = 0)) (K - 1) = Fv 1076 m v (nrv nb) by rw [HT.kl]; rfl] at HF
  generalize Fv 1076 m v (nrv nb) = F at *
  have hM : ∀ w1 : World, Calls Tryz.prog 78 #[.agg #[.int .i64 0, .bool ng, .string ⟨#[]⟩, .int .i64 0], .string ⟨(dd (K - 1 + 1 + 1) F).toArray⟩, .int .i64 E] w1 fun e w' => e = .returned (.agg #[.int .i64 0, .bool ng, .string ⟨(cd F).toArray⟩, .int .i64 (ce F E)]) ∧ Below w1.heap.size w1 w' := fun w1 => made_calls 0 ng (K - 1 + 1 + 1) F E w1 hlt (by have := HT.hK'; omega) (by omega) (by omega)
  have HM := Lib.hid hM
  clear dg hlt hlen sp hE hM
  have e0 : ((m : Int) == 0) = false := by simp; omega
  have e0' : (m == 0) = false := by simp; omega
  clear HA hnb
  obtain ⟨B1, B2, bl⟩ := blk_two w #[.int .i64 52, .int .i64 11] #[.int .i64 0, .bool false, .string ⟨#[]⟩, .int .i64 0] 73 23
  have HP := Lib.hid hp
  have HB1 := Lib.hid B1
  have HB2 := Lib.hid B2
  have HB := Lib.hid bl
  clear B1 B2 bl hp
  go_enter Tryz.func52, Tryz.ntmps52
  go_upto_region 2 with (first
    | (go_at_call 76; (with_reducible refine (HA'.out _).mono ?_); rintro e w1 ⟨rfl, b1⟩))
  have C1 := (HB1.out.below b1).alloc (.cells #[.int .i64 0, .bool ng, .string ⟨#[]⟩, .int .i64 0] 23)
  have C2 := (HB2.out.below b1).alloc (.cells #[.int .i64 0, .bool ng, .string ⟨#[]⟩, .int .i64 0] 23)
  have C3 := Bk.start w1 23 #[.int .i64 0, .bool ng, .string ⟨#[]⟩, .int .i64 0]
  have bl := on (on HB.out b1) (alloc_below w1 (.cells #[.int .i64 0, .bool ng, .string ⟨#[]⟩, .int .i64 0] 23))
  have hz : w.heap.size + 1 < w1.heap.size := by have := b1.size; simp at this; omega
  have K1 : Ko w _ _ _ _ _ := ⟨C1, C2, C3, HP.out, bl, hz⟩
  clear C1 C2 C3 bl hz
  generalize w1.alloc (.cells #[.int .i64 0, .bool ng, .string ⟨#[]⟩, .int .i64 0] 23) = W at *
  generalize w1.heap.size = g5 at *
  have k0 := K1.b2.at_ 0 rfl
  have k1 := K1.b2.at_ 1 rfl
  clear HB1 HB2 HB HP HA' b1
  go_upto_region 5 with (fail)
  go_cut [39] (fun a wx => a = .bool nb ∧ Ko w wx g5 52 11 ng)
  case first =>
    have hnb := HNB.out
    clear HNB
    by_cases h1 : m = 4503599627370496
    · subst h1
      rcases Nat.eq_zero_or_pos v with h2 | h2
      · subst h2
        go_wp2_with (go_at_call 80; (with_reducible refine (least_w _).mono ?_); rintro e w2 ⟨rfl, b2⟩)
        go_meet
        exact ⟨by rw [hnb]; rfl, K1.below b2⟩
      · have hgt : (-1074 : Int) < (v : Int) - 1074 := by omega
        go_wp2_with (go_at_call 80; (with_reducible refine (least_w _).mono ?_); rintro e w2 ⟨rfl, b2⟩)
        go_meet
        exact ⟨by rw [hnb]; simp [h2], K1.below b2⟩
    · have e1 : ((m : Int) == 4503599627370496) = false := by simp; omega
      have e1' : (m == 4503599627370496) = false := by simp; omega
      go_wp2_with fail
      go_meet
      exact ⟨by rw [hnb]; simp [h1], K1⟩
  case rest =>
    obtain ⟨rfl, K2⟩ := hcut
    clear K1 k0 k1 HNB
    generalize wc = Y2 at *
    go_upto_if 39 with (fail)
    go_cut [8] (fun a wy => a = .int .u64 (nrv nb : Nat) ∧ Y2 = wy)
    case first =>
      cases nb
      · go_wp2_with fail
        go_meet
        exact ⟨rfl, rfl⟩
      · go_wp2_with fail
        go_meet
        exact ⟨rfl, rfl⟩
    case rest =>
      obtain ⟨rfl, rfl⟩ := hcut
      have hr := hr0.2
      have hr1 := hr0.1
      clear hr0
      generalize nrv nb = r at *
      have bl2 := blk_two Y2 #[.string ⟨#[]⟩, .string ⟨#[]⟩, .string ⟨#[]⟩] #[.int .u64 (4 * (m : Int) - (r : Int)), .int .u64 (4 * (m : Int)), .int .u64 (4 * (m : Int) + 2)] 111 24
      have BL2 := Lib.hid bl2
      clear bl2
      go_wp2
      obtain ⟨B3, B4, bl3⟩ := BL2.out
      have K3 := K2.below bl3
      have hz : g5 < Y2.heap.size := K2.b5.lt
      clear BL2 K2 bl3
      generalize (Y2.alloc (.cells #[.string ⟨#[]⟩, .string ⟨#[]⟩, .string ⟨#[]⟩] 111)).alloc (.cells #[.int .u64 (4 * (m : Int) - (r : Int)), .int .u64 (4 * (m : Int)), .int .u64 (4 * (m : Int) + 2)] 24) = Y3 at *
      generalize Y2.heap.size = ga at *
      go_loopw [10, 51] (fun x z wr => ∃ k : Nat, k ≤ 3 ∧ z = .int .i64 (k : Nat) ∧ x = .int .i64 (if k = 0 then 0 else E) ∧ Bk wr ga 111 (ar k ⟨#[]⟩ ⟨#[]⟩ ⟨#[]⟩ T0 T1 T2) ∧ Bk wr (ga + 1) 24 #[.int .u64 (4 * (m : Int) - (r : Int)), .int .u64 (4 * (m : Int)), .int .u64 (4 * (m : Int) + 2)] ∧ Ko w wr g5 52 11 ng) (fun _ z _ => 3 - (intOf z).toNat)
      case atStart => exact ⟨0, by omega, rfl, rfl, B3, B4, K3⟩
      case round =>
        clear B3 B4 K3
        obtain ⟨k, hk, rfl, rfl, B3, B4, K3⟩ := hrel
        rcases (show k = 0 ∨ k = 1 ∨ k = 2 ∨ 3 ≤ k by omega) with rfl | rfl | rfl | h3
        · have q4 := B4.at_ 0 rfl
          go_wp2_with (go_at_call 77; (with_reducible refine (D0.out _ _ _ ?_ ?_ K3.pw).mono ?_); (omega); (omega); rintro e w2 ⟨rfl, b2⟩; have f2 := (B3.below b2).fr 0; have q2 := (B3.below b2).at_ 0 rfl)
          go_roundw
          case rel => exact ⟨1, by omega, rfl, rfl, ((B3.below b2).set 0 (.string T0)), (B4.below b2).far _ (by simp), (K3.below b2).far _ hz⟩
          case measure => simp [intOf]
        · have q4 := B4.at_ 1 rfl
          go_wp2_with (go_at_call 77; (with_reducible refine (D1.out _ _ _ ?_ ?_ K3.pw).mono ?_); (omega); (omega); rintro e w2 ⟨rfl, b2⟩; have f2 := (B3.below b2).fr 1; have q2 := (B3.below b2).at_ 1 rfl)
          go_roundw
          case rel => exact ⟨2, by omega, rfl, rfl, ((B3.below b2).set 1 (.string T1)), (B4.below b2).far _ (by simp), (K3.below b2).far _ hz⟩
          case measure => simp [intOf]
        · have q4 := B4.at_ 2 rfl
          go_wp2_with (go_at_call 77; (with_reducible refine (D2.out _ _ _ ?_ ?_ K3.pw).mono ?_); (omega); (omega); rintro e w2 ⟨rfl, b2⟩; have f2 := (B3.below b2).fr 2; have q2 := (B3.below b2).at_ 2 rfl)
          go_roundw
          case rel => exact ⟨3, by omega, rfl, rfl, ((B3.below b2).set 2 (.string T2)), (B4.below b2).far _ (by simp), (K3.below b2).far _ hz⟩
          case measure => simp [intOf]
        · replace B3 : Bk wr ga 111 (ar 3 ⟨#[]⟩ ⟨#[]⟩ ⟨#[]⟩ T0 T1 T2) := by rw [show 3 = k by omega]; exact B3
          rw [if_neg (show ¬ k = 0 by omega)]
          have q0 : wr.cell? ⟨ga, 0, none⟩ = some (.string T0) := B3.at_ 0 rfl
          have q1 : wr.cell? ⟨ga, 1, none⟩ = some (.string T1) := B3.at_ 1 rfl
          have q2 : wr.cell? ⟨ga, 2, none⟩ = some (.string T2) := B3.at_ 2 rfl
          go_wp2
          clear q0 q1 q2 B4
          generalize wr = Y4 at *
          obtain ⟨i0, i1, i2⟩ := idx3 T0 T1 T2
          have R0 := Lib.hid (rep_str N0 _ HTX.out.n0 (by have := HTX.out.hK'; have := HTX.out.hn; omega))
          have R1 := Lib.hid (rep_str N1 _ HTX.out.n1 (by have := HTX.out.hK'; have := HTX.out.hn; omega))
          have R2 := Lib.hid (rep_str N2 _ HTX.out.n2 (by have := HTX.out.hK'; have := HTX.out.hn; omega))
          have z0 : T0.size ≤ 65536 := by have := HTX.out.hK'; have := HTX.out.s0; omega
          have z1 : T1.size ≤ 65536 := by have := HTX.out.hK'; have := HTX.out.s1; omega
          have z2 : T2.size ≤ 65536 := by have := HTX.out.hK'; have := HTX.out.s2; have := HTX.out.hn; omega
          go_loopw [67] (fun z wr => ∃ k : Nat, k ≤ 3 ∧ z = .int .i64 (k : Nat) ∧ Bk wr ga 111 (ar k T0 T1 T2 U0 U1 U2) ∧ Ko w wr g5 52 11 ng) (fun z _ => 3 - (intOf z).toNat)
          case atStart => exact ⟨0, by omega, rfl, B3, K3⟩
          case round =>
            clear B3 K3
            obtain ⟨k, hk, rfl, B3, K3⟩ := hrel
            rcases (show k = 0 ∨ k = 1 ∨ k = 2 ∨ 3 ≤ k by omega) with rfl | rfl | rfl | h3
            · have q1 : wr.cell? ⟨ga, 2, none⟩ = some (.string T2) := B3.at_ 2 rfl
              have c := HTX.out.c0
              go_wp2_with (go_at_call 81; (with_reducible refine (R0.out _ _ ?_).mono ?_); (have := HTX.out.s0; have := HTX.out.s1; have := HTX.out.s2; omega); rintro e w2 ⟨rfl, b2⟩; have f2 := (B3.below b2).fr 0; have q2 := (B3.below b2).at_ 0 rfl)
              go_roundw
              case rel => exact ⟨1, by omega, rfl, ((B3.below b2).set 0 (.string U0)), (K3.below b2).far _ hz⟩
              case measure => simp [intOf]
            · have q1 : wr.cell? ⟨ga, 2, none⟩ = some (.string T2) := B3.at_ 2 rfl
              have c := HTX.out.c1
              go_wp2_with (go_at_call 81; (with_reducible refine (R1.out _ _ ?_).mono ?_); (have := HTX.out.s0; have := HTX.out.s1; have := HTX.out.s2; omega); rintro e w2 ⟨rfl, b2⟩; have f2 := (B3.below b2).fr 1; have q2 := (B3.below b2).at_ 1 rfl)
              go_roundw
              case rel => exact ⟨2, by omega, rfl, ((B3.below b2).set 1 (.string U1)), (K3.below b2).far _ hz⟩
              case measure => simp [intOf]
            · have q1 : wr.cell? ⟨ga, 2, none⟩ = some (.string T2) := B3.at_ 2 rfl
              have c := HTX.out.c2
              go_wp2_with (go_at_call 81; (with_reducible refine (R2.out _ _ ?_).mono ?_); (have := HTX.out.s0; have := HTX.out.s1; have := HTX.out.s2; omega); rintro e w2 ⟨rfl, b2⟩; have f2 := (B3.below b2).fr 2; have q2 := (B3.below b2).at_ 2 rfl)
              go_roundw
              case rel => exact ⟨3, by omega, rfl, ((B3.below b2).set 2 (.string U2)), (K3.below b2).far _ hz⟩
              case measure => simp [intOf]
            · replace B3 : Bk wr ga 111 (ar 3 T0 T1 T2 U0 U1 U2) := by rw [show 3 = k by omega]; exact B3
              clear i0 i1 i2 R0 R1 R2
              have q0 : wr.cell? ⟨ga, 0, none⟩ = some (.string U0) := B3.at_ 0 rfl
              have q1 : wr.cell? ⟨ga, 1, none⟩ = some (.string U1) := B3.at_ 1 rfl
              have q2 : wr.cell? ⟨ga, 2, none⟩ = some (.string U2) := B3.at_ 2 rfl
              go_wp2
              generalize wr = Y5 at *
              have u1 := HTX.out.us1
              have hn1 : n ≤ 1 := HTX.out.hn
              have hu2 : n ≤ U2.size := by have := HTX.out.us2; omega
              have s5 : IntKind.i64.wrap ((U1.size : Int) - (T1.size : Int)) = (n : Int) + 1 := by have := HTX.out.s1; rw [IntWalk.i64_in _ (by omega)]; omega
              have s6 : IntKind.i64.wrap ((n : Int) + 1 - 1) = (n : Int) := by rw [IntWalk.i64_in _ (by omega)]; omega
              have s7 : IntKind.i64.wrap (n : Int) = (n : Int) := IntWalk.i64_in _ (by omega)
              have HLT := Lib.hid (left_str U1 T1 _ HTX.out.tl HTX.out.t1)
              have HTR := Lib.hid (trim_calls (U2.extract 0 n) (by rw [ByteArray.size_extract]; omega) HTX.out.hd)
              clear u1
              go_quiet ((go_at_call 82; with_reducible exact Calls.quiet_of_same (HLT.out _)))
              clear s5 s6 s7
              go_wp2_with (go_at_call 83; (with_reducible refine (HTR.out _).mono ?_); rintro e w5 ⟨rfl, d5⟩; have bq := (drewN_below Y5 nq).trans (d5.below.mono (Nat.le_refl _)); have q3 := cell_keep bq q0; have q4 := cell_keep bq q1; have q5 := cell_keep bq q2)
              have bq := (drewN_below Y5 nq).trans (d5.below.mono (Nat.le_refl _))
              replace B3 := B3.below bq
              replace K3 := K3.below bq
              clear q0 q1 q2 q3 q4 q5 d5 bq HLT HTR
              obtain ⟨i0, i1, i2⟩ := idx3 U0 U1 U2
              go_loopw [101] (fun z wr => ∃ k : Nat, k ≤ 3 ∧ z = .int .i64 (k : Nat) ∧ Bk wr ga 111 (ar k U0 U1 U2 V0 V1 V2) ∧ Ko w wr g5 52 11 ng) (fun z _ => 3 - (intOf z).toNat)
              case atStart => exact ⟨0, by omega, rfl, B3, K3⟩
              case round =>
                clear B3 K3
                obtain ⟨k, hk, rfl, B3, K3⟩ := hrel
                rcases (show k = 0 ∨ k = 1 ∨ k = 2 ∨ 3 ≤ k by omega) with rfl | rfl | rfl | h3
                · have hv := HTX.out.v0
                  have hu : n ≤ U0.size := by have := HTX.out.us0; omega
                  have f2 := B3.fr 0
                  have q2 := B3.at_ 0 rfl
                  go_wp2
                  go_roundw
                  case rel => exact ⟨1, by omega, rfl, (B3.set 0 (.string V0)), K3.far _ hz⟩
                  case measure => simp [intOf]
                · have hv := HTX.out.v1
                  have hu : n ≤ U1.size := by have := HTX.out.us1; omega
                  have f2 := B3.fr 1
                  have q2 := B3.at_ 1 rfl
                  go_wp2
                  go_roundw
                  case rel => exact ⟨2, by omega, rfl, (B3.set 1 (.string V1)), K3.far _ hz⟩
                  case measure => simp [intOf]
                · have hv := HTX.out.v2
                  have hu : n ≤ U2.size := by have := HTX.out.us2; omega
                  have f2 := B3.fr 2
                  have q2 := B3.at_ 2 rfl
                  go_wp2
                  go_roundw
                  case rel => exact ⟨3, by omega, rfl, (B3.set 2 (.string V2)), K3.far _ hz⟩
                  case measure => simp [intOf]
                · replace B3 : Bk wr ga 111 (ar 3 U0 U1 U2 V0 V1 V2) := by rw [show 3 = k by omega]; exact B3
                  replace B3 : Bk wr ga 111 #[.string V0, .string V1, .string V2] := B3
                  clear i0 i1 i2
                  go_wp2
                  generalize wr = Y6 at *
                  obtain ⟨ev, hev⟩ : ∃ ev, decide (m % 2 = 0) = ev := ⟨_, rfl⟩
                  rw [hev] at HF
                  have t1 : (Int.tmod (m : Int) 2 == 0) = ev := by rw [← hev, Int.tmod_eq_emod_of_nonneg (by omega)]; rw [Bool.eq_iff_iff]; simp; omega
                  have t2 : ((m : Int) % 2 == 0) = ev := by rw [← hev]; rw [Bool.eq_iff_iff]; simp; omega
                  have kp := keep7 (g1 := w.heap.size + 1) K3.b5.drew B3.drew
                  clear hev
                  go_region_held3 (fun w => w.cell? ⟨g5, 0, none⟩ = some (.int .i64 0) ∧ w.cell? ⟨g5, 1, none⟩ = some (.bool ng) ∧ w.cell? ⟨g5, 2, none⟩ = some (.string ⟨#[]⟩) ∧ w.cell? ⟨g5, 3, none⟩ = some (.int .i64 0) ∧ w.cell? ⟨ga, 0, none⟩ = some (.string V0) ∧ w.cell? ⟨ga, 1, none⟩ = some (.string V1) ∧ w.cell? ⟨ga, 2, none⟩ = some (.string V2))
                    (first | (with_reducible exact kp) | (with_reducible exact kq) | (with_reducible exact kr) | (with_reducible exact ks))
                    (first
                      | (go_at_call 84; (with_reducible refine (HF.out _).mono ?_); rintro e w6 ⟨rfl, b6⟩; have K6 := (K3.below (Below.refl _ _).drew).below b6; have B6 := B3.drew.below b6; have kq := keep7 (g1 := w.heap.size + 1) K6.b5 B6)
                      | (go_at_call 78; (with_reducible refine (HM.out _).mono ?_); rintro e w7 ⟨rfl, b7⟩; have K7 := K6.below b7; have B7 := B6.below b7; have kr := keep7 (g1 := w.heap.size + 1) K7.b5 B7; have ks := keep7s K7.b5 B7 K7.lt hz (.int .i64 0) (.bool ng) (.string ⟨(cd F).toArray⟩) (.int .i64 (ce F E)); have f0 := K7.b1.fr 0; have f1 := K7.b1.fr 1; have f2 := K7.b1.fr 2; have f3 := K7.b1.fr 3; have j0 := K7.b1.at_ 0 rfl; have j1 := K7.b1.at_ 1 rfl; have j2 := K7.b1.at_ 2 rfl; have j3 := K7.b1.at_ 3 rfl))
                  all_goals
                    clear kp kq kr ks
                    go_wp2
                    refine bodyPost_ret (res_bk rfl _ (Bk.set4 K7.b1 (.int .i64 0) (.bool ng) (.string ⟨(cd F).toArray⟩) (.int .i64 (ce F E)) rfl) rfl Tryz.underlying23 rfl (by kernel_rfl)) rfl ⟨rfl, ?_⟩
                    have hs : w.heap.size ≤ w.heap.size + 1 := Nat.le_succ _
                    exact (((K7.bl.setCell hs _).setCell hs _).setCell hs _).setCell hs _
set_option maxHeartbeats 8000000 in
set_option maxRecDepth 100000 in
theorem of_odd_w {bits : Nat} {q x : Int} {ng : Bool} (w : World)
    (HA : ∀ w, Calls Tryz.prog 76 #[.agg #[.int .i64 52, .int .i64 11], .int .u64 (bits : Nat)] w fun e w' =>
      e = .returned (.tuple #[.agg #[.int .i64 q, .bool ng, .string ⟨#[]⟩, .int .i64 0], .int .u64 0, .int .i64 x]) ∧ Below w.heap.size w w') :
    Calls Tryz.prog 52 #[.agg #[.int .i64 52, .int .i64 11], .int .u64 (bits : Nat)] w fun e w' =>
      e = .returned (.agg (dec q ng [] 0)) ∧ Below w.heap.size w w' := by
  have HA' := Lib.hid HA
  obtain ⟨B1, B2, bl⟩ := blk_two w #[.int .i64 52, .int .i64 11] #[.int .i64 0, .bool false, .string ⟨#[]⟩, .int .i64 0] 73 23
  have HB2 := Lib.hid B2
  have HB := Lib.hid bl
  clear B1 B2 bl HA
  go_enter Tryz.func52, Tryz.ntmps52
  go_upto_region 2 with (first
    | (go_at_call 76; (with_reducible refine (HA'.out _).mono ?_); rintro e w1 ⟨rfl, b1⟩))
  have C2 := (HB2.out.below b1).alloc (.cells #[.int .i64 q, .bool ng, .string ⟨#[]⟩, .int .i64 0] 23)
  have C3 := Bk.start w1 23 #[.int .i64 q, .bool ng, .string ⟨#[]⟩, .int .i64 0]
  have bl := on (on HB.out b1) (alloc_below w1 (.cells #[.int .i64 q, .bool ng, .string ⟨#[]⟩, .int .i64 0] 23))
  generalize w1.alloc (.cells #[.int .i64 q, .bool ng, .string ⟨#[]⟩, .int .i64 0] 23) = Y at *
  generalize w1.heap.size = g5 at *
  have f0 := C2.fr 0; have f1 := C2.fr 1; have f2 := C2.fr 2; have f3 := C2.fr 3
  have j0 := C2.at_ 0 rfl; have j1 := C2.at_ 1 rfl; have j2 := C2.at_ 2 rfl; have j3 := C2.at_ 3 rfl
  have k0 := C3.at_ 0 rfl; have k1 := C3.at_ 1 rfl; have k2 := C3.at_ 2 rfl; have k3 := C3.at_ 3 rfl
  clear HB2 HB HA' b1
  go_wp2
  refine bodyPost_ret (res_bk rfl _ (Bk.set4 C2 (.int .i64 q) (.bool ng) (.string ⟨#[]⟩) (.int .i64 0) rfl) rfl Tryz.underlying23 rfl (by kernel_rfl)) rfl ⟨rfl, ?_⟩
  have hs : w.heap.size ≤ w.heap.size + 1 := Nat.le_succ _
  exact (((bl.setCell hs _).setCell hs _).setCell hs _).setCell hs _
set_option maxHeartbeats 8000000 in
set_option maxRecDepth 100000 in
theorem exact_odd_w {bits : Nat} {q : Int} {ng : Bool} (w : World) (hp : Pow w)
    (HA : ∀ w, Calls Tryz.prog 76 #[.agg #[.int .i64 52, .int .i64 11], .int .u64 (bits : Nat)] w fun e w' =>
      e = .returned (.tuple #[.agg #[.int .i64 q, .bool ng, .string ⟨#[]⟩, .int .i64 0], .int .u64 0, .int .i64 0]) ∧ Below w.heap.size w w') :
    Calls Tryz.prog 49 #[.agg #[.int .i64 52, .int .i64 11], .int .u64 (bits : Nat)] w fun e w' =>
      e = .returned (.agg (dec q ng [] 0)) ∧ Below w.heap.size w w' := by
  have HA := Lib.hid HA
  have hD : ∀ w1 : World, Pow w1 → Calls Tryz.prog 77 #[.int .u64 0, .int .i64 0] w1 fun e w' => e = .returned (.tuple #[.string ⟨(dd 1 0).toArray⟩, .int .i64 0]) ∧ Below w1.heap.size w1 w' := fun w1 h => by
    have e := digits_up 0 0 w1 (by decide) (by omega) h
    rw [show 0 * 2 ^ 0 = 0 from rfl, dec_small (show 0 < 10 by omega)] at e
    exact e
  have hM : ∀ w1 : World, Calls Tryz.prog 78 #[.agg #[.int .i64 q, .bool ng, .string ⟨#[]⟩, .int .i64 0], .string ⟨(dd 1 0).toArray⟩, .int .i64 0] w1 fun e w' => e = .returned (.agg #[.int .i64 q, .bool ng, .string ⟨#[]⟩, .int .i64 0]) ∧ Below w1.heap.size w1 w' := fun w1 => made_calls q ng 1 0 0 w1 (by decide) (by omega) (by omega) (by omega)
  have HD := Lib.hid hD
  have HM := Lib.hid hM
  obtain ⟨_, B2, bl⟩ := blk_two w #[.int .i64 52, .int .i64 11] #[.int .i64 0, .bool false, .string ⟨#[]⟩, .int .i64 0] 73 23
  have HP := Lib.hid (hp.below bl)
  have HB := Lib.hid bl
  have HB2 := Lib.hid B2
  clear hp hD hM B2 bl
  generalize (dd 1 0) = L at *
  go_enter Tryz.func49, Tryz.ntmps49
  go_wp2_with (first
    | (go_at_call 76; (with_reducible refine (HA.out _).mono ?_); rintro e w1 ⟨rfl, b1⟩)
    | (go_at_call 77; (with_reducible refine (HD.out _ ((HP.out.below b1).below (alloc_below _ _))).mono ?_); rintro e w2 ⟨rfl, b2⟩; have qq := (Bk.start w1 23 #[.int .i64 q, .bool ng, .string ⟨#[]⟩, .int .i64 0]).below b2; have q0 := qq.at_ 0 rfl; have q1 := qq.at_ 1 rfl; have q2 := qq.at_ 2 rfl; have q3 := qq.at_ 3 rfl)
    | (go_at_call 78; (with_reducible refine (HM.out _).mono ?_); rintro e w3 ⟨rfl, b3⟩; have B3 := (((HB2.out.below b1).alloc (.cells #[.int .i64 q, .bool ng, .string ⟨#[]⟩, .int .i64 0] 23)).below b2).below b3; have f0 := B3.fr 0; have f1 := B3.fr 1; have f2 := B3.fr 2; have f3 := B3.fr 3; clear q0 q1 q2 q3; have q0 := B3.at_ 0 rfl; have q1 := B3.at_ 1 rfl; have q2 := B3.at_ 2 rfl; have q3 := B3.at_ 3 rfl))
  refine bodyPost_ret (res_bk rfl _ (B3.set4 (.int .i64 q) (.bool ng) (.string ⟨#[]⟩) (.int .i64 0) rfl) rfl Tryz.underlying23 rfl (by kernel_rfl)) rfl ⟨rfl, ?_⟩
  have c4 := on (on (on (on HB.out b1) (alloc_below w1 (.cells #[.int .i64 q, .bool ng, .string ⟨#[]⟩, .int .i64 0] 23))) b2) b3
  have hs : w.heap.size ≤ w.heap.size + 1 := Nat.le_succ _
  exact (((c4.setCell hs _).setCell hs _).setCell hs _).setCell hs _
/-- a finite float that is not zero -/
theorem of_fb_w {bits b : Nat} {ng : Bool} (H : Fb 9223372036854775808 bits ng b) (h0 : 0 < b) (hx : b / 4503599627370496 < 2047) (w : World) (hp : Pow w) :
    Calls Tryz.prog 52 #[.agg #[.int .i64 52, .int .i64 11], .int .u64 (bits : Nat)] w fun e w' =>
      e = .returned (.agg (dec 0 ng (cd (fF 52 1076 b)) (ce (fF 52 1076 b) ((un 1076 (b / 2 ^ 52 - 1) : Nat) - (1076 : Nat))))) ∧ Below w.heap.size w w' := by
  have hm : am 52 b < 2 * 4503599627370496 := by have := am_lt 52 b; simpa using this
  have e := of_fin_w (m := am 52 b) (v := b / 4503599627370496 - 1) (nb := decide (am 52 b = 4503599627370496) && decide (0 < b / 4503599627370496 - 1)) w hp hm (am_pos 52 h0) (by omega) rfl (parts_fin_w H hx)
  have en : nrv (decide (am 52 b = 4503599627370496) && decide (0 < b / 4503599627370496 - 1)) = nr 52 b := by
    unfold nrv nr
    simp only [Nat.reducePow, Bool.and_eq_true, decide_eq_true_eq]
    by_cases h : 1 < b / 4503599627370496
    · simp only [h, show 0 < b / 4503599627370496 - 1 by omega]
    · simp only [h, show ¬ 0 < b / 4503599627370496 - 1 by omega]
  rw [en] at e
  exact e
set_option maxHeartbeats 8000000 in
set_option maxRecDepth 100000 in
theorem of_fin_n {bits m v : Nat} {ng nb : Bool} (w : World) (hp : Pow w) (hm : m < 2 * 8388608) (h0 : 0 < m) (hv : v ≤ 254) (hnb : nb = (decide (m = 8388608) && decide (0 < v)))
    (HA : ∀ w, Calls Tryz.prog 76 #[.agg #[.int .i64 23, .int .i64 8], .int .u64 (bits : Nat)] w fun e w' =>
      e = .returned (.tuple #[.agg #[.int .i64 0, .bool ng, .string ⟨#[]⟩, .int .i64 0], .int .u64 (m : Nat), .int .i64 ((v : Int) - 149)]) ∧ Below w.heap.size w w') :
    Calls Tryz.prog 52 #[.agg #[.int .i64 23, .int .i64 8], .int .u64 (bits : Nat)] w fun e w' =>
      e = .returned (.agg (dec 0 ng (cd (Fv 151 m v (nrv nb))) (ce (Fv 151 m v (nrv nb)) ((un 151 v : Nat) - (151 : Nat))))) ∧ Below w.heap.size w w' := by
  have HA' := Lib.hid HA
  have HNB := Lib.hid hnb
  have hr0 : 0 < nrv nb ∧ nrv nb ≤ 2 := by cases nb <;> decide
  have sp := sf_pos 151 v
  have hlen := dig_len (m := 4 * m) (Z := 151) (w := v) (by unfold U; omega) (by omega) (by omega)
  obtain ⟨T0, T1, T2, U0, U1, U2, V0, V1, V2, N0, N1, N2, n, K, HT⟩ := texts (a0 := (4 * m - nrv nb) * sf 151 v) (a1 := 4 * m * sf 151 v) (a2 := (4 * m + 2) * sf 151 v) (Nat.mul_pos (by omega) sp) (Nat.mul_le_mul_right _ (by omega)) (Nat.mul_le_mul_right _ (by omega)) (by rw [← Nat.mul_assoc]; exact Nat.mul_le_mul_right _ (by omega)) (by omega)
  have HTX := Lib.hid HT
  obtain ⟨E, hE⟩ : ∃ E : Int, E = ((un 151 v : Nat) : Int) - ((151 : Nat) : Int) := ⟨_, rfl⟩
  have hE1 : -151 ≤ E ∧ E ≤ 4096 := by rw [hE]; unfold un; split <;> omega
  rw [← hE]
  have dg : ∀ (a : Nat) (T : ByteArray) (x e : Int) (w1 : World), a < U → T = ⟨(Lib.decDigits (a * sf 151 v)).toArray⟩ → x = (a : Nat) → e = (v : Int) - 151 → Pow w1 →
      Calls Tryz.prog 77 #[.int .u64 x, .int .i64 e] w1 fun e w' => e = .returned (.tuple #[.string T, .int .i64 E]) ∧ Below w1.heap.size w1 w' := fun a T x e w1 ha hT hx he hp => by
    rw [hT, hE]
    exact digits_at a 151 v w1 ha hx he (by omega) (by omega) hp
  have D0 := Lib.hid (fun x e w1 hx he hp => dg (4 * m - nrv nb) T0 x e w1 (by unfold U; omega) HT.t0 hx he hp)
  have D1 := Lib.hid (fun x e w1 hx he hp => dg (4 * m) T1 x e w1 (by unfold U; omega) HT.t1 hx he hp)
  have D2 := Lib.hid (fun x e w1 hx he hp => dg (4 * m + 2) T2 x e w1 (by unfold U; omega) HT.t2 hx he hp)
  have hlt := Fv_lt (r := nrv nb) HT.l1 (by have := HT.kl; omega)
  have HF := Lib.hid (fewest_calls (K - 1) ((4 * m - nrv nb) * sf 151 v) (4 * m * sf 151 v) ((4 * m + 2) * sf 151 v) (decide (m % 2 = 0)) · HT.l0 HT.l1 HT.l2 (by have := HT.hK'; omega))
  rw [← HT.w0, ← HT.w1, ← HT.w2, show few ((4 * m - nrv nb) * sf 151 v) (4 * m * sf 151 v) ((4 * m + 2) * sf 151 v) (decide (m % 2 = 0)) (K - 1) = Fv 151 m v (nrv nb) by rw [HT.kl]; rfl] at HF
  generalize Fv 151 m v (nrv nb) = F at *
  have hM : ∀ w1 : World, Calls Tryz.prog 78 #[.agg #[.int .i64 0, .bool ng, .string ⟨#[]⟩, .int .i64 0], .string ⟨(dd (K - 1 + 1 + 1) F).toArray⟩, .int .i64 E] w1 fun e w' => e = .returned (.agg #[.int .i64 0, .bool ng, .string ⟨(cd F).toArray⟩, .int .i64 (ce F E)]) ∧ Below w1.heap.size w1 w' := fun w1 => made_calls 0 ng (K - 1 + 1 + 1) F E w1 hlt (by have := HT.hK'; omega) (by omega) (by omega)
  have HM := Lib.hid hM
  clear dg hlt hlen sp hE hM
  have e0 : ((m : Int) == 0) = false := by simp; omega
  have e0' : (m == 0) = false := by simp; omega
  clear HA hnb
  obtain ⟨B1, B2, bl⟩ := blk_two w #[.int .i64 23, .int .i64 8] #[.int .i64 0, .bool false, .string ⟨#[]⟩, .int .i64 0] 73 23
  have HP := Lib.hid hp
  have HB1 := Lib.hid B1
  have HB2 := Lib.hid B2
  have HB := Lib.hid bl
  clear B1 B2 bl hp
  go_enter Tryz.func52, Tryz.ntmps52
  go_upto_region 2 with (first
    | (go_at_call 76; (with_reducible refine (HA'.out _).mono ?_); rintro e w1 ⟨rfl, b1⟩))
  have C1 := (HB1.out.below b1).alloc (.cells #[.int .i64 0, .bool ng, .string ⟨#[]⟩, .int .i64 0] 23)
  have C2 := (HB2.out.below b1).alloc (.cells #[.int .i64 0, .bool ng, .string ⟨#[]⟩, .int .i64 0] 23)
  have C3 := Bk.start w1 23 #[.int .i64 0, .bool ng, .string ⟨#[]⟩, .int .i64 0]
  have bl := on (on HB.out b1) (alloc_below w1 (.cells #[.int .i64 0, .bool ng, .string ⟨#[]⟩, .int .i64 0] 23))
  have hz : w.heap.size + 1 < w1.heap.size := by have := b1.size; simp at this; omega
  have K1 : Ko w _ _ _ _ _ := ⟨C1, C2, C3, HP.out, bl, hz⟩
  clear C1 C2 C3 bl hz
  generalize w1.alloc (.cells #[.int .i64 0, .bool ng, .string ⟨#[]⟩, .int .i64 0] 23) = W at *
  generalize w1.heap.size = g5 at *
  have k0 := K1.b2.at_ 0 rfl
  have k1 := K1.b2.at_ 1 rfl
  clear HB1 HB2 HB HP HA' b1
  go_upto_region 5 with (fail)
  go_cut [39] (fun a wx => a = .bool nb ∧ Ko w wx g5 23 8 ng)
  case first =>
    have hnb := HNB.out
    clear HNB
    by_cases h1 : m = 8388608
    · subst h1
      rcases Nat.eq_zero_or_pos v with h2 | h2
      · subst h2
        go_wp2_with (go_at_call 80; (with_reducible refine (least_n _).mono ?_); rintro e w2 ⟨rfl, b2⟩)
        go_meet
        exact ⟨by rw [hnb]; rfl, K1.below b2⟩
      · have hgt : (-149 : Int) < (v : Int) - 149 := by omega
        go_wp2_with (go_at_call 80; (with_reducible refine (least_n _).mono ?_); rintro e w2 ⟨rfl, b2⟩)
        go_meet
        exact ⟨by rw [hnb]; simp [h2], K1.below b2⟩
    · have e1 : ((m : Int) == 8388608) = false := by simp; omega
      have e1' : (m == 8388608) = false := by simp; omega
      go_wp2_with fail
      go_meet
      exact ⟨by rw [hnb]; simp [h1], K1⟩
  case rest =>
    obtain ⟨rfl, K2⟩ := hcut
    clear K1 k0 k1 HNB
    generalize wc = Y2 at *
    go_upto_if 39 with (fail)
    go_cut [8] (fun a wy => a = .int .u64 (nrv nb : Nat) ∧ Y2 = wy)
    case first =>
      cases nb
      · go_wp2_with fail
        go_meet
        exact ⟨rfl, rfl⟩
      · go_wp2_with fail
        go_meet
        exact ⟨rfl, rfl⟩
    case rest =>
      obtain ⟨rfl, rfl⟩ := hcut
      have hr := hr0.2
      have hr1 := hr0.1
      clear hr0
      generalize nrv nb = r at *
      have bl2 := blk_two Y2 #[.string ⟨#[]⟩, .string ⟨#[]⟩, .string ⟨#[]⟩] #[.int .u64 (4 * (m : Int) - (r : Int)), .int .u64 (4 * (m : Int)), .int .u64 (4 * (m : Int) + 2)] 111 24
      have BL2 := Lib.hid bl2
      clear bl2
      go_wp2
      obtain ⟨B3, B4, bl3⟩ := BL2.out
      have K3 := K2.below bl3
      have hz : g5 < Y2.heap.size := K2.b5.lt
      clear BL2 K2 bl3
      generalize (Y2.alloc (.cells #[.string ⟨#[]⟩, .string ⟨#[]⟩, .string ⟨#[]⟩] 111)).alloc (.cells #[.int .u64 (4 * (m : Int) - (r : Int)), .int .u64 (4 * (m : Int)), .int .u64 (4 * (m : Int) + 2)] 24) = Y3 at *
      generalize Y2.heap.size = ga at *
      go_loopw [10, 51] (fun x z wr => ∃ k : Nat, k ≤ 3 ∧ z = .int .i64 (k : Nat) ∧ x = .int .i64 (if k = 0 then 0 else E) ∧ Bk wr ga 111 (ar k ⟨#[]⟩ ⟨#[]⟩ ⟨#[]⟩ T0 T1 T2) ∧ Bk wr (ga + 1) 24 #[.int .u64 (4 * (m : Int) - (r : Int)), .int .u64 (4 * (m : Int)), .int .u64 (4 * (m : Int) + 2)] ∧ Ko w wr g5 23 8 ng) (fun _ z _ => 3 - (intOf z).toNat)
      case atStart => exact ⟨0, by omega, rfl, rfl, B3, B4, K3⟩
      case round =>
        clear B3 B4 K3
        obtain ⟨k, hk, rfl, rfl, B3, B4, K3⟩ := hrel
        rcases (show k = 0 ∨ k = 1 ∨ k = 2 ∨ 3 ≤ k by omega) with rfl | rfl | rfl | h3
        · have q4 := B4.at_ 0 rfl
          go_wp2_with (go_at_call 77; (with_reducible refine (D0.out _ _ _ ?_ ?_ K3.pw).mono ?_); (omega); (omega); rintro e w2 ⟨rfl, b2⟩; have f2 := (B3.below b2).fr 0; have q2 := (B3.below b2).at_ 0 rfl)
          go_roundw
          case rel => exact ⟨1, by omega, rfl, rfl, ((B3.below b2).set 0 (.string T0)), (B4.below b2).far _ (by simp), (K3.below b2).far _ hz⟩
          case measure => simp [intOf]
        · have q4 := B4.at_ 1 rfl
          go_wp2_with (go_at_call 77; (with_reducible refine (D1.out _ _ _ ?_ ?_ K3.pw).mono ?_); (omega); (omega); rintro e w2 ⟨rfl, b2⟩; have f2 := (B3.below b2).fr 1; have q2 := (B3.below b2).at_ 1 rfl)
          go_roundw
          case rel => exact ⟨2, by omega, rfl, rfl, ((B3.below b2).set 1 (.string T1)), (B4.below b2).far _ (by simp), (K3.below b2).far _ hz⟩
          case measure => simp [intOf]
        · have q4 := B4.at_ 2 rfl
          go_wp2_with (go_at_call 77; (with_reducible refine (D2.out _ _ _ ?_ ?_ K3.pw).mono ?_); (omega); (omega); rintro e w2 ⟨rfl, b2⟩; have f2 := (B3.below b2).fr 2; have q2 := (B3.below b2).at_ 2 rfl)
          go_roundw
          case rel => exact ⟨3, by omega, rfl, rfl, ((B3.below b2).set 2 (.string T2)), (B4.below b2).far _ (by simp), (K3.below b2).far _ hz⟩
          case measure => simp [intOf]
        · replace B3 : Bk wr ga 111 (ar 3 ⟨#[]⟩ ⟨#[]⟩ ⟨#[]⟩ T0 T1 T2) := by rw [show 3 = k by omega]; exact B3
          rw [if_neg (show ¬ k = 0 by omega)]
          have q0 : wr.cell? ⟨ga, 0, none⟩ = some (.string T0) := B3.at_ 0 rfl
          have q1 : wr.cell? ⟨ga, 1, none⟩ = some (.string T1) := B3.at_ 1 rfl
          have q2 : wr.cell? ⟨ga, 2, none⟩ = some (.string T2) := B3.at_ 2 rfl
          go_wp2
          clear q0 q1 q2 B4
          generalize wr = Y4 at *
          obtain ⟨i0, i1, i2⟩ := idx3 T0 T1 T2
          have R0 := Lib.hid (rep_str N0 _ HTX.out.n0 (by have := HTX.out.hK'; have := HTX.out.hn; omega))
          have R1 := Lib.hid (rep_str N1 _ HTX.out.n1 (by have := HTX.out.hK'; have := HTX.out.hn; omega))
          have R2 := Lib.hid (rep_str N2 _ HTX.out.n2 (by have := HTX.out.hK'; have := HTX.out.hn; omega))
          have z0 : T0.size ≤ 65536 := by have := HTX.out.hK'; have := HTX.out.s0; omega
          have z1 : T1.size ≤ 65536 := by have := HTX.out.hK'; have := HTX.out.s1; omega
          have z2 : T2.size ≤ 65536 := by have := HTX.out.hK'; have := HTX.out.s2; have := HTX.out.hn; omega
          go_loopw [67] (fun z wr => ∃ k : Nat, k ≤ 3 ∧ z = .int .i64 (k : Nat) ∧ Bk wr ga 111 (ar k T0 T1 T2 U0 U1 U2) ∧ Ko w wr g5 23 8 ng) (fun z _ => 3 - (intOf z).toNat)
          case atStart => exact ⟨0, by omega, rfl, B3, K3⟩
          case round =>
            clear B3 K3
            obtain ⟨k, hk, rfl, B3, K3⟩ := hrel
            rcases (show k = 0 ∨ k = 1 ∨ k = 2 ∨ 3 ≤ k by omega) with rfl | rfl | rfl | h3
            · have q1 : wr.cell? ⟨ga, 2, none⟩ = some (.string T2) := B3.at_ 2 rfl
              have c := HTX.out.c0
              go_wp2_with (go_at_call 81; (with_reducible refine (R0.out _ _ ?_).mono ?_); (have := HTX.out.s0; have := HTX.out.s1; have := HTX.out.s2; omega); rintro e w2 ⟨rfl, b2⟩; have f2 := (B3.below b2).fr 0; have q2 := (B3.below b2).at_ 0 rfl)
              go_roundw
              case rel => exact ⟨1, by omega, rfl, ((B3.below b2).set 0 (.string U0)), (K3.below b2).far _ hz⟩
              case measure => simp [intOf]
            · have q1 : wr.cell? ⟨ga, 2, none⟩ = some (.string T2) := B3.at_ 2 rfl
              have c := HTX.out.c1
              go_wp2_with (go_at_call 81; (with_reducible refine (R1.out _ _ ?_).mono ?_); (have := HTX.out.s0; have := HTX.out.s1; have := HTX.out.s2; omega); rintro e w2 ⟨rfl, b2⟩; have f2 := (B3.below b2).fr 1; have q2 := (B3.below b2).at_ 1 rfl)
              go_roundw
              case rel => exact ⟨2, by omega, rfl, ((B3.below b2).set 1 (.string U1)), (K3.below b2).far _ hz⟩
              case measure => simp [intOf]
            · have q1 : wr.cell? ⟨ga, 2, none⟩ = some (.string T2) := B3.at_ 2 rfl
              have c := HTX.out.c2
              go_wp2_with (go_at_call 81; (with_reducible refine (R2.out _ _ ?_).mono ?_); (have := HTX.out.s0; have := HTX.out.s1; have := HTX.out.s2; omega); rintro e w2 ⟨rfl, b2⟩; have f2 := (B3.below b2).fr 2; have q2 := (B3.below b2).at_ 2 rfl)
              go_roundw
              case rel => exact ⟨3, by omega, rfl, ((B3.below b2).set 2 (.string U2)), (K3.below b2).far _ hz⟩
              case measure => simp [intOf]
            · replace B3 : Bk wr ga 111 (ar 3 T0 T1 T2 U0 U1 U2) := by rw [show 3 = k by omega]; exact B3
              clear i0 i1 i2 R0 R1 R2
              have q0 : wr.cell? ⟨ga, 0, none⟩ = some (.string U0) := B3.at_ 0 rfl
              have q1 : wr.cell? ⟨ga, 1, none⟩ = some (.string U1) := B3.at_ 1 rfl
              have q2 : wr.cell? ⟨ga, 2, none⟩ = some (.string U2) := B3.at_ 2 rfl
              go_wp2
              generalize wr = Y5 at *
              have u1 := HTX.out.us1
              have hn1 : n ≤ 1 := HTX.out.hn
              have hu2 : n ≤ U2.size := by have := HTX.out.us2; omega
              have s5 : IntKind.i64.wrap ((U1.size : Int) - (T1.size : Int)) = (n : Int) + 1 := by have := HTX.out.s1; rw [IntWalk.i64_in _ (by omega)]; omega
              have s6 : IntKind.i64.wrap ((n : Int) + 1 - 1) = (n : Int) := by rw [IntWalk.i64_in _ (by omega)]; omega
              have s7 : IntKind.i64.wrap (n : Int) = (n : Int) := IntWalk.i64_in _ (by omega)
              have HLT := Lib.hid (left_str U1 T1 _ HTX.out.tl HTX.out.t1)
              have HTR := Lib.hid (trim_calls (U2.extract 0 n) (by rw [ByteArray.size_extract]; omega) HTX.out.hd)
              clear u1
              go_quiet ((go_at_call 82; with_reducible exact Calls.quiet_of_same (HLT.out _)))
              clear s5 s6 s7
              go_wp2_with (go_at_call 83; (with_reducible refine (HTR.out _).mono ?_); rintro e w5 ⟨rfl, d5⟩; have bq := (drewN_below Y5 nq).trans (d5.below.mono (Nat.le_refl _)); have q3 := cell_keep bq q0; have q4 := cell_keep bq q1; have q5 := cell_keep bq q2)
              have bq := (drewN_below Y5 nq).trans (d5.below.mono (Nat.le_refl _))
              replace B3 := B3.below bq
              replace K3 := K3.below bq
              clear q0 q1 q2 q3 q4 q5 d5 bq HLT HTR
              obtain ⟨i0, i1, i2⟩ := idx3 U0 U1 U2
              go_loopw [101] (fun z wr => ∃ k : Nat, k ≤ 3 ∧ z = .int .i64 (k : Nat) ∧ Bk wr ga 111 (ar k U0 U1 U2 V0 V1 V2) ∧ Ko w wr g5 23 8 ng) (fun z _ => 3 - (intOf z).toNat)
              case atStart => exact ⟨0, by omega, rfl, B3, K3⟩
              case round =>
                clear B3 K3
                obtain ⟨k, hk, rfl, B3, K3⟩ := hrel
                rcases (show k = 0 ∨ k = 1 ∨ k = 2 ∨ 3 ≤ k by omega) with rfl | rfl | rfl | h3
                · have hv := HTX.out.v0
                  have hu : n ≤ U0.size := by have := HTX.out.us0; omega
                  have f2 := B3.fr 0
                  have q2 := B3.at_ 0 rfl
                  go_wp2
                  go_roundw
                  case rel => exact ⟨1, by omega, rfl, (B3.set 0 (.string V0)), K3.far _ hz⟩
                  case measure => simp [intOf]
                · have hv := HTX.out.v1
                  have hu : n ≤ U1.size := by have := HTX.out.us1; omega
                  have f2 := B3.fr 1
                  have q2 := B3.at_ 1 rfl
                  go_wp2
                  go_roundw
                  case rel => exact ⟨2, by omega, rfl, (B3.set 1 (.string V1)), K3.far _ hz⟩
                  case measure => simp [intOf]
                · have hv := HTX.out.v2
                  have hu : n ≤ U2.size := by have := HTX.out.us2; omega
                  have f2 := B3.fr 2
                  have q2 := B3.at_ 2 rfl
                  go_wp2
                  go_roundw
                  case rel => exact ⟨3, by omega, rfl, (B3.set 2 (.string V2)), K3.far _ hz⟩
                  case measure => simp [intOf]
                · replace B3 : Bk wr ga 111 (ar 3 U0 U1 U2 V0 V1 V2) := by rw [show 3 = k by omega]; exact B3
                  replace B3 : Bk wr ga 111 #[.string V0, .string V1, .string V2] := B3
                  clear i0 i1 i2
                  go_wp2
                  generalize wr = Y6 at *
                  obtain ⟨ev, hev⟩ : ∃ ev, decide (m % 2 = 0) = ev := ⟨_, rfl⟩
                  rw [hev] at HF
                  have t1 : (Int.tmod (m : Int) 2 == 0) = ev := by rw [← hev, Int.tmod_eq_emod_of_nonneg (by omega)]; rw [Bool.eq_iff_iff]; simp; omega
                  have t2 : ((m : Int) % 2 == 0) = ev := by rw [← hev]; rw [Bool.eq_iff_iff]; simp; omega
                  have kp := keep7 (g1 := w.heap.size + 1) K3.b5.drew B3.drew
                  clear hev
                  go_region_held3 (fun w => w.cell? ⟨g5, 0, none⟩ = some (.int .i64 0) ∧ w.cell? ⟨g5, 1, none⟩ = some (.bool ng) ∧ w.cell? ⟨g5, 2, none⟩ = some (.string ⟨#[]⟩) ∧ w.cell? ⟨g5, 3, none⟩ = some (.int .i64 0) ∧ w.cell? ⟨ga, 0, none⟩ = some (.string V0) ∧ w.cell? ⟨ga, 1, none⟩ = some (.string V1) ∧ w.cell? ⟨ga, 2, none⟩ = some (.string V2))
                    (first | (with_reducible exact kp) | (with_reducible exact kq) | (with_reducible exact kr) | (with_reducible exact ks))
                    (first
                      | (go_at_call 84; (with_reducible refine (HF.out _).mono ?_); rintro e w6 ⟨rfl, b6⟩; have K6 := (K3.below (Below.refl _ _).drew).below b6; have B6 := B3.drew.below b6; have kq := keep7 (g1 := w.heap.size + 1) K6.b5 B6)
                      | (go_at_call 78; (with_reducible refine (HM.out _).mono ?_); rintro e w7 ⟨rfl, b7⟩; have K7 := K6.below b7; have B7 := B6.below b7; have kr := keep7 (g1 := w.heap.size + 1) K7.b5 B7; have ks := keep7s K7.b5 B7 K7.lt hz (.int .i64 0) (.bool ng) (.string ⟨(cd F).toArray⟩) (.int .i64 (ce F E)); have f0 := K7.b1.fr 0; have f1 := K7.b1.fr 1; have f2 := K7.b1.fr 2; have f3 := K7.b1.fr 3; have j0 := K7.b1.at_ 0 rfl; have j1 := K7.b1.at_ 1 rfl; have j2 := K7.b1.at_ 2 rfl; have j3 := K7.b1.at_ 3 rfl))
                  all_goals
                    clear kp kq kr ks
                    go_wp2
                    refine bodyPost_ret (res_bk rfl _ (Bk.set4 K7.b1 (.int .i64 0) (.bool ng) (.string ⟨(cd F).toArray⟩) (.int .i64 (ce F E)) rfl) rfl Tryz.underlying23 rfl (by kernel_rfl)) rfl ⟨rfl, ?_⟩
                    have hs : w.heap.size ≤ w.heap.size + 1 := Nat.le_succ _
                    exact (((K7.bl.setCell hs _).setCell hs _).setCell hs _).setCell hs _
set_option maxHeartbeats 8000000 in
set_option maxRecDepth 100000 in
theorem of_odd_n {bits : Nat} {q x : Int} {ng : Bool} (w : World)
    (HA : ∀ w, Calls Tryz.prog 76 #[.agg #[.int .i64 23, .int .i64 8], .int .u64 (bits : Nat)] w fun e w' =>
      e = .returned (.tuple #[.agg #[.int .i64 q, .bool ng, .string ⟨#[]⟩, .int .i64 0], .int .u64 0, .int .i64 x]) ∧ Below w.heap.size w w') :
    Calls Tryz.prog 52 #[.agg #[.int .i64 23, .int .i64 8], .int .u64 (bits : Nat)] w fun e w' =>
      e = .returned (.agg (dec q ng [] 0)) ∧ Below w.heap.size w w' := by
  have HA' := Lib.hid HA
  obtain ⟨B1, B2, bl⟩ := blk_two w #[.int .i64 23, .int .i64 8] #[.int .i64 0, .bool false, .string ⟨#[]⟩, .int .i64 0] 73 23
  have HB2 := Lib.hid B2
  have HB := Lib.hid bl
  clear B1 B2 bl HA
  go_enter Tryz.func52, Tryz.ntmps52
  go_upto_region 2 with (first
    | (go_at_call 76; (with_reducible refine (HA'.out _).mono ?_); rintro e w1 ⟨rfl, b1⟩))
  have C2 := (HB2.out.below b1).alloc (.cells #[.int .i64 q, .bool ng, .string ⟨#[]⟩, .int .i64 0] 23)
  have C3 := Bk.start w1 23 #[.int .i64 q, .bool ng, .string ⟨#[]⟩, .int .i64 0]
  have bl := on (on HB.out b1) (alloc_below w1 (.cells #[.int .i64 q, .bool ng, .string ⟨#[]⟩, .int .i64 0] 23))
  generalize w1.alloc (.cells #[.int .i64 q, .bool ng, .string ⟨#[]⟩, .int .i64 0] 23) = Y at *
  generalize w1.heap.size = g5 at *
  have f0 := C2.fr 0; have f1 := C2.fr 1; have f2 := C2.fr 2; have f3 := C2.fr 3
  have j0 := C2.at_ 0 rfl; have j1 := C2.at_ 1 rfl; have j2 := C2.at_ 2 rfl; have j3 := C2.at_ 3 rfl
  have k0 := C3.at_ 0 rfl; have k1 := C3.at_ 1 rfl; have k2 := C3.at_ 2 rfl; have k3 := C3.at_ 3 rfl
  clear HB2 HB HA' b1
  go_wp2
  refine bodyPost_ret (res_bk rfl _ (Bk.set4 C2 (.int .i64 q) (.bool ng) (.string ⟨#[]⟩) (.int .i64 0) rfl) rfl Tryz.underlying23 rfl (by kernel_rfl)) rfl ⟨rfl, ?_⟩
  have hs : w.heap.size ≤ w.heap.size + 1 := Nat.le_succ _
  exact (((bl.setCell hs _).setCell hs _).setCell hs _).setCell hs _
set_option maxHeartbeats 8000000 in
set_option maxRecDepth 100000 in
theorem exact_odd_n {bits : Nat} {q : Int} {ng : Bool} (w : World) (hp : Pow w)
    (HA : ∀ w, Calls Tryz.prog 76 #[.agg #[.int .i64 23, .int .i64 8], .int .u64 (bits : Nat)] w fun e w' =>
      e = .returned (.tuple #[.agg #[.int .i64 q, .bool ng, .string ⟨#[]⟩, .int .i64 0], .int .u64 0, .int .i64 0]) ∧ Below w.heap.size w w') :
    Calls Tryz.prog 49 #[.agg #[.int .i64 23, .int .i64 8], .int .u64 (bits : Nat)] w fun e w' =>
      e = .returned (.agg (dec q ng [] 0)) ∧ Below w.heap.size w w' := by
  have HA := Lib.hid HA
  have hD : ∀ w1 : World, Pow w1 → Calls Tryz.prog 77 #[.int .u64 0, .int .i64 0] w1 fun e w' => e = .returned (.tuple #[.string ⟨(dd 1 0).toArray⟩, .int .i64 0]) ∧ Below w1.heap.size w1 w' := fun w1 h => by
    have e := digits_up 0 0 w1 (by decide) (by omega) h
    rw [show 0 * 2 ^ 0 = 0 from rfl, dec_small (show 0 < 10 by omega)] at e
    exact e
  have hM : ∀ w1 : World, Calls Tryz.prog 78 #[.agg #[.int .i64 q, .bool ng, .string ⟨#[]⟩, .int .i64 0], .string ⟨(dd 1 0).toArray⟩, .int .i64 0] w1 fun e w' => e = .returned (.agg #[.int .i64 q, .bool ng, .string ⟨#[]⟩, .int .i64 0]) ∧ Below w1.heap.size w1 w' := fun w1 => made_calls q ng 1 0 0 w1 (by decide) (by omega) (by omega) (by omega)
  have HD := Lib.hid hD
  have HM := Lib.hid hM
  obtain ⟨_, B2, bl⟩ := blk_two w #[.int .i64 23, .int .i64 8] #[.int .i64 0, .bool false, .string ⟨#[]⟩, .int .i64 0] 73 23
  have HP := Lib.hid (hp.below bl)
  have HB := Lib.hid bl
  have HB2 := Lib.hid B2
  clear hp hD hM B2 bl
  generalize (dd 1 0) = L at *
  go_enter Tryz.func49, Tryz.ntmps49
  go_wp2_with (first
    | (go_at_call 76; (with_reducible refine (HA.out _).mono ?_); rintro e w1 ⟨rfl, b1⟩)
    | (go_at_call 77; (with_reducible refine (HD.out _ ((HP.out.below b1).below (alloc_below _ _))).mono ?_); rintro e w2 ⟨rfl, b2⟩; have qq := (Bk.start w1 23 #[.int .i64 q, .bool ng, .string ⟨#[]⟩, .int .i64 0]).below b2; have q0 := qq.at_ 0 rfl; have q1 := qq.at_ 1 rfl; have q2 := qq.at_ 2 rfl; have q3 := qq.at_ 3 rfl)
    | (go_at_call 78; (with_reducible refine (HM.out _).mono ?_); rintro e w3 ⟨rfl, b3⟩; have B3 := (((HB2.out.below b1).alloc (.cells #[.int .i64 q, .bool ng, .string ⟨#[]⟩, .int .i64 0] 23)).below b2).below b3; have f0 := B3.fr 0; have f1 := B3.fr 1; have f2 := B3.fr 2; have f3 := B3.fr 3; clear q0 q1 q2 q3; have q0 := B3.at_ 0 rfl; have q1 := B3.at_ 1 rfl; have q2 := B3.at_ 2 rfl; have q3 := B3.at_ 3 rfl))
  refine bodyPost_ret (res_bk rfl _ (B3.set4 (.int .i64 q) (.bool ng) (.string ⟨#[]⟩) (.int .i64 0) rfl) rfl Tryz.underlying23 rfl (by kernel_rfl)) rfl ⟨rfl, ?_⟩
  have c4 := on (on (on (on HB.out b1) (alloc_below w1 (.cells #[.int .i64 q, .bool ng, .string ⟨#[]⟩, .int .i64 0] 23))) b2) b3
  have hs : w.heap.size ≤ w.heap.size + 1 := Nat.le_succ _
  exact (((c4.setCell hs _).setCell hs _).setCell hs _).setCell hs _
/-- a finite float that is not zero -/
theorem of_fb_n {bits b : Nat} {ng : Bool} (H : Fb 2147483648 bits ng b) (h0 : 0 < b) (hx : b / 8388608 < 255) (w : World) (hp : Pow w) :
    Calls Tryz.prog 52 #[.agg #[.int .i64 23, .int .i64 8], .int .u64 (bits : Nat)] w fun e w' =>
      e = .returned (.agg (dec 0 ng (cd (fF 23 151 b)) (ce (fF 23 151 b) ((un 151 (b / 2 ^ 23 - 1) : Nat) - (151 : Nat))))) ∧ Below w.heap.size w w' := by
  have hm : am 23 b < 2 * 8388608 := by have := am_lt 23 b; simpa using this
  have e := of_fin_n (m := am 23 b) (v := b / 8388608 - 1) (nb := decide (am 23 b = 8388608) && decide (0 < b / 8388608 - 1)) w hp hm (am_pos 23 h0) (by omega) rfl (parts_fin_n H hx)
  have en : nrv (decide (am 23 b = 8388608) && decide (0 < b / 8388608 - 1)) = nr 23 b := by
    unfold nrv nr
    simp only [Nat.reducePow, Bool.and_eq_true, decide_eq_true_eq]
    by_cases h : 1 < b / 8388608
    · simp only [h, show 0 < b / 8388608 - 1 by omega]
    · simp only [h, show ¬ 0 < b / 8388608 - 1 by omega]
  rw [en] at e
  exact e
end Go.Proofs.YtfddokfnplehkaaGreatDoor.Sh

/- Layer 3: Of64, Of32, Exact64, Exact32. -/
set_option linter.unusedSimpArgs false
set_option linter.unusedVariables false
namespace Go.Proofs.YtfddokfnplehkaaGreatDoor.Sh
open Go.RowKit Go.Proofs.YtfddokfnplehkaaGreatDoor.Dig Go.Proofs.YtfddokfnplehkaaGreatDoor.W Go.Proofs.YtfddokfnplehkaaGreatDoor.Nat Go.Proofs.YtfddokfnplehkaaGreatDoor.Wh Go.Proofs.YtfddokfnplehkaaGreatDoor.Td Go.Proofs.YtfddokfnplehkaaGreatDoor.Bu Go.Proofs.YtfddokfnplehkaaGreatDoor.Tx Go.Proofs.YtfddokfnplehkaaGreatDoor.Sp

/-- what Of64 says of a float's bits -/
def oV_w (bits : Nat) : Array Value :=
  if bits % 9223372036854775808 / 4503599627370496 = 2047 then (if bits % 9223372036854775808 % 4503599627370496 = 0 then dec 1 (decide (bits / 9223372036854775808 = 1)) [] 0 else dec 2 false [] 0)
  else if bits % 9223372036854775808 = 0 then dec 0 (decide (bits / 9223372036854775808 = 1)) [] 0
  else dec 0 (decide (bits / 9223372036854775808 = 1)) (cd (fF 52 1076 (bits % 9223372036854775808))) (ce (fF 52 1076 (bits % 9223372036854775808)) ((un 1076 (bits % 9223372036854775808 / 2 ^ 52 - 1) : Nat) - (1076 : Nat)))
/-- what Exact64 says -/
def eV_w (bits : Nat) : Array Value :=
  if bits % 9223372036854775808 / 4503599627370496 = 2047 then (if bits % 9223372036854775808 % 4503599627370496 = 0 then dec 1 (decide (bits / 9223372036854775808 = 1)) [] 0 else dec 2 false [] 0)
  else dec 0 (decide (bits / 9223372036854775808 = 1)) (cd (xF 52 1074 (bits % 9223372036854775808))) (ce (xF 52 1074 (bits % 9223372036854775808)) ((un 1074 (bits % 9223372036854775808 / 2 ^ 52 - 1) : Nat) - (1074 : Nat)))
theorem fb_w {bits : Nat} (hb : bits < 18446744073709551616) : Fb 9223372036854775808 bits (decide (bits / 9223372036854775808 = 1)) (bits % 9223372036854775808) := by
  refine ⟨?_, rfl⟩
  have : bits / 9223372036854775808 ≤ 1 := by omega
  by_cases h : bits / 9223372036854775808 = 1
  · simp [h]
  · rw [if_neg (by simpa using h)]; omega
theorem of_calls_w {bits : Nat} (hb : bits < 18446744073709551616) (w : World) (hp : Pow w) :
    Calls Tryz.prog 52 #[.agg #[.int .i64 52, .int .i64 11], .int .u64 (bits : Nat)] w fun e w' => e = .returned (.agg (oV_w bits)) ∧ Below w.heap.size w w' := by
  have H := fb_w hb
  have HL := H.fl_w
  unfold oV_w
  have hlt : bits % 9223372036854775808 / 4503599627370496 ≤ 2047 := by omega
  generalize bits % 9223372036854775808 = b at *
  generalize decide (bits / 9223372036854775808 = 1) = ng at *
  split
  · next h =>
    rw [h] at HL
    split
    · next h2 =>
      rw [h2] at HL
      exact of_odd_w w (parts_inf_w HL)
    · next h2 => exact of_odd_w w (parts_nan_w HL h2)
  · next h =>
    split
    · next h2 =>
      subst h2
      exact of_odd_w w (parts_sub_w HL)
    · next h2 => exact of_fb_w H (by omega) (by omega) w hp
theorem exact_calls_w {bits : Nat} (hb : bits < 18446744073709551616) (w : World) (hp : Pow w) :
    Calls Tryz.prog 49 #[.agg #[.int .i64 52, .int .i64 11], .int .u64 (bits : Nat)] w fun e w' => e = .returned (.agg (eV_w bits)) ∧ Below w.heap.size w w' := by
  have H := fb_w hb
  have HL := H.fl_w
  unfold eV_w
  have hlt : bits % 9223372036854775808 / 4503599627370496 ≤ 2047 := by omega
  generalize bits % 9223372036854775808 = b at *
  generalize decide (bits / 9223372036854775808 = 1) = ng at *
  split
  · next h =>
    rw [h] at HL
    split
    · next h2 =>
      rw [h2] at HL
      exact exact_odd_w w hp (parts_inf_w HL)
    · next h2 => exact exact_odd_w w hp (parts_nan_w HL h2)
  · next h => exact exact_fin_w H (by omega) w hp
theorem oV_four_w (bits : Nat) : ∃ c g l x, oV_w bits = #[.int .i64 c, .bool g, .string ⟨l⟩, .int .i64 x] := by
  unfold oV_w dec str
  split
  · split
    · exact ⟨_, _, _, _, rfl⟩
    · exact ⟨_, _, _, _, rfl⟩
  · split
    · exact ⟨_, _, _, _, rfl⟩
    · exact ⟨_, _, _, _, rfl⟩
theorem eV_four_w (bits : Nat) : ∃ c g l x, eV_w bits = #[.int .i64 c, .bool g, .string ⟨l⟩, .int .i64 x] := by
  unfold eV_w dec str
  split
  · split
    · exact ⟨_, _, _, _, rfl⟩
    · exact ⟨_, _, _, _, rfl⟩
  · exact ⟨_, _, _, _, rfl⟩
set_option maxHeartbeats 4000000 in
theorem Of64_calls {bits : Nat} (hb : bits < 18446744073709551616) (w : World) (hp : Pow w) :
    Calls Tryz.prog 32 #[.int .u64 (bits : Nat)] w fun e w' => e = .returned (.agg (oV_w bits)) ∧ Below w.heap.size w w' := by
  obtain ⟨c, g, l, x, e⟩ := oV_four_w bits
  rw [e]
  have b0 := alloc_below w (.cells #[.int .i64 0, .bool false, .string ⟨#[]⟩, .int .i64 0] 23)
  have HC := Lib.hid (e ▸ of_calls_w hb (w.alloc (.cells #[.int .i64 0, .bool false, .string ⟨#[]⟩, .int .i64 0] 23)) (hp.below b0))
  have HB := Lib.hid b0
  have HS := Lib.hid (Bk.start w 23 #[.int .i64 0, .bool false, .string ⟨#[]⟩, .int .i64 0])
  clear e hp b0
  go_enter Tryz.func32, Tryz.ntmps32
  go_wp2_with (go_at_call 52; (with_reducible refine HC.out.mono ?_); rintro e w1 ⟨rfl, b1⟩; have q := HS.out.below b1; have q0 := q.at_ 0 rfl; have q1 := q.at_ 1 rfl; have q2 := q.at_ 2 rfl; have q3 := q.at_ 3 rfl; have f0 := q.fr 0; have f1 := q.fr 1; have f2 := q.fr 2; have f3 := q.fr 3)
  refine bodyPost_ret (res_bk rfl _ (Bk.set4 q _ _ _ _ rfl) rfl Tryz.underlying23 rfl (by kernel_rfl)) rfl ⟨rfl, ?_⟩
  have hs : w.heap.size ≤ w.heap.size := Nat.le_refl _
  exact ((((on HB.out b1).setCell hs _).setCell hs _).setCell hs _).setCell hs _
set_option maxHeartbeats 4000000 in
theorem Exact64_calls {bits : Nat} (hb : bits < 18446744073709551616) (w : World) (hp : Pow w) :
    Calls Tryz.prog 26 #[.int .u64 (bits : Nat)] w fun e w' => e = .returned (.agg (eV_w bits)) ∧ Below w.heap.size w w' := by
  obtain ⟨c, g, l, x, e⟩ := eV_four_w bits
  rw [e]
  have b0 := alloc_below w (.cells #[.int .i64 0, .bool false, .string ⟨#[]⟩, .int .i64 0] 23)
  have HC := Lib.hid (e ▸ exact_calls_w hb (w.alloc (.cells #[.int .i64 0, .bool false, .string ⟨#[]⟩, .int .i64 0] 23)) (hp.below b0))
  have HB := Lib.hid b0
  have HS := Lib.hid (Bk.start w 23 #[.int .i64 0, .bool false, .string ⟨#[]⟩, .int .i64 0])
  clear e hp b0
  go_enter Tryz.func26, Tryz.ntmps26
  go_wp2_with (go_at_call 49; (with_reducible refine HC.out.mono ?_); rintro e w1 ⟨rfl, b1⟩; have q := HS.out.below b1; have q0 := q.at_ 0 rfl; have q1 := q.at_ 1 rfl; have q2 := q.at_ 2 rfl; have q3 := q.at_ 3 rfl; have f0 := q.fr 0; have f1 := q.fr 1; have f2 := q.fr 2; have f3 := q.fr 3)
  refine bodyPost_ret (res_bk rfl _ (Bk.set4 q _ _ _ _ rfl) rfl Tryz.underlying23 rfl (by kernel_rfl)) rfl ⟨rfl, ?_⟩
  have hs : w.heap.size ≤ w.heap.size := Nat.le_refl _
  exact ((((on HB.out b1).setCell hs _).setCell hs _).setCell hs _).setCell hs _
/-- what Of32 says of a float's bits -/
def oV_n (bits : Nat) : Array Value :=
  if bits % 2147483648 / 8388608 = 255 then (if bits % 2147483648 % 8388608 = 0 then dec 1 (decide (bits / 2147483648 = 1)) [] 0 else dec 2 false [] 0)
  else if bits % 2147483648 = 0 then dec 0 (decide (bits / 2147483648 = 1)) [] 0
  else dec 0 (decide (bits / 2147483648 = 1)) (cd (fF 23 151 (bits % 2147483648))) (ce (fF 23 151 (bits % 2147483648)) ((un 151 (bits % 2147483648 / 2 ^ 23 - 1) : Nat) - (151 : Nat)))
/-- what Exact32 says -/
def eV_n (bits : Nat) : Array Value :=
  if bits % 2147483648 / 8388608 = 255 then (if bits % 2147483648 % 8388608 = 0 then dec 1 (decide (bits / 2147483648 = 1)) [] 0 else dec 2 false [] 0)
  else dec 0 (decide (bits / 2147483648 = 1)) (cd (xF 23 149 (bits % 2147483648))) (ce (xF 23 149 (bits % 2147483648)) ((un 149 (bits % 2147483648 / 2 ^ 23 - 1) : Nat) - (149 : Nat)))
theorem fb_n {bits : Nat} (hb : bits < 4294967296) : Fb 2147483648 bits (decide (bits / 2147483648 = 1)) (bits % 2147483648) := by
  refine ⟨?_, rfl⟩
  have : bits / 2147483648 ≤ 1 := by omega
  by_cases h : bits / 2147483648 = 1
  · simp [h]
  · rw [if_neg (by simpa using h)]; omega
theorem of_calls_n {bits : Nat} (hb : bits < 4294967296) (w : World) (hp : Pow w) :
    Calls Tryz.prog 52 #[.agg #[.int .i64 23, .int .i64 8], .int .u64 (bits : Nat)] w fun e w' => e = .returned (.agg (oV_n bits)) ∧ Below w.heap.size w w' := by
  have H := fb_n hb
  have HL := H.fl_n
  unfold oV_n
  have hlt : bits % 2147483648 / 8388608 ≤ 255 := by omega
  generalize bits % 2147483648 = b at *
  generalize decide (bits / 2147483648 = 1) = ng at *
  split
  · next h =>
    rw [h] at HL
    split
    · next h2 =>
      rw [h2] at HL
      exact of_odd_n w (parts_inf_n HL)
    · next h2 => exact of_odd_n w (parts_nan_n HL h2)
  · next h =>
    split
    · next h2 =>
      subst h2
      exact of_odd_n w (parts_sub_n HL)
    · next h2 => exact of_fb_n H (by omega) (by omega) w hp
theorem exact_calls_n {bits : Nat} (hb : bits < 4294967296) (w : World) (hp : Pow w) :
    Calls Tryz.prog 49 #[.agg #[.int .i64 23, .int .i64 8], .int .u64 (bits : Nat)] w fun e w' => e = .returned (.agg (eV_n bits)) ∧ Below w.heap.size w w' := by
  have H := fb_n hb
  have HL := H.fl_n
  unfold eV_n
  have hlt : bits % 2147483648 / 8388608 ≤ 255 := by omega
  generalize bits % 2147483648 = b at *
  generalize decide (bits / 2147483648 = 1) = ng at *
  split
  · next h =>
    rw [h] at HL
    split
    · next h2 =>
      rw [h2] at HL
      exact exact_odd_n w hp (parts_inf_n HL)
    · next h2 => exact exact_odd_n w hp (parts_nan_n HL h2)
  · next h => exact exact_fin_n H (by omega) w hp
theorem oV_four_n (bits : Nat) : ∃ c g l x, oV_n bits = #[.int .i64 c, .bool g, .string ⟨l⟩, .int .i64 x] := by
  unfold oV_n dec str
  split
  · split
    · exact ⟨_, _, _, _, rfl⟩
    · exact ⟨_, _, _, _, rfl⟩
  · split
    · exact ⟨_, _, _, _, rfl⟩
    · exact ⟨_, _, _, _, rfl⟩
theorem eV_four_n (bits : Nat) : ∃ c g l x, eV_n bits = #[.int .i64 c, .bool g, .string ⟨l⟩, .int .i64 x] := by
  unfold eV_n dec str
  split
  · split
    · exact ⟨_, _, _, _, rfl⟩
    · exact ⟨_, _, _, _, rfl⟩
  · exact ⟨_, _, _, _, rfl⟩
set_option maxHeartbeats 4000000 in
theorem Of32_calls {bits : Nat} (hb : bits < 4294967296) (w : World) (hp : Pow w) :
    Calls Tryz.prog 34 #[.int .u32 (bits : Nat)] w fun e w' => e = .returned (.agg (oV_n bits)) ∧ Below w.heap.size w w' := by
  obtain ⟨c, g, l, x, e⟩ := oV_four_n bits
  rw [e]
  have b0 := alloc_below w (.cells #[.int .i64 0, .bool false, .string ⟨#[]⟩, .int .i64 0] 23)
  have HC := Lib.hid (e ▸ of_calls_n hb (w.alloc (.cells #[.int .i64 0, .bool false, .string ⟨#[]⟩, .int .i64 0] 23)) (hp.below b0))
  have HB := Lib.hid b0
  have HS := Lib.hid (Bk.start w 23 #[.int .i64 0, .bool false, .string ⟨#[]⟩, .int .i64 0])
  clear e hp b0
  go_enter Tryz.func34, Tryz.ntmps34
  go_wp2_with (go_at_call 52; (with_reducible refine HC.out.mono ?_); rintro e w1 ⟨rfl, b1⟩; have q := HS.out.below b1; have q0 := q.at_ 0 rfl; have q1 := q.at_ 1 rfl; have q2 := q.at_ 2 rfl; have q3 := q.at_ 3 rfl; have f0 := q.fr 0; have f1 := q.fr 1; have f2 := q.fr 2; have f3 := q.fr 3)
  refine bodyPost_ret (res_bk rfl _ (Bk.set4 q _ _ _ _ rfl) rfl Tryz.underlying23 rfl (by kernel_rfl)) rfl ⟨rfl, ?_⟩
  have hs : w.heap.size ≤ w.heap.size := Nat.le_refl _
  exact ((((on HB.out b1).setCell hs _).setCell hs _).setCell hs _).setCell hs _
set_option maxHeartbeats 4000000 in
theorem Exact32_calls {bits : Nat} (hb : bits < 4294967296) (w : World) (hp : Pow w) :
    Calls Tryz.prog 35 #[.int .u32 (bits : Nat)] w fun e w' => e = .returned (.agg (eV_n bits)) ∧ Below w.heap.size w w' := by
  obtain ⟨c, g, l, x, e⟩ := eV_four_n bits
  rw [e]
  have b0 := alloc_below w (.cells #[.int .i64 0, .bool false, .string ⟨#[]⟩, .int .i64 0] 23)
  have HC := Lib.hid (e ▸ exact_calls_n hb (w.alloc (.cells #[.int .i64 0, .bool false, .string ⟨#[]⟩, .int .i64 0] 23)) (hp.below b0))
  have HB := Lib.hid b0
  have HS := Lib.hid (Bk.start w 23 #[.int .i64 0, .bool false, .string ⟨#[]⟩, .int .i64 0])
  clear e hp b0
  go_enter Tryz.func35, Tryz.ntmps35
  go_wp2_with (go_at_call 49; (with_reducible refine HC.out.mono ?_); rintro e w1 ⟨rfl, b1⟩; have q := HS.out.below b1; have q0 := q.at_ 0 rfl; have q1 := q.at_ 1 rfl; have q2 := q.at_ 2 rfl; have q3 := q.at_ 3 rfl; have f0 := q.fr 0; have f1 := q.fr 1; have f2 := q.fr 2; have f3 := q.fr 3)
  refine bodyPost_ret (res_bk rfl _ (Bk.set4 q _ _ _ _ rfl) rfl Tryz.underlying23 rfl (by kernel_rfl)) rfl ⟨rfl, ?_⟩
  have hs : w.heap.size ≤ w.heap.size := Nat.le_refl _
  exact ((((on HB.out b1).setCell hs _).setCell hs _).setCell hs _).setCell hs _
end Go.Proofs.YtfddokfnplehkaaGreatDoor.Sh
