/- Layer 19, on: SignTurns, the walk at each display. -/
import Derived.Test.YtoplpoofbefjcaaDoorSgK
namespace Go.Proofs.YtoplpoofbefjcaaDoor.Sg
open Go.RowKit Go.Proofs.YtoplpoofbefjcaaDoor.Dig Go.Proofs.YtoplpoofbefjcaaDoor.W

set_option maxHeartbeats 8000000 in
set_option maxRecDepth 100000 in
theorem turns_0 (c : Int) (ng : Bool) (a b : ByteArray) (x : Int) (cm : Bool) (w : World) (ha : a.size ≤ 140737488355328) (hb : b.size ≤ 140737488355328) :
    Calls Tryd.prog 5 #[.agg #[.int .i64 c, .bool ng, .string a, .string b, .int .i64 x, .bool cm], .int .i64 0] w fun e w' => e = .returned (.bool true) ∧ Below w.heap.size w w' := by
  have H3 : Hid (signErr 0 = 0) := show _ = _ from rfl
  have hK := TK.start w c ng a b x cm
  have hB := below12 w (.cells #[.int .i64 c, .bool ng, .string a, .string b, .int .i64 x, .bool cm] 46) (.cells #[.int .i64 c, .bool !ng, .string a, .string b, .int .i64 x, .bool cm] 46)
  have HK := Lib.hid hK
  have HB := Lib.hid hB
  clear hK hB
  obtain ⟨z, hz⟩ : ∃ z, isZero c a b = z := ⟨_, rfl⟩
  have HZ := Lib.hid hz
  clear hz
  by_cases hc : c = 2
  · subst hc
    cases ng
    · simp only [Bool.not_false, Bool.not_true] at HK HB
      have H1 : Hid (signOf 2 false (isZero 2 a b) 0 = 0) := show _ = _ from by unfold signOf; simp
      have H2 : Hid (signOf 2 true (isZero 2 a b) 0 = 0) := show _ = _ from by unfold signOf; simp
      go_enter Tryd.func5, Tryd.ntmps5
      go_wp2_with (first
        | (go_at_call 17; first
            | ((with_reducible refine (of_agg _ _ a b x cm 0 (0) 0 _ ha hb H1 H3).mono ?_); rintro e w1 ⟨rfl, b1⟩; have k1 := HK.out.below b1; have q0 := k1.q0; have q1 := k1.q1; have q2 := k1.q2; have q3 := k1.q3; have q4 := k1.q4; have q5 := k1.q5)
            | ((with_reducible refine (of_agg _ _ a b x cm 0 (0) 0 _ ha hb H2 H3).mono ?_); rintro e w2 ⟨rfl, b2⟩; clear q0 q1 q2 q3 q4 q5; have k2 := k1.below b2; have p0 := k2.p0; have p1 := k2.p1))
        | (go_at_call 13; (with_reducible refine (fixed_calls _).mono ?_); rintro e w3 ⟨rfl, b3⟩))
      go_ret
      exact ⟨rfl, HB.out.trans ((b1.trans ((b2.trans (b3.mono b2.size)).mono b1.size)).mono HB.out.size)⟩
    · simp only [Bool.not_false, Bool.not_true] at HK HB
      have H1 : Hid (signOf 2 true (isZero 2 a b) 0 = 0) := show _ = _ from by unfold signOf; simp
      have H2 : Hid (signOf 2 false (isZero 2 a b) 0 = 0) := show _ = _ from by unfold signOf; simp
      go_enter Tryd.func5, Tryd.ntmps5
      go_wp2_with (first
        | (go_at_call 17; first
            | ((with_reducible refine (of_agg _ _ a b x cm 0 (0) 0 _ ha hb H1 H3).mono ?_); rintro e w1 ⟨rfl, b1⟩; have k1 := HK.out.below b1; have q0 := k1.q0; have q1 := k1.q1; have q2 := k1.q2; have q3 := k1.q3; have q4 := k1.q4; have q5 := k1.q5)
            | ((with_reducible refine (of_agg _ _ a b x cm 0 (0) 0 _ ha hb H2 H3).mono ?_); rintro e w2 ⟨rfl, b2⟩; clear q0 q1 q2 q3 q4 q5; have k2 := k1.below b2; have p0 := k2.p0; have p1 := k2.p1))
        | (go_at_call 13; (with_reducible refine (fixed_calls _).mono ?_); rintro e w3 ⟨rfl, b3⟩))
      go_ret
      exact ⟨rfl, HB.out.trans ((b1.trans ((b2.trans (b3.mono b2.size)).mono b1.size)).mono HB.out.size)⟩
  · have c0 : (c == 2) = false := by simp [hc]
    have c1 : (c != 2) = true := by simp [hc]
    have HC := Lib.hid hc
    clear hc
    cases ng
    · simp only [Bool.not_false, Bool.not_true] at HK HB
      have H1 : Hid (signOf c false (isZero c a b) 0 = 0) := show _ = _ from by unfold signOf; simp [HC.out]
      have H2 : Hid (signOf c true (isZero c a b) 0 = -1) := show _ = _ from by unfold signOf; simp [HC.out]
      go_enter Tryd.func5, Tryd.ntmps5
      go_wp2_with (first
        | (go_at_call 17; first
            | ((with_reducible refine (of_agg _ _ a b x cm 0 (0) 0 _ ha hb H1 H3).mono ?_); rintro e w1 ⟨rfl, b1⟩; have k1 := HK.out.below b1; have q0 := k1.q0; have q1 := k1.q1; have q2 := k1.q2; have q3 := k1.q3; have q4 := k1.q4; have q5 := k1.q5)
            | ((with_reducible refine (of_agg _ _ a b x cm 0 (-1) 0 _ ha hb H2 H3).mono ?_); rintro e w2 ⟨rfl, b2⟩; clear q0 q1 q2 q3 q4 q5; have k2 := k1.below b2; have p0 := k2.p0; have p1 := k2.p1))
        | (go_at_call 13; (with_reducible refine (fixed_calls _).mono ?_); rintro e w3 ⟨rfl, b3⟩))
      go_ret
      exact ⟨rfl, HB.out.trans ((b1.trans ((b2.trans (b3.mono b2.size)).mono b1.size)).mono HB.out.size)⟩
    · simp only [Bool.not_false, Bool.not_true] at HK HB
      have H1 : Hid (signOf c true (isZero c a b) 0 = -1) := show _ = _ from by unfold signOf; simp [HC.out]
      have H2 : Hid (signOf c false (isZero c a b) 0 = 0) := show _ = _ from by unfold signOf; simp [HC.out]
      go_enter Tryd.func5, Tryd.ntmps5
      go_wp2_with (first
        | (go_at_call 17; first
            | ((with_reducible refine (of_agg _ _ a b x cm 0 (-1) 0 _ ha hb H1 H3).mono ?_); rintro e w1 ⟨rfl, b1⟩; have k1 := HK.out.below b1; have q0 := k1.q0; have q1 := k1.q1; have q2 := k1.q2; have q3 := k1.q3; have q4 := k1.q4; have q5 := k1.q5)
            | ((with_reducible refine (of_agg _ _ a b x cm 0 (0) 0 _ ha hb H2 H3).mono ?_); rintro e w2 ⟨rfl, b2⟩; clear q0 q1 q2 q3 q4 q5; have k2 := k1.below b2; have p0 := k2.p0; have p1 := k2.p1))
        | (go_at_call 13; (with_reducible refine (fixed_calls _).mono ?_); rintro e w3 ⟨rfl, b3⟩))
      go_ret
      exact ⟨rfl, HB.out.trans ((b1.trans ((b2.trans (b3.mono b2.size)).mono b1.size)).mono HB.out.size)⟩
set_option maxHeartbeats 8000000 in
set_option maxRecDepth 100000 in
theorem turns_1 (c : Int) (ng : Bool) (a b : ByteArray) (x : Int) (cm : Bool) (w : World) (ha : a.size ≤ 140737488355328) (hb : b.size ≤ 140737488355328) :
    Calls Tryd.prog 5 #[.agg #[.int .i64 c, .bool ng, .string a, .string b, .int .i64 x, .bool cm], .int .i64 1] w fun e w' => e = .returned (.bool true) ∧ Below w.heap.size w w' := by
  have H3 : Hid (signErr 1 = 0) := show _ = _ from rfl
  have hK := TK.start w c ng a b x cm
  have hB := below12 w (.cells #[.int .i64 c, .bool ng, .string a, .string b, .int .i64 x, .bool cm] 46) (.cells #[.int .i64 c, .bool !ng, .string a, .string b, .int .i64 x, .bool cm] 46)
  have HK := Lib.hid hK
  have HB := Lib.hid hB
  clear hK hB
  obtain ⟨z, hz⟩ : ∃ z, isZero c a b = z := ⟨_, rfl⟩
  have HZ := Lib.hid hz
  clear hz
  by_cases hc : c = 2
  · subst hc
    cases ng
    · simp only [Bool.not_false, Bool.not_true] at HK HB
      have H1 : Hid (signOf 2 false (isZero 2 a b) 1 = 0) := show _ = _ from by unfold signOf; simp
      have H2 : Hid (signOf 2 true (isZero 2 a b) 1 = 0) := show _ = _ from by unfold signOf; simp
      go_enter Tryd.func5, Tryd.ntmps5
      go_wp2_with (first
        | (go_at_call 17; first
            | ((with_reducible refine (of_agg _ _ a b x cm 1 (0) 0 _ ha hb H1 H3).mono ?_); rintro e w1 ⟨rfl, b1⟩; have k1 := HK.out.below b1; have q0 := k1.q0; have q1 := k1.q1; have q2 := k1.q2; have q3 := k1.q3; have q4 := k1.q4; have q5 := k1.q5)
            | ((with_reducible refine (of_agg _ _ a b x cm 1 (0) 0 _ ha hb H2 H3).mono ?_); rintro e w2 ⟨rfl, b2⟩; clear q0 q1 q2 q3 q4 q5; have k2 := k1.below b2; have p0 := k2.p0; have p1 := k2.p1))
        | (go_at_call 13; (with_reducible refine (fixed_calls _).mono ?_); rintro e w3 ⟨rfl, b3⟩))
      go_ret
      exact ⟨rfl, HB.out.trans ((b1.trans ((b2.trans (b3.mono b2.size)).mono b1.size)).mono HB.out.size)⟩
    · simp only [Bool.not_false, Bool.not_true] at HK HB
      have H1 : Hid (signOf 2 true (isZero 2 a b) 1 = 0) := show _ = _ from by unfold signOf; simp
      have H2 : Hid (signOf 2 false (isZero 2 a b) 1 = 0) := show _ = _ from by unfold signOf; simp
      go_enter Tryd.func5, Tryd.ntmps5
      go_wp2_with (first
        | (go_at_call 17; first
            | ((with_reducible refine (of_agg _ _ a b x cm 1 (0) 0 _ ha hb H1 H3).mono ?_); rintro e w1 ⟨rfl, b1⟩; have k1 := HK.out.below b1; have q0 := k1.q0; have q1 := k1.q1; have q2 := k1.q2; have q3 := k1.q3; have q4 := k1.q4; have q5 := k1.q5)
            | ((with_reducible refine (of_agg _ _ a b x cm 1 (0) 0 _ ha hb H2 H3).mono ?_); rintro e w2 ⟨rfl, b2⟩; clear q0 q1 q2 q3 q4 q5; have k2 := k1.below b2; have p0 := k2.p0; have p1 := k2.p1))
        | (go_at_call 13; (with_reducible refine (fixed_calls _).mono ?_); rintro e w3 ⟨rfl, b3⟩))
      go_ret
      exact ⟨rfl, HB.out.trans ((b1.trans ((b2.trans (b3.mono b2.size)).mono b1.size)).mono HB.out.size)⟩
  · have c0 : (c == 2) = false := by simp [hc]
    have c1 : (c != 2) = true := by simp [hc]
    have HC := Lib.hid hc
    clear hc
    cases ng
    · simp only [Bool.not_false, Bool.not_true] at HK HB
      have H1 : Hid (signOf c false (isZero c a b) 1 = 1) := show _ = _ from by unfold signOf; simp [HC.out]
      have H2 : Hid (signOf c true (isZero c a b) 1 = -1) := show _ = _ from by unfold signOf; simp [HC.out]
      go_enter Tryd.func5, Tryd.ntmps5
      go_wp2_with (first
        | (go_at_call 17; first
            | ((with_reducible refine (of_agg _ _ a b x cm 1 (1) 0 _ ha hb H1 H3).mono ?_); rintro e w1 ⟨rfl, b1⟩; have k1 := HK.out.below b1; have q0 := k1.q0; have q1 := k1.q1; have q2 := k1.q2; have q3 := k1.q3; have q4 := k1.q4; have q5 := k1.q5)
            | ((with_reducible refine (of_agg _ _ a b x cm 1 (-1) 0 _ ha hb H2 H3).mono ?_); rintro e w2 ⟨rfl, b2⟩; clear q0 q1 q2 q3 q4 q5; have k2 := k1.below b2; have p0 := k2.p0; have p1 := k2.p1))
        | (go_at_call 13; (with_reducible refine (fixed_calls _).mono ?_); rintro e w3 ⟨rfl, b3⟩))
      go_ret
      exact ⟨rfl, HB.out.trans ((b1.trans ((b2.trans (b3.mono b2.size)).mono b1.size)).mono HB.out.size)⟩
    · simp only [Bool.not_false, Bool.not_true] at HK HB
      have H1 : Hid (signOf c true (isZero c a b) 1 = -1) := show _ = _ from by unfold signOf; simp [HC.out]
      have H2 : Hid (signOf c false (isZero c a b) 1 = 1) := show _ = _ from by unfold signOf; simp [HC.out]
      go_enter Tryd.func5, Tryd.ntmps5
      go_wp2_with (first
        | (go_at_call 17; first
            | ((with_reducible refine (of_agg _ _ a b x cm 1 (-1) 0 _ ha hb H1 H3).mono ?_); rintro e w1 ⟨rfl, b1⟩; have k1 := HK.out.below b1; have q0 := k1.q0; have q1 := k1.q1; have q2 := k1.q2; have q3 := k1.q3; have q4 := k1.q4; have q5 := k1.q5)
            | ((with_reducible refine (of_agg _ _ a b x cm 1 (1) 0 _ ha hb H2 H3).mono ?_); rintro e w2 ⟨rfl, b2⟩; clear q0 q1 q2 q3 q4 q5; have k2 := k1.below b2; have p0 := k2.p0; have p1 := k2.p1))
        | (go_at_call 13; (with_reducible refine (fixed_calls _).mono ?_); rintro e w3 ⟨rfl, b3⟩))
      go_ret
      exact ⟨rfl, HB.out.trans ((b1.trans ((b2.trans (b3.mono b2.size)).mono b1.size)).mono HB.out.size)⟩
set_option maxHeartbeats 8000000 in
set_option maxRecDepth 100000 in
theorem turns_2 (c : Int) (ng : Bool) (a b : ByteArray) (x : Int) (cm : Bool) (w : World) (ha : a.size ≤ 140737488355328) (hb : b.size ≤ 140737488355328) :
    Calls Tryd.prog 5 #[.agg #[.int .i64 c, .bool ng, .string a, .string b, .int .i64 x, .bool cm], .int .i64 2] w fun e w' => e = .returned (.bool true) ∧ Below w.heap.size w w' := by
  have H3 : Hid (signErr 2 = 0) := show _ = _ from rfl
  have hK := TK.start w c ng a b x cm
  have hB := below12 w (.cells #[.int .i64 c, .bool ng, .string a, .string b, .int .i64 x, .bool cm] 46) (.cells #[.int .i64 c, .bool !ng, .string a, .string b, .int .i64 x, .bool cm] 46)
  have HK := Lib.hid hK
  have HB := Lib.hid hB
  clear hK hB
  obtain ⟨z, hz⟩ : ∃ z, isZero c a b = z := ⟨_, rfl⟩
  have HZ := Lib.hid hz
  clear hz
  by_cases hc : c = 2
  · subst hc
    cases ng
    · simp only [Bool.not_false, Bool.not_true] at HK HB
      have H1 : Hid (signOf 2 false (isZero 2 a b) 2 = 0) := show _ = _ from by unfold signOf; simp
      have H2 : Hid (signOf 2 true (isZero 2 a b) 2 = 0) := show _ = _ from by unfold signOf; simp
      go_enter Tryd.func5, Tryd.ntmps5
      go_wp2_with (first
        | (go_at_call 17; first
            | ((with_reducible refine (of_agg _ _ a b x cm 2 (0) 0 _ ha hb H1 H3).mono ?_); rintro e w1 ⟨rfl, b1⟩; have k1 := HK.out.below b1; have q0 := k1.q0; have q1 := k1.q1; have q2 := k1.q2; have q3 := k1.q3; have q4 := k1.q4; have q5 := k1.q5)
            | ((with_reducible refine (of_agg _ _ a b x cm 2 (0) 0 _ ha hb H2 H3).mono ?_); rintro e w2 ⟨rfl, b2⟩; clear q0 q1 q2 q3 q4 q5; have k2 := k1.below b2; have p0 := k2.p0; have p1 := k2.p1))
        | (go_at_call 13; (with_reducible refine (fixed_calls _).mono ?_); rintro e w3 ⟨rfl, b3⟩))
      go_ret
      exact ⟨rfl, HB.out.trans ((b1.trans ((b2.trans (b3.mono b2.size)).mono b1.size)).mono HB.out.size)⟩
    · simp only [Bool.not_false, Bool.not_true] at HK HB
      have H1 : Hid (signOf 2 true (isZero 2 a b) 2 = 0) := show _ = _ from by unfold signOf; simp
      have H2 : Hid (signOf 2 false (isZero 2 a b) 2 = 0) := show _ = _ from by unfold signOf; simp
      go_enter Tryd.func5, Tryd.ntmps5
      go_wp2_with (first
        | (go_at_call 17; first
            | ((with_reducible refine (of_agg _ _ a b x cm 2 (0) 0 _ ha hb H1 H3).mono ?_); rintro e w1 ⟨rfl, b1⟩; have k1 := HK.out.below b1; have q0 := k1.q0; have q1 := k1.q1; have q2 := k1.q2; have q3 := k1.q3; have q4 := k1.q4; have q5 := k1.q5)
            | ((with_reducible refine (of_agg _ _ a b x cm 2 (0) 0 _ ha hb H2 H3).mono ?_); rintro e w2 ⟨rfl, b2⟩; clear q0 q1 q2 q3 q4 q5; have k2 := k1.below b2; have p0 := k2.p0; have p1 := k2.p1))
        | (go_at_call 13; (with_reducible refine (fixed_calls _).mono ?_); rintro e w3 ⟨rfl, b3⟩))
      go_ret
      exact ⟨rfl, HB.out.trans ((b1.trans ((b2.trans (b3.mono b2.size)).mono b1.size)).mono HB.out.size)⟩
  · have c0 : (c == 2) = false := by simp [hc]
    have c1 : (c != 2) = true := by simp [hc]
    have HC := Lib.hid hc
    clear hc
    cases ng
    · simp only [Bool.not_false, Bool.not_true] at HK HB
      have H1 : Hid (signOf c false (isZero c a b) 2 = 0) := show _ = _ from by unfold signOf; simp [HC.out]
      have H2 : Hid (signOf c true (isZero c a b) 2 = 0) := show _ = _ from by unfold signOf; simp [HC.out]
      go_enter Tryd.func5, Tryd.ntmps5
      go_wp2_with (first
        | (go_at_call 17; first
            | ((with_reducible refine (of_agg _ _ a b x cm 2 (0) 0 _ ha hb H1 H3).mono ?_); rintro e w1 ⟨rfl, b1⟩; have k1 := HK.out.below b1; have q0 := k1.q0; have q1 := k1.q1; have q2 := k1.q2; have q3 := k1.q3; have q4 := k1.q4; have q5 := k1.q5)
            | ((with_reducible refine (of_agg _ _ a b x cm 2 (0) 0 _ ha hb H2 H3).mono ?_); rintro e w2 ⟨rfl, b2⟩; clear q0 q1 q2 q3 q4 q5; have k2 := k1.below b2; have p0 := k2.p0; have p1 := k2.p1))
        | (go_at_call 13; (with_reducible refine (fixed_calls _).mono ?_); rintro e w3 ⟨rfl, b3⟩))
      go_ret
      exact ⟨rfl, HB.out.trans ((b1.trans ((b2.trans (b3.mono b2.size)).mono b1.size)).mono HB.out.size)⟩
    · simp only [Bool.not_false, Bool.not_true] at HK HB
      have H1 : Hid (signOf c true (isZero c a b) 2 = 0) := show _ = _ from by unfold signOf; simp [HC.out]
      have H2 : Hid (signOf c false (isZero c a b) 2 = 0) := show _ = _ from by unfold signOf; simp [HC.out]
      go_enter Tryd.func5, Tryd.ntmps5
      go_wp2_with (first
        | (go_at_call 17; first
            | ((with_reducible refine (of_agg _ _ a b x cm 2 (0) 0 _ ha hb H1 H3).mono ?_); rintro e w1 ⟨rfl, b1⟩; have k1 := HK.out.below b1; have q0 := k1.q0; have q1 := k1.q1; have q2 := k1.q2; have q3 := k1.q3; have q4 := k1.q4; have q5 := k1.q5)
            | ((with_reducible refine (of_agg _ _ a b x cm 2 (0) 0 _ ha hb H2 H3).mono ?_); rintro e w2 ⟨rfl, b2⟩; clear q0 q1 q2 q3 q4 q5; have k2 := k1.below b2; have p0 := k2.p0; have p1 := k2.p1))
        | (go_at_call 13; (with_reducible refine (fixed_calls _).mono ?_); rintro e w3 ⟨rfl, b3⟩))
      go_ret
      exact ⟨rfl, HB.out.trans ((b1.trans ((b2.trans (b3.mono b2.size)).mono b1.size)).mono HB.out.size)⟩
set_option maxHeartbeats 8000000 in
set_option maxRecDepth 100000 in
theorem turns_3 (c : Int) (ng : Bool) (a b : ByteArray) (x : Int) (cm : Bool) (w : World) (ha : a.size ≤ 140737488355328) (hb : b.size ≤ 140737488355328) :
    Calls Tryd.prog 5 #[.agg #[.int .i64 c, .bool ng, .string a, .string b, .int .i64 x, .bool cm], .int .i64 3] w fun e w' => e = .returned (.bool true) ∧ Below w.heap.size w w' := by
  have H3 : Hid (signErr 3 = 0) := show _ = _ from rfl
  have hK := TK.start w c ng a b x cm
  have hB := below12 w (.cells #[.int .i64 c, .bool ng, .string a, .string b, .int .i64 x, .bool cm] 46) (.cells #[.int .i64 c, .bool !ng, .string a, .string b, .int .i64 x, .bool cm] 46)
  have HK := Lib.hid hK
  have HB := Lib.hid hB
  clear hK hB
  obtain ⟨z, hz⟩ : ∃ z, isZero c a b = z := ⟨_, rfl⟩
  have HZ := Lib.hid hz
  clear hz
  by_cases hc : c = 2
  · subst hc
    cases ng
    · simp only [Bool.not_false, Bool.not_true] at HK HB
      have H1 : Hid (signOf 2 false (isZero 2 a b) 3 = 0) := show _ = _ from by unfold signOf; simp
      have H2 : Hid (signOf 2 true (isZero 2 a b) 3 = 0) := show _ = _ from by unfold signOf; simp
      go_enter Tryd.func5, Tryd.ntmps5
      go_wp2_with (first
        | (go_at_call 17; first
            | ((with_reducible refine (of_agg _ _ a b x cm 3 (0) 0 _ ha hb H1 H3).mono ?_); rintro e w1 ⟨rfl, b1⟩; have k1 := HK.out.below b1; have q0 := k1.q0; have q1 := k1.q1; have q2 := k1.q2; have q3 := k1.q3; have q4 := k1.q4; have q5 := k1.q5)
            | ((with_reducible refine (of_agg _ _ a b x cm 3 (0) 0 _ ha hb H2 H3).mono ?_); rintro e w2 ⟨rfl, b2⟩; clear q0 q1 q2 q3 q4 q5; have k2 := k1.below b2; have p0 := k2.p0; have p1 := k2.p1))
        | (go_at_call 13; (with_reducible refine (fixed_calls _).mono ?_); rintro e w3 ⟨rfl, b3⟩))
      go_ret
      exact ⟨rfl, HB.out.trans ((b1.trans ((b2.trans (b3.mono b2.size)).mono b1.size)).mono HB.out.size)⟩
    · simp only [Bool.not_false, Bool.not_true] at HK HB
      have H1 : Hid (signOf 2 true (isZero 2 a b) 3 = 0) := show _ = _ from by unfold signOf; simp
      have H2 : Hid (signOf 2 false (isZero 2 a b) 3 = 0) := show _ = _ from by unfold signOf; simp
      go_enter Tryd.func5, Tryd.ntmps5
      go_wp2_with (first
        | (go_at_call 17; first
            | ((with_reducible refine (of_agg _ _ a b x cm 3 (0) 0 _ ha hb H1 H3).mono ?_); rintro e w1 ⟨rfl, b1⟩; have k1 := HK.out.below b1; have q0 := k1.q0; have q1 := k1.q1; have q2 := k1.q2; have q3 := k1.q3; have q4 := k1.q4; have q5 := k1.q5)
            | ((with_reducible refine (of_agg _ _ a b x cm 3 (0) 0 _ ha hb H2 H3).mono ?_); rintro e w2 ⟨rfl, b2⟩; clear q0 q1 q2 q3 q4 q5; have k2 := k1.below b2; have p0 := k2.p0; have p1 := k2.p1))
        | (go_at_call 13; (with_reducible refine (fixed_calls _).mono ?_); rintro e w3 ⟨rfl, b3⟩))
      go_ret
      exact ⟨rfl, HB.out.trans ((b1.trans ((b2.trans (b3.mono b2.size)).mono b1.size)).mono HB.out.size)⟩
  · have c0 : (c == 2) = false := by simp [hc]
    have c1 : (c != 2) = true := by simp [hc]
    have HC := Lib.hid hc
    clear hc
    cases ng <;> cases z
    · simp only [Bool.not_false, Bool.not_true] at HK HB
      have H1 : Hid (signOf c false (isZero c a b) 3 = 1) := show _ = _ from by unfold signOf; rw [HZ.out]; simp [HC.out]
      have H2 : Hid (signOf c true (isZero c a b) 3 = -1) := show _ = _ from by unfold signOf; rw [HZ.out]; simp [HC.out]
      go_enter Tryd.func5, Tryd.ntmps5
      go_wp2_with (first
        | (go_at_call 17; first
            | ((with_reducible refine (of_agg _ _ a b x cm 3 (1) 0 _ ha hb H1 H3).mono ?_); rintro e w1 ⟨rfl, b1⟩; have k1 := HK.out.below b1; have q0 := k1.q0; have q1 := k1.q1; have q2 := k1.q2; have q3 := k1.q3; have q4 := k1.q4; have q5 := k1.q5)
            | ((with_reducible refine (of_agg _ _ a b x cm 3 (-1) 0 _ ha hb H2 H3).mono ?_); rintro e w2 ⟨rfl, b2⟩; clear q0 q1 q2 q3 q4 q5; have k2 := k1.below b2; have p0 := k2.p0; have p1 := k2.p1))
        | (go_at_call 13; (with_reducible refine (fixed_calls _).mono ?_); rintro e w3 ⟨rfl, b3⟩))
      go_ret
      exact ⟨rfl, HB.out.trans ((b1.trans ((b2.trans (b3.mono b2.size)).mono b1.size)).mono HB.out.size)⟩
    · simp only [Bool.not_false, Bool.not_true] at HK HB
      have H1 : Hid (signOf c false (isZero c a b) 3 = 0) := show _ = _ from by unfold signOf; rw [HZ.out]; simp [HC.out]
      have H2 : Hid (signOf c true (isZero c a b) 3 = 0) := show _ = _ from by unfold signOf; rw [HZ.out]; simp [HC.out]
      go_enter Tryd.func5, Tryd.ntmps5
      go_wp2_with (first
        | (go_at_call 17; first
            | ((with_reducible refine (of_agg _ _ a b x cm 3 (0) 0 _ ha hb H1 H3).mono ?_); rintro e w1 ⟨rfl, b1⟩; have k1 := HK.out.below b1; have q0 := k1.q0; have q1 := k1.q1; have q2 := k1.q2; have q3 := k1.q3; have q4 := k1.q4; have q5 := k1.q5)
            | ((with_reducible refine (of_agg _ _ a b x cm 3 (0) 0 _ ha hb H2 H3).mono ?_); rintro e w2 ⟨rfl, b2⟩; clear q0 q1 q2 q3 q4 q5; have k2 := k1.below b2; have p0 := k2.p0; have p1 := k2.p1))
        | (go_at_call 13; (with_reducible refine (fixed_calls _).mono ?_); rintro e w3 ⟨rfl, b3⟩))
      go_ret
      exact ⟨rfl, HB.out.trans ((b1.trans ((b2.trans (b3.mono b2.size)).mono b1.size)).mono HB.out.size)⟩
    · simp only [Bool.not_false, Bool.not_true] at HK HB
      have H1 : Hid (signOf c true (isZero c a b) 3 = -1) := show _ = _ from by unfold signOf; rw [HZ.out]; simp [HC.out]
      have H2 : Hid (signOf c false (isZero c a b) 3 = 1) := show _ = _ from by unfold signOf; rw [HZ.out]; simp [HC.out]
      go_enter Tryd.func5, Tryd.ntmps5
      go_wp2_with (first
        | (go_at_call 17; first
            | ((with_reducible refine (of_agg _ _ a b x cm 3 (-1) 0 _ ha hb H1 H3).mono ?_); rintro e w1 ⟨rfl, b1⟩; have k1 := HK.out.below b1; have q0 := k1.q0; have q1 := k1.q1; have q2 := k1.q2; have q3 := k1.q3; have q4 := k1.q4; have q5 := k1.q5)
            | ((with_reducible refine (of_agg _ _ a b x cm 3 (1) 0 _ ha hb H2 H3).mono ?_); rintro e w2 ⟨rfl, b2⟩; clear q0 q1 q2 q3 q4 q5; have k2 := k1.below b2; have p0 := k2.p0; have p1 := k2.p1))
        | (go_at_call 13; (with_reducible refine (fixed_calls _).mono ?_); rintro e w3 ⟨rfl, b3⟩))
      go_ret
      exact ⟨rfl, HB.out.trans ((b1.trans ((b2.trans (b3.mono b2.size)).mono b1.size)).mono HB.out.size)⟩
    · simp only [Bool.not_false, Bool.not_true] at HK HB
      have H1 : Hid (signOf c true (isZero c a b) 3 = 0) := show _ = _ from by unfold signOf; rw [HZ.out]; simp [HC.out]
      have H2 : Hid (signOf c false (isZero c a b) 3 = 0) := show _ = _ from by unfold signOf; rw [HZ.out]; simp [HC.out]
      go_enter Tryd.func5, Tryd.ntmps5
      go_wp2_with (first
        | (go_at_call 17; first
            | ((with_reducible refine (of_agg _ _ a b x cm 3 (0) 0 _ ha hb H1 H3).mono ?_); rintro e w1 ⟨rfl, b1⟩; have k1 := HK.out.below b1; have q0 := k1.q0; have q1 := k1.q1; have q2 := k1.q2; have q3 := k1.q3; have q4 := k1.q4; have q5 := k1.q5)
            | ((with_reducible refine (of_agg _ _ a b x cm 3 (0) 0 _ ha hb H2 H3).mono ?_); rintro e w2 ⟨rfl, b2⟩; clear q0 q1 q2 q3 q4 q5; have k2 := k1.below b2; have p0 := k2.p0; have p1 := k2.p1))
        | (go_at_call 13; (with_reducible refine (fixed_calls _).mono ?_); rintro e w3 ⟨rfl, b3⟩))
      go_ret
      exact ⟨rfl, HB.out.trans ((b1.trans ((b2.trans (b3.mono b2.size)).mono b1.size)).mono HB.out.size)⟩
set_option maxHeartbeats 8000000 in
set_option maxRecDepth 100000 in
theorem turns_4 (c : Int) (ng : Bool) (a b : ByteArray) (x : Int) (cm : Bool) (w : World) (ha : a.size ≤ 140737488355328) (hb : b.size ≤ 140737488355328) :
    Calls Tryd.prog 5 #[.agg #[.int .i64 c, .bool ng, .string a, .string b, .int .i64 x, .bool cm], .int .i64 4] w fun e w' => e = .returned (.bool true) ∧ Below w.heap.size w w' := by
  have H3 : Hid (signErr 4 = 0) := show _ = _ from rfl
  have hK := TK.start w c ng a b x cm
  have hB := below12 w (.cells #[.int .i64 c, .bool ng, .string a, .string b, .int .i64 x, .bool cm] 46) (.cells #[.int .i64 c, .bool !ng, .string a, .string b, .int .i64 x, .bool cm] 46)
  have HK := Lib.hid hK
  have HB := Lib.hid hB
  clear hK hB
  obtain ⟨z, hz⟩ : ∃ z, isZero c a b = z := ⟨_, rfl⟩
  have HZ := Lib.hid hz
  clear hz
  by_cases hc : c = 2
  · subst hc
    cases ng
    · simp only [Bool.not_false, Bool.not_true] at HK HB
      have H1 : Hid (signOf 2 false (isZero 2 a b) 4 = 0) := show _ = _ from by unfold signOf; simp
      have H2 : Hid (signOf 2 true (isZero 2 a b) 4 = 0) := show _ = _ from by unfold signOf; simp
      go_enter Tryd.func5, Tryd.ntmps5
      go_wp2_with (first
        | (go_at_call 17; first
            | ((with_reducible refine (of_agg _ _ a b x cm 4 (0) 0 _ ha hb H1 H3).mono ?_); rintro e w1 ⟨rfl, b1⟩; have k1 := HK.out.below b1; have q0 := k1.q0; have q1 := k1.q1; have q2 := k1.q2; have q3 := k1.q3; have q4 := k1.q4; have q5 := k1.q5)
            | ((with_reducible refine (of_agg _ _ a b x cm 4 (0) 0 _ ha hb H2 H3).mono ?_); rintro e w2 ⟨rfl, b2⟩; clear q0 q1 q2 q3 q4 q5; have k2 := k1.below b2; have p0 := k2.p0; have p1 := k2.p1))
        | (go_at_call 13; (with_reducible refine (fixed_calls _).mono ?_); rintro e w3 ⟨rfl, b3⟩))
      go_ret
      exact ⟨rfl, HB.out.trans ((b1.trans ((b2.trans (b3.mono b2.size)).mono b1.size)).mono HB.out.size)⟩
    · simp only [Bool.not_false, Bool.not_true] at HK HB
      have H1 : Hid (signOf 2 true (isZero 2 a b) 4 = 0) := show _ = _ from by unfold signOf; simp
      have H2 : Hid (signOf 2 false (isZero 2 a b) 4 = 0) := show _ = _ from by unfold signOf; simp
      go_enter Tryd.func5, Tryd.ntmps5
      go_wp2_with (first
        | (go_at_call 17; first
            | ((with_reducible refine (of_agg _ _ a b x cm 4 (0) 0 _ ha hb H1 H3).mono ?_); rintro e w1 ⟨rfl, b1⟩; have k1 := HK.out.below b1; have q0 := k1.q0; have q1 := k1.q1; have q2 := k1.q2; have q3 := k1.q3; have q4 := k1.q4; have q5 := k1.q5)
            | ((with_reducible refine (of_agg _ _ a b x cm 4 (0) 0 _ ha hb H2 H3).mono ?_); rintro e w2 ⟨rfl, b2⟩; clear q0 q1 q2 q3 q4 q5; have k2 := k1.below b2; have p0 := k2.p0; have p1 := k2.p1))
        | (go_at_call 13; (with_reducible refine (fixed_calls _).mono ?_); rintro e w3 ⟨rfl, b3⟩))
      go_ret
      exact ⟨rfl, HB.out.trans ((b1.trans ((b2.trans (b3.mono b2.size)).mono b1.size)).mono HB.out.size)⟩
  · have c0 : (c == 2) = false := by simp [hc]
    have c1 : (c != 2) = true := by simp [hc]
    have HC := Lib.hid hc
    clear hc
    cases ng <;> cases z
    · simp only [Bool.not_false, Bool.not_true] at HK HB
      have H1 : Hid (signOf c false (isZero c a b) 4 = 0) := show _ = _ from by unfold signOf; rw [HZ.out]; simp [HC.out]
      have H2 : Hid (signOf c true (isZero c a b) 4 = -1) := show _ = _ from by unfold signOf; rw [HZ.out]; simp [HC.out]
      go_enter Tryd.func5, Tryd.ntmps5
      go_wp2_with (first
        | (go_at_call 17; first
            | ((with_reducible refine (of_agg _ _ a b x cm 4 (0) 0 _ ha hb H1 H3).mono ?_); rintro e w1 ⟨rfl, b1⟩; have k1 := HK.out.below b1; have q0 := k1.q0; have q1 := k1.q1; have q2 := k1.q2; have q3 := k1.q3; have q4 := k1.q4; have q5 := k1.q5)
            | ((with_reducible refine (of_agg _ _ a b x cm 4 (-1) 0 _ ha hb H2 H3).mono ?_); rintro e w2 ⟨rfl, b2⟩; clear q0 q1 q2 q3 q4 q5; have k2 := k1.below b2; have p0 := k2.p0; have p1 := k2.p1))
        | (go_at_call 13; (with_reducible refine (fixed_calls _).mono ?_); rintro e w3 ⟨rfl, b3⟩))
      go_ret
      exact ⟨rfl, HB.out.trans ((b1.trans ((b2.trans (b3.mono b2.size)).mono b1.size)).mono HB.out.size)⟩
    · simp only [Bool.not_false, Bool.not_true] at HK HB
      have H1 : Hid (signOf c false (isZero c a b) 4 = 0) := show _ = _ from by unfold signOf; rw [HZ.out]; simp [HC.out]
      have H2 : Hid (signOf c true (isZero c a b) 4 = 0) := show _ = _ from by unfold signOf; rw [HZ.out]; simp [HC.out]
      go_enter Tryd.func5, Tryd.ntmps5
      go_wp2_with (first
        | (go_at_call 17; first
            | ((with_reducible refine (of_agg _ _ a b x cm 4 (0) 0 _ ha hb H1 H3).mono ?_); rintro e w1 ⟨rfl, b1⟩; have k1 := HK.out.below b1; have q0 := k1.q0; have q1 := k1.q1; have q2 := k1.q2; have q3 := k1.q3; have q4 := k1.q4; have q5 := k1.q5)
            | ((with_reducible refine (of_agg _ _ a b x cm 4 (0) 0 _ ha hb H2 H3).mono ?_); rintro e w2 ⟨rfl, b2⟩; clear q0 q1 q2 q3 q4 q5; have k2 := k1.below b2; have p0 := k2.p0; have p1 := k2.p1))
        | (go_at_call 13; (with_reducible refine (fixed_calls _).mono ?_); rintro e w3 ⟨rfl, b3⟩))
      go_ret
      exact ⟨rfl, HB.out.trans ((b1.trans ((b2.trans (b3.mono b2.size)).mono b1.size)).mono HB.out.size)⟩
    · simp only [Bool.not_false, Bool.not_true] at HK HB
      have H1 : Hid (signOf c true (isZero c a b) 4 = -1) := show _ = _ from by unfold signOf; rw [HZ.out]; simp [HC.out]
      have H2 : Hid (signOf c false (isZero c a b) 4 = 0) := show _ = _ from by unfold signOf; rw [HZ.out]; simp [HC.out]
      go_enter Tryd.func5, Tryd.ntmps5
      go_wp2_with (first
        | (go_at_call 17; first
            | ((with_reducible refine (of_agg _ _ a b x cm 4 (-1) 0 _ ha hb H1 H3).mono ?_); rintro e w1 ⟨rfl, b1⟩; have k1 := HK.out.below b1; have q0 := k1.q0; have q1 := k1.q1; have q2 := k1.q2; have q3 := k1.q3; have q4 := k1.q4; have q5 := k1.q5)
            | ((with_reducible refine (of_agg _ _ a b x cm 4 (0) 0 _ ha hb H2 H3).mono ?_); rintro e w2 ⟨rfl, b2⟩; clear q0 q1 q2 q3 q4 q5; have k2 := k1.below b2; have p0 := k2.p0; have p1 := k2.p1))
        | (go_at_call 13; (with_reducible refine (fixed_calls _).mono ?_); rintro e w3 ⟨rfl, b3⟩))
      go_ret
      exact ⟨rfl, HB.out.trans ((b1.trans ((b2.trans (b3.mono b2.size)).mono b1.size)).mono HB.out.size)⟩
    · simp only [Bool.not_false, Bool.not_true] at HK HB
      have H1 : Hid (signOf c true (isZero c a b) 4 = 0) := show _ = _ from by unfold signOf; rw [HZ.out]; simp [HC.out]
      have H2 : Hid (signOf c false (isZero c a b) 4 = 0) := show _ = _ from by unfold signOf; rw [HZ.out]; simp [HC.out]
      go_enter Tryd.func5, Tryd.ntmps5
      go_wp2_with (first
        | (go_at_call 17; first
            | ((with_reducible refine (of_agg _ _ a b x cm 4 (0) 0 _ ha hb H1 H3).mono ?_); rintro e w1 ⟨rfl, b1⟩; have k1 := HK.out.below b1; have q0 := k1.q0; have q1 := k1.q1; have q2 := k1.q2; have q3 := k1.q3; have q4 := k1.q4; have q5 := k1.q5)
            | ((with_reducible refine (of_agg _ _ a b x cm 4 (0) 0 _ ha hb H2 H3).mono ?_); rintro e w2 ⟨rfl, b2⟩; clear q0 q1 q2 q3 q4 q5; have k2 := k1.below b2; have p0 := k2.p0; have p1 := k2.p1))
        | (go_at_call 13; (with_reducible refine (fixed_calls _).mono ?_); rintro e w3 ⟨rfl, b3⟩))
      go_ret
      exact ⟨rfl, HB.out.trans ((b1.trans ((b2.trans (b3.mono b2.size)).mono b1.size)).mono HB.out.size)⟩
theorem signTurns_calls (c : Int) (ng : Bool) (a b : ByteArray) (x : Int) (cm : Bool) (d : Int) (w : World) (ha : a.size ≤ 140737488355328) (hb : b.size ≤ 140737488355328) :
    Calls Tryd.prog 5 #[.agg #[.int .i64 c, .bool ng, .string a, .string b, .int .i64 x, .bool cm], .int .i64 d] w fun e w' => e = .returned (.bool true) ∧ Below w.heap.size w w' := by
  rcases (show (d < 0 ∨ 4 < d) ∨ d = 0 ∨ d = 1 ∨ d = 2 ∨ d = 3 ∨ d = 4 by omega) with h | rfl | rfl | rfl | rfl | rfl
  · exact turns_err c ng a b x cm d w ha hb h
  · exact turns_0 c ng a b x cm w ha hb
  · exact turns_1 c ng a b x cm w ha hb
  · exact turns_2 c ng a b x cm w ha hb
  · exact turns_3 c ng a b x cm w ha hb
  · exact turns_4 c ng a b x cm w ha hb
end Go.Proofs.YtoplpoofbefjcaaDoor.Sg

