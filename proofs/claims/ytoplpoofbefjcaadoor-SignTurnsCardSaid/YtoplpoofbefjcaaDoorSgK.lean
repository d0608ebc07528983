/- Layer 19, on: SignTurns, the walk. -/
import Derived.Test.YtoplpoofbefjcaaDoorSgG
namespace Go.Proofs.YtoplpoofbefjcaaDoor.Sg
open Go.RowKit Go.Proofs.YtoplpoofbefjcaaDoor.Dig Go.Proofs.YtoplpoofbefjcaaDoor.W

theorem of_agg (c : Int) (ng : Bool) (a b : ByteArray) (x : Int) (cm : Bool) (d s r : Int) (w : World) (ha : a.size ≤ 140737488355328) (hb : b.size ≤ 140737488355328) (hs : Hid (signOf c ng (isZero c a b) d = s)) (hr : Hid (signErr d = r)) :
    Calls Tryd.prog 17 #[.agg #[.int .i64 c, .bool ng, .string a, .string b, .int .i64 x, .bool cm], .int .i64 d] w fun e w' => e = .returned (.tuple #[.int .i64 s, .int .i64 r]) ∧ Below w.heap.size w w' := by
  have h := of_calls c ng a b x cm d w ha hb
  rw [hs.out, hr.out] at h
  exact h
/-- the two numbers, as they lie -/
structure TK (w : World) (g : Nat) (c : Int) (ng : Bool) (a b : ByteArray) (x : Int) (cm : Bool) : Prop where
  p0 : w.cell? ⟨g, 0, none⟩ = some (.int .i64 c)
  p1 : w.cell? ⟨g, 1, none⟩ = some (.bool ng)
  q0 : w.cell? ⟨g + 1, 0, none⟩ = some (.int .i64 c)
  q1 : w.cell? ⟨g + 1, 1, none⟩ = some (.bool !ng)
  q2 : w.cell? ⟨g + 1, 2, none⟩ = some (.string a)
  q3 : w.cell? ⟨g + 1, 3, none⟩ = some (.string b)
  q4 : w.cell? ⟨g + 1, 4, none⟩ = some (.int .i64 x)
  q5 : w.cell? ⟨g + 1, 5, none⟩ = some (.bool cm)
theorem TK.below {w w' : World} {g : Nat} {c : Int} {ng : Bool} {a b : ByteArray} {x : Int} {cm : Bool} (h : TK w g c ng a b x cm) (hb : Below w.heap.size w w') : TK w' g c ng a b x cm :=
  ⟨cell_keep hb h.p0, cell_keep hb h.p1, cell_keep hb h.q0, cell_keep hb h.q1, cell_keep hb h.q2, cell_keep hb h.q3, cell_keep hb h.q4, cell_keep hb h.q5⟩
theorem TK.start (w : World) (c : Int) (ng : Bool) (a b : ByteArray) (x : Int) (cm : Bool) :
    TK ((w.alloc (.cells #[.int .i64 c, .bool ng, .string a, .string b, .int .i64 x, .bool cm] 46)).alloc (.cells #[.int .i64 c, .bool !ng, .string a, .string b, .int .i64 x, .bool cm] 46)) w.heap.size c ng a b x cm := by
  have hz : (w.alloc (.cells #[.int .i64 c, .bool ng, .string a, .string b, .int .i64 x, .bool cm] 46)).heap.size = w.heap.size + 1 := by simp
  have hn := fun i => World.cell?_alloc_new (w.alloc (.cells #[.int .i64 c, .bool ng, .string a, .string b, .int .i64 x, .bool cm] 46)) #[.int .i64 c, .bool !ng, .string a, .string b, .int .i64 x, .bool cm] 46 i
  rw [hz] at hn
  have ho := fun i => (World.cell?_alloc_lt (w.alloc (.cells #[.int .i64 c, .bool ng, .string a, .string b, .int .i64 x, .bool cm] 46)) (.cells #[.int .i64 c, .bool !ng, .string a, .string b, .int .i64 x, .bool cm] 46) ⟨w.heap.size, i, none⟩ (by rw [hz]; exact Nat.lt_succ_self _)).trans (World.cell?_alloc_new w #[.int .i64 c, .bool ng, .string a, .string b, .int .i64 x, .bool cm] 46 i)
  exact ⟨ho 0, ho 1, hn 0, hn 1, hn 2, hn 3, hn 4, hn 5⟩
theorem below12 (w : World) (a b : Obj) : Below w.heap.size w ((w.alloc a).alloc b) := ((Below.refl _ _).alloc (Nat.le_refl _) a).alloc (by simp) b
set_option maxHeartbeats 8000000 in
set_option maxRecDepth 100000 in
theorem turns_err (c : Int) (ng : Bool) (a b : ByteArray) (x : Int) (cm : Bool) (d : Int) (w : World) (ha : a.size ≤ 140737488355328) (hb : b.size ≤ 140737488355328) (hd : d < 0 ∨ 4 < d) :
    Calls Tryd.prog 5 #[.agg #[.int .i64 c, .bool ng, .string a, .string b, .int .i64 x, .bool cm], .int .i64 d] w fun e w' => e = .returned (.bool true) ∧ Below w.heap.size w w' := by
  have H1 : Hid (signOf c ng (isZero c a b) d = 0) := show _ = _ by unfold signOf; rw [if_pos hd]
  have H2 : Hid (signOf c (!ng) (isZero c a b) d = 0) := show _ = _ by unfold signOf; rw [if_pos hd]
  have H3 : Hid (signErr d = 190) := show _ = _ by unfold signErr; rw [if_pos hd]
  have hK := TK.start w c ng a b x cm
  have hB := below12 w (.cells #[.int .i64 c, .bool ng, .string a, .string b, .int .i64 x, .bool cm] 46) (.cells #[.int .i64 c, .bool !ng, .string a, .string b, .int .i64 x, .bool cm] 46)
  have HK := Lib.hid hK
  have HB := Lib.hid hB
  clear hK hB
  cases ng <;> rcases hd with hd | hd
  all_goals
    simp only [Bool.not_false, Bool.not_true] at H2 HK HB
    first
      | (have d0 : decide (d < 0) = true := decide_eq_true hd)
      | (have d0 : decide (d < 0) = false := decide_eq_false (by omega)
         have d1 : decide (4 < d) = true := decide_eq_true hd
         have d2 : ¬ d < 0 := by omega)
    go_enter Tryd.func5, Tryd.ntmps5
    go_wp2_with (first
      | (go_at_call 17; first
          | ((with_reducible refine (of_agg _ _ a b x cm d 0 190 _ ha hb H1 H3).mono ?_); rintro e w1 ⟨rfl, b1⟩; have k1 := HK.out.below b1; have q0 := k1.q0; have q1 := k1.q1; have q2 := k1.q2; have q3 := k1.q3; have q4 := k1.q4; have q5 := k1.q5)
          | ((with_reducible refine (of_agg _ _ a b x cm d 0 190 _ ha hb H2 H3).mono ?_); rintro e w2 ⟨rfl, b2⟩; clear q0 q1 q2 q3 q4 q5))
      | (go_at_call 13; (with_reducible refine (fixed_calls _).mono ?_); rintro e w3 ⟨rfl, b3⟩))
    go_ret
    exact ⟨rfl, HB.out.trans ((b1.trans ((b2.trans (b3.mono b2.size)).mono b1.size)).mono HB.out.size)⟩
end Go.Proofs.YtoplpoofbefjcaaDoor.Sg
