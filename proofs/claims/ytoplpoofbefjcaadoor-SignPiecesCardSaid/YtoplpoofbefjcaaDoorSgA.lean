/- Layer 19: the sign. -/
import Derived.Test.YtoplpoofbefjcaaDoorWord
import Derived.Test.YtoplpoofbefjcaaDoorShelf
namespace Go.Proofs.YtoplpoofbefjcaaDoor.Sg
open Go.RowKit Go.Proofs.YtoplpoofbefjcaaDoor.Dig Go.Proofs.YtoplpoofbefjcaaDoor.W

/-- no digit but noughts -/
def nought (a b : ByteArray) : Bool := (Lib.trimB (a.data.toList ++ b.data.toList) 48).isEmpty
def shown (c : Int) (ng : Bool) (a b : ByteArray) (x : Int) (cm : Bool) : Value := .agg #[.int .i64 c, .bool ng, .string a, .string b, .int .i64 x, .bool cm]
def isZero (c : Int) (a b : ByteArray) : Bool := (c == 0) && nought a b
theorem zero_calls (c : Int) (ng : Bool) (a b : ByteArray) (x : Int) (cm : Bool) (w : World) (ha : a.size ≤ 140737488355328) (hb : b.size ≤ 140737488355328) :
    Calls Tryd.prog 29 #[shown c ng a b x cm] w fun e w' => e = .returned (.bool (isZero c a b)) ∧ Below w.heap.size w w' := by
  have hs : (a ++ b).size ≤ 9223372036854775807 := by rw [ByteArray.size_append]; omega
  have hT := fun w1 => Tryd.strings_Trim_one (a ++ b) 48 (by decide) w1 hs
  unfold isZero nought shown
  by_cases hc : c = 0
  · subst hc
    go_enter Tryd.func29, Tryd.ntmps29
    go_wp2_with (first
      | (go_at_call 33; refine (hT _).mono ?_; rintro e w' ⟨rfl, hw⟩))
    go_ret
    refine ⟨rfl, ?_⟩
    rcases hw with rfl | rfl
    · exact (Below.refl _ _).alloc (Nat.le_refl _) _
    · exact ((Below.refl _ _).alloc (Nat.le_refl _) _).drew
  · have hc' : (c == 0) = false := by simp [hc]
    go_enter Tryd.func29, Tryd.ntmps29
    go_wp2
    go_ret
    exact ⟨by rw [hc']; rfl, (Below.refl _ _).alloc (Nat.le_refl _) _⟩

/-- which sign -/
def signOf (c : Int) (ng z : Bool) (d : Int) : Int :=
  if d < 0 ∨ 4 < d then 0 else if c = 2 ∨ d = 2 then 0 else if d = 4 then (if z || !ng then 0 else -1) else if d = 0 then (if ng then -1 else 0) else if d = 3 then (if z then 0 else if ng then -1 else 1) else (if ng then -1 else 1)
def signErr (d : Int) : Int := if d < 0 ∨ 4 < d then 190 else 0
theorem of_calls (c : Int) (ng : Bool) (a b : ByteArray) (x : Int) (cm : Bool) (d : Int) (w : World) (ha : a.size ≤ 140737488355328) (hb : b.size ≤ 140737488355328) :
    Calls Tryd.prog 17 #[shown c ng a b x cm, .int .i64 d] w fun e w' => e = .returned (.tuple #[.int .i64 (signOf c ng (isZero c a b) d), .int .i64 (signErr d)]) ∧ Below w.heap.size w w' := by
  have hZ := fun w1 => zero_calls c ng a b x cm w1 ha hb
  generalize isZero c a b = z at *
  unfold signOf signErr
  unfold shown at *
  have hb1 : ∀ o w', Below (w.alloc o).heap.size (w.alloc o) w' → Below w.heap.size w w' := fun o w' h => ((Below.refl _ _).alloc (Nat.le_refl _) o).trans (h.mono ((Below.refl w.heap.size w).alloc (Nat.le_refl _) o).size)
  have hcl : ∀ w', Below (w.alloc (.cells #[.int .i64 c, .bool ng, .string a, .string b, .int .i64 x, .bool cm] 46)).heap.size (w.alloc (.cells #[.int .i64 c, .bool ng, .string a, .string b, .int .i64 x, .bool cm] 46)) w' → w'.cell? ⟨w.heap.size, 1, none⟩ = some (.bool ng) := by
    intro w' h
    refine (h.cell (p := ⟨w.heap.size, 1, none⟩) (by simp)).trans ?_
    exact World.cell?_alloc_new w _ _ 1
  have HC := Lib.hid hcl
  clear hcl
  have HB := Lib.hid hb1
  clear hb1
  rcases (show d < 0 ∨ 4 < d ∨ d = 2 ∨ d = 4 ∨ d = 0 ∨ d = 3 ∨ d = 1 by omega) with h | h | h | h | h | h | h
  · have h1 : decide (d < 0) = true := decide_eq_true h
    have H := Lib.hid h
    go_enter Tryd.func17, Tryd.ntmps17
    go_wp2
    go_ret2
    exact ⟨by have h0 := H.out; first | rfl | simp [h0], (Below.refl _ _).alloc (Nat.le_refl _) _⟩
  · have h1 : decide (d < 0) = false := decide_eq_false (by omega)
    have h2 : decide (4 < d) = true := decide_eq_true h
    have h3 : ¬ d < 0 := by omega
    have H := Lib.hid h
    go_enter Tryd.func17, Tryd.ntmps17
    go_wp2
    go_ret2
    exact ⟨by have h0 := H.out; first | rfl | simp [h0], (Below.refl _ _).alloc (Nat.le_refl _) _⟩
  · subst h
    by_cases hc : c = 2
    all_goals first
      | subst hc
      | have hc' : (c == 2) = false := by simp [hc]
    all_goals
      go_enter Tryd.func17, Tryd.ntmps17
      go_wp2
      go_ret2
      exact ⟨by simp, (Below.refl _ _).alloc (Nat.le_refl _) _⟩
  · subst h
    by_cases hc : c = 2
    · subst hc
      go_enter Tryd.func17, Tryd.ntmps17
      go_wp2
      go_ret2
      exact ⟨by simp, (Below.refl _ _).alloc (Nat.le_refl _) _⟩
    · have hc' : (c == 2) = false := by simp [hc]
      cases ng <;> cases z
      all_goals
        go_enter Tryd.func17, Tryd.ntmps17
        go_wp2_with (first
          | (go_at_call 29; refine (hZ _).mono ?_; rintro e w' ⟨rfl, hw⟩; have hng := HC.out _ hw))
        go_ret2
        exact ⟨by simp [hc], by first | exact HB.out _ _ hw | exact (Below.refl _ _).alloc (Nat.le_refl _) _⟩
  · subst h
    by_cases hc : c = 2
    · subst hc
      go_enter Tryd.func17, Tryd.ntmps17
      go_wp2
      go_ret2
      exact ⟨by simp, (Below.refl _ _).alloc (Nat.le_refl _) _⟩
    · have hc' : (c == 2) = false := by simp [hc]
      cases ng <;> cases z
      all_goals
        go_enter Tryd.func17, Tryd.ntmps17
        go_wp2_with (first
          | (go_at_call 29; refine (hZ _).mono ?_; rintro e w' ⟨rfl, hw⟩; have hng := HC.out _ hw))
        go_ret2
        exact ⟨by simp [hc], by first | exact HB.out _ _ hw | exact (Below.refl _ _).alloc (Nat.le_refl _) _⟩
  · subst h
    by_cases hc : c = 2
    · subst hc
      go_enter Tryd.func17, Tryd.ntmps17
      go_wp2
      go_ret2
      exact ⟨by simp, (Below.refl _ _).alloc (Nat.le_refl _) _⟩
    · have hc' : (c == 2) = false := by simp [hc]
      cases ng <;> cases z
      all_goals
        go_enter Tryd.func17, Tryd.ntmps17
        go_wp2_with (first
          | (go_at_call 29; refine (hZ _).mono ?_; rintro e w' ⟨rfl, hw⟩; have hng := HC.out _ hw))
        go_ret2
        exact ⟨by simp [hc], by first | exact HB.out _ _ hw | exact (Below.refl _ _).alloc (Nat.le_refl _) _⟩
  · subst h
    by_cases hc : c = 2
    · subst hc
      go_enter Tryd.func17, Tryd.ntmps17
      go_wp2
      go_ret2
      exact ⟨by simp, (Below.refl _ _).alloc (Nat.le_refl _) _⟩
    · have hc' : (c == 2) = false := by simp [hc]
      cases ng <;> cases z
      all_goals
        go_enter Tryd.func17, Tryd.ntmps17
        go_wp2_with (first
          | (go_at_call 29; refine (hZ _).mono ?_; rintro e w' ⟨rfl, hw⟩; have hng := HC.out _ hw))
        go_ret2
        exact ⟨by simp [hc], by first | exact HB.out _ _ hw | exact (Below.refl _ _).alloc (Nat.le_refl _) _⟩
end Go.Proofs.YtoplpoofbefjcaaDoor.Sg
