/- Layer 19, on: what every law asks besides. -/
import Derived.Test.YtoplpoofbefjcaaDoorSgH
namespace Go.Proofs.YtoplpoofbefjcaaDoor.Sg
open Go.RowKit Go.Proofs.YtoplpoofbefjcaaDoor.Dig Go.Proofs.YtoplpoofbefjcaaDoor.W

def E0 : Value := .string ⟨#[]⟩
theorem ST.nil_ (w : World) : ST w none 0 0 [] := ⟨rfl, Nat.le_refl _, by omega, fun h => absurd h (by omega)⟩
theorem fix_of1 (w : World) : Calls Tryd.prog 17 #[.agg #[.int .i64 0, .bool true, .string ⟨#[48]⟩, .string ⟨#[]⟩, .int .i64 0, .bool false], .int .i64 0] w fun e w' => e = .returned (.tuple #[.int .i64 (-1), .int .i64 0]) ∧ Below w.heap.size w w' :=
  of_calls 0 true ⟨#[48]⟩ ⟨#[]⟩ 0 false 0 w (by decide) (by decide)
theorem fix_of2 (w : World) : Calls Tryd.prog 17 #[.agg #[.int .i64 0, .bool false, .string ⟨#[53]⟩, .string ⟨#[]⟩, .int .i64 0, .bool false], .int .i64 1] w fun e w' => e = .returned (.tuple #[.int .i64 1, .int .i64 0]) ∧ Below w.heap.size w w' :=
  of_calls 0 false ⟨#[53]⟩ ⟨#[]⟩ 0 false 1 w (by decide) (by decide)
/-- the tokens of the affix: one minus -/
def MinusAt (w : World) (b o : Nat) : Prop := w.cell? ⟨b, o, none⟩ = some (.int .i64 1) ∧ w.cell? ⟨b, o + 1, none⟩ = some (.int .i64 0) ∧ w.cell? ⟨b, o + 2, none⟩ = some (.string ⟨#[]⟩)
theorem fix_aff (w : World) : Calls Tryd.prog 8 #[.agg #[.slice none 0 0, .slice none 0 0, .int .i64 1, .int .i64 0, .int .i64 0, .int .i64 0, .int .i64 0, .int .i64 0, .bool false, .string ⟨#[]⟩, .int .i64 0, .int .i64 0, .bool false, .slice none 0 0, .slice none 0 0, .int .i64 0, .int .i64 0, .int .i64 0, .int .i64 0, .int .i64 0, .int .i64 0, .bool false, .string ⟨#[]⟩, .int .i64 0, .int .i64 0], .int .i64 (-1)] w
    fun e w' => (∃ b o c A d, e = .returned (.tuple #[.slice (some ⟨b, o, none⟩) 1 c, .slice A 0 d, .int .i64 0]) ∧ 1 ≤ c ∧ c ≤ 9223372036854775807 ∧ MinusAt w' b o) ∧ Below w.heap.size w w' := by
  refine (affixes_ahead (-1) 1 none none none none 0 0 0 0 0 0 0 0 [] [] [] [] ⟨1, 0, 0, 0, 0, 0, false, ⟨#[]⟩, 0, 0⟩ ⟨0, 0, 0, 0, 0, 0, false, ⟨#[]⟩, 0, 0⟩ w (ST.nil_ _) (ST.nil_ _) (ST.nil_ _) (ST.nil_ _) (by decide) (by decide) (Or.inl ⟨rfl, rfl⟩)).mono ?_
  rintro e w' ⟨⟨v, v', rfl, ⟨A1, c1, rfl, s1, _⟩, ⟨A2, c2, rfl, s2, _⟩⟩, hb⟩
  obtain ⟨b, o, e, hc⟩ := Sl.get s1 (by decide)
  subst e
  exact ⟨⟨b, o, c1, A2, c2, rfl, Sl.le s1, Sl.cap s1, hc 0 _ rfl, hc 1 _ rfl, hc 2 _ rfl⟩, hb⟩
/-- the piece that is told -/
def PieceAt (w : World) (b o : Nat) : Prop := w.cell? ⟨b, o, none⟩ = some (.string ⟨#[109]⟩) ∧ w.cell? ⟨b, o + 1, none⟩ = some (.int .i64 1)
theorem fix_pcs (b o c : Nat) (w : World) (h : MinusAt w b o) (h1 : 1 ≤ c) (h2 : c ≤ 9223372036854775807) :
    Calls Tryd.prog 15 #[.slice (some ⟨b, o, none⟩) 1 c, .agg #[.string ⟨#[]⟩, .string ⟨#[]⟩, .string ⟨#[]⟩, .string ⟨#[]⟩, .string ⟨#[]⟩, .string ⟨#[]⟩, .string ⟨#[]⟩, .string ⟨#[]⟩, .string ⟨#[]⟩, .string ⟨#[]⟩, .string ⟨#[]⟩, .string ⟨#[]⟩, .string ⟨#[109]⟩, .string ⟨#[]⟩, .string ⟨#[]⟩, .string ⟨#[]⟩, .string ⟨#[]⟩, .string ⟨#[]⟩, .string ⟨#[]⟩, .string ⟨#[]⟩, .string ⟨#[]⟩], .string ⟨#[]⟩] w
    fun e w' => (∃ b o c, e = .returned (.slice (some ⟨b, o, none⟩) 1 c) ∧ 1 ≤ c ∧ c ≤ 9223372036854775807 ∧ PieceAt w' b o) ∧ Below w.heap.size w w' := by
  have s1 : ST w (some ⟨b, o, none⟩) 1 c [tok 1] := by
    refine ⟨rfl, h1, h2, fun _ => ⟨b, o, rfl, fun j u hu => ?_⟩⟩
    rcases j with _ | _ | _ | j
    · exact h.1.trans hu
    · exact h.2.1.trans hu
    · exact h.2.2.trans hu
    · simp [toks] at hu
  refine (pieces_calls _ 1 c [tok 1] (.string ⟨#[]⟩) (.string ⟨#[]⟩) (.string ⟨#[]⟩) (.string ⟨#[]⟩) (.string ⟨#[]⟩) (.string ⟨#[]⟩) (.string ⟨#[]⟩) (.string ⟨#[]⟩) (.string ⟨#[]⟩) (.string ⟨#[]⟩) (.string ⟨#[]⟩) (.string ⟨#[]⟩) ⟨⟨#[109]⟩, ⟨#[]⟩, ⟨#[]⟩, ⟨#[]⟩⟩ (.string ⟨#[]⟩) (.string ⟨#[]⟩) (.string ⟨#[]⟩) (.string ⟨#[]⟩) (.string ⟨#[]⟩) ⟨#[]⟩ w s1 (by decide)).mono ?_
  rintro e w' ⟨⟨v, rfl, ⟨A4, c4, rfl, s4, _⟩⟩, hb⟩
  rw [show pieces ⟨⟨#[109]⟩, ⟨#[]⟩, ⟨#[]⟩, ⟨#[]⟩⟩ ⟨#[]⟩ [tok 1] = [⟨⟨#[109]⟩, 1⟩] from rfl] at s4
  obtain ⟨b5, o5, e5, hc5⟩ := Sl.get s4 (by decide)
  subst e5
  exact ⟨⟨b5, o5, c4, rfl, Sl.le s4, Sl.cap s4, hc5 0 _ rfl, hc5 1 _ rfl⟩, hb⟩
theorem fix_eq (W : World) : (binOp .eql 59 (.agg #[.string ⟨#[109]⟩, .int .i64 1]) (.agg #[.string ⟨#[109]⟩, .int .i64 1])).run Tryd.prog W = .ok (.bool true) W := by
  have e := eql_agg (eq_pc 9998 W ⟨#[109]⟩ ⟨#[109]⟩ 1 1)
  simpa using e
set_option maxHeartbeats 8000000 in
set_option maxRecDepth 100000 in
theorem fixed_calls (w : World) : Calls Tryd.prog 13 #[] w fun e w' => e = .returned (.bool true) ∧ Below w.heap.size w w' := by
  have heq := fix_eq
  go_enter Tryd.func13, Tryd.ntmps13
  go_wp2_with (first
    | (go_at_call 17; first
        | ((with_reducible refine (fix_of1 _).mono ?_); rintro e w1 ⟨rfl, b1⟩)
        | ((with_reducible refine (fix_of2 _).mono ?_); rintro e w2 ⟨rfl, b2⟩))
    | (go_at_call 8; (with_reducible refine (fix_aff _).mono ?_); rintro e w3 ⟨⟨b, o, c, A, d, rfl, l1, l2, m3⟩, b3⟩; have k3 := m3.1))
  go_wp2_with (first
    | (go_at_call 15; (with_reducible refine (fix_pcs b o c _ m3 l1 l2).mono ?_); rintro e w4 ⟨⟨b5, o5, c5, rfl, n1, n2, p4⟩, b4⟩; have k4 := (b4.cell (World.block_lt_of_cell? w3 _ k3)).trans k3; have p1 := p4.1; have p2 := p4.2))
  go_ret
  exact ⟨rfl, b1.trans ((b2.trans ((b3.trans (b4.mono b3.size)).mono b2.size)).mono b1.size)⟩
end Go.Proofs.YtoplpoofbefjcaaDoor.Sg
