/- Layer 19: a slice of tokens, opened. -/
import Derived.Test.YtoplpoofbefjcaaDoorSgB
import Derived.Test.YtoplpoofbefjcaaDoorOpen
namespace Go.Proofs.YtoplpoofbefjcaaDoor.Sg
open Go.RowKit Go.Proofs.YtoplpoofbefjcaaDoor.Dig Go.Proofs.YtoplpoofbefjcaaDoor.W Go.Proofs.YtoplpoofbefjcaaDoor.Open

theorem chunks_toks : ∀ (n : Nat) (cs : List Value), Chunks [.int .i64, .int .i64, .str] n cs → ∃ l : List Tok, l.length = n ∧ toks l = cs
  | 0, cs, h => ⟨[], rfl, h.symm⟩
  | n + 1, cs, ⟨a, b, hab, ha, hb⟩ => by
    obtain ⟨l, hl, hk⟩ := chunks_toks n a ha
    obtain ⟨x0, s0, e0, ⟨k, hx0, _⟩, F1⟩ := hb.cons_
    obtain ⟨x1, s1, e1, ⟨m, hx1, _⟩, F2⟩ := F1.cons_
    obtain ⟨x2, s2, e2, ⟨t, hx2, _⟩, F3⟩ := F2.cons_
    have e3 := F3.nil_
    refine ⟨l ++ [⟨k, m, t⟩], by simp [hl], ?_⟩
    rw [toks_append, hk, hab, e0, e1, e2, e3, hx0, hx1, hx2]
    rfl
theorem row_toks {w : World} {b : Nat} {v : Value} (h : (L1.row [.int .i64, .int .i64, .str] b).Is w v) :
    ∃ (A : Option Addr) (n c : Nat) (l : List Tok), v = .slice A n c ∧ ST w A n c l ∧ c * b ≤ 140737488351232 ∧ (A = none → c = 0) := by
  obtain ⟨A, n, c, cs, rfl, hs, hb, hA, hC⟩ := row_sl (by decide) h
  obtain ⟨l, hl, rfl⟩ := chunks_toks n cs hC
  exact ⟨A, n, c, l, rfl, hs, hb, hA⟩
end Go.Proofs.YtoplpoofbefjcaaDoor.Sg
