/- Layer 19, on: SignPieces, the walk. -/
import Derived.Test.YtoplpoofbefjcaaDoorSgI
namespace Go.Proofs.YtoplpoofbefjcaaDoor.Sg
open Go.RowKit Go.Proofs.YtoplpoofbefjcaaDoor.Dig Go.Proofs.YtoplpoofbefjcaaDoor.W

theorem OP.sp {w : World} {base : Nat} {v : Value} {l : List Pc} (h : OP w base v l) : ∃ A c, v = .slice A l.length c ∧ SP w A l.length c l := by
  rcases h.2 with ⟨rfl, h0⟩ | ⟨g, cap, cur, rfl, hb, hh, h1, h2, h3, h4⟩
  · obtain rfl := List.length_eq_zero_iff.1 h0
    exact ⟨none, 0, rfl, ⟨rfl, by simp, by omega, fun h => absurd h (by simp)⟩⟩
  · refine ⟨_, cap, rfl, ⟨pcs_length l, h1, h2, fun _ => ⟨g, 0, rfl, fun j u hu => ?_⟩⟩⟩
    have := h.cells (g := g) rfl j u hu
    rwa [add_at] at this
theorem pieces_agg (A : Option Addr) (n c : Nat) (l : List Tok) (d0 d1 d2 d3 d4 d5 d6 d7 d8 d9 dc gr : Value) (s : Sy) (ex inf nan ap ra : Value) (coin : ByteArray) (w : World) (h : ST w A n c l) (hn : n * 32 ≤ 140737488355328) :
    Calls Tryd.prog 15 #[.slice A n c, .agg #[d0, d1, d2, d3, d4, d5, d6, d7, d8, d9, dc, gr, .string s.minus, .string s.plus, .string s.percent, .string s.permille, ex, inf, nan, ap, ra], .string coin] w fun e w' => (∃ A' n' c', e = .returned (.slice A' n' c') ∧ SP w' A' n' c' (pieces s coin l)) ∧ Below w.heap.size w w' := by
  refine (pieces_calls A n c l d0 d1 d2 d3 d4 d5 d6 d7 d8 d9 dc gr s ex inf nan ap ra coin w h hn).mono ?_
  rintro e w' ⟨⟨v, rfl, ⟨A', c', rfl, hs, _⟩⟩, hb⟩
  exact ⟨⟨A', _, c', rfl, hs⟩, hb⟩
theorem rpieces_agg (A : Option Addr) (n c : Nat) (l : List Tok) (d0 d1 d2 d3 d4 d5 d6 d7 d8 d9 dc gr : Value) (s : Sy) (ex inf nan ap ra : Value) (coin : ByteArray) (w : World) (h : ST w A n c l) (hn : n * 32 ≤ 140737488355328) :
    Calls Tryd.prog 16 #[.slice A n c, .agg #[d0, d1, d2, d3, d4, d5, d6, d7, d8, d9, dc, gr, .string s.minus, .string s.plus, .string s.percent, .string s.permille, ex, inf, nan, ap, ra], .string coin] w fun e w' => (∃ A' n' c', e = .returned (.slice A' n' c') ∧ SP w' A' n' c' (pieces s coin l)) ∧ Below w.heap.size w w' := by
  refine (rpieces_calls A n c l d0 d1 d2 d3 d4 d5 d6 d7 d8 d9 dc gr s ex inf nan ap ra coin w h hn).mono ?_
  rintro e w' ⟨⟨v, rfl, ho⟩, hb⟩
  obtain ⟨A', c', rfl, hs⟩ := ho.sp
  exact ⟨⟨A', _, c', rfl, hs⟩, hb⟩
/-- a block that holds one value of several cells, by its pointer -/
def rowV (w : World) (v : Value) : Array Value := match v with
  | .pointer (some a) => (match w.heap[a.block]? with | some (.cells cs _ _) => cs | _ => #[])
  | _ => #[]
def RowV (w : World) (v : Value) (t : TypeId) (n : Nat) : Prop := ∃ g cs, v = .pointer (some ⟨g, 0, none⟩) ∧ w.heap[g]? = some (.cells cs t (0, 0)) ∧ cs.size = n
theorem RowV.mk {w : World} {g : Nat} {t : TypeId} {cs : Array Value} (h : w.heap[g]? = some (.cells cs t (0, 0))) : RowV w (.pointer (some ⟨g, 0, none⟩)) t cs.size := ⟨g, cs, rfl, h, rfl⟩
theorem rowV_eq {w : World} {g : Nat} {t : TypeId} {cs : Array Value} {fr : Nat × Nat} (h : w.heap[g]? = some (.cells cs t fr)) : rowV w (.pointer (some ⟨g, 0, none⟩)) = cs := by simp [rowV, h]
theorem exec_load_sym {w : World} {ev : Operand → Value} {x : Operand} {dst : Option Tmp} {ty : TypeId} {pos : String} {after : Array Edge} {guard : Option (Nat × Bool)} (h : RowV w (ev x) 40 21) :
    (execOp ev ⟨dst, .load 40 x, ty, pos, after, guard⟩).run Tryd.prog w = .ok (.value (.agg (rowV w (ev x)))) w := by
  obtain ⟨g, cs, hx, hg, hs⟩ := h
  rw [hx, rowV_eq hg]
  unfold execOp
  simp only [hx, Instr.loadAt, Instr.sureAddr, Sem.run_bind, Sem.run_pure, Result.andThen_ok, run_loadVar_row w g _ _ cs _ _ hg Tryd.underlying40 rfl (by rw [hs]; kernel_rfl)]
attribute [local go_sem ↓] exec_load_sym
set_option maxHeartbeats 4000000 in
set_option maxRecDepth 100000 in
theorem signPieces_calls (A : Option Addr) (n c : Nat) (l : List Tok) (d0 d1 d2 d3 d4 d5 d6 d7 d8 d9 dc gr : Value) (s : Sy) (ex inf nan ap ra : Value) (coin : ByteArray) (w : World) (h : ST w A n c l) (hn : n * 32 ≤ 140737488355328) :
    Calls Tryd.prog 4 #[.slice A n c, .agg #[d0, d1, d2, d3, d4, d5, d6, d7, d8, d9, dc, gr, .string s.minus, .string s.plus, .string s.percent, .string s.permille, ex, inf, nan, ap, ra], .string coin] w fun e w' => e = .returned (.bool true) ∧ Below w.heap.size w w' := by
  have hs : (w.alloc (.cells #[d0, d1, d2, d3, d4, d5, d6, d7, d8, d9, dc, gr, .string s.minus, .string s.plus, .string s.percent, .string s.permille, ex, inf, nan, ap, ra] 40)).heap[w.heap.size]? = some (.cells #[d0, d1, d2, d3, d4, d5, d6, d7, d8, d9, dc, gr, .string s.minus, .string s.plus, .string s.percent, .string s.permille, ex, inf, nan, ap, ra] 40 (0, 0)) := heap_new w _
  have hb1 : Below w.heap.size w (w.alloc (.cells #[d0, d1, d2, d3, d4, d5, d6, d7, d8, d9, dc, gr, .string s.minus, .string s.plus, .string s.percent, .string s.permille, ex, inf, nan, ap, ra] 40)) := below1 _ _
  have hg : w.heap.size < (w.alloc (.cells #[d0, d1, d2, d3, d4, d5, d6, d7, d8, d9, dc, gr, .string s.minus, .string s.plus, .string s.percent, .string s.permille, ex, inf, nan, ap, ra] 40)).heap.size := by simp
  have h1 := h.below hb1
  obtain ⟨w1, hw1⟩ : ∃ w1, w1 = w.alloc (.cells #[d0, d1, d2, d3, d4, d5, d6, d7, d8, d9, dc, gr, .string s.minus, .string s.plus, .string s.percent, .string s.permille, ex, inf, nan, ap, ra] 40) := ⟨_, rfl⟩
  rw [← hw1] at hs h1 hb1 hg
  have HW := Lib.hid hw1
  clear hw1
  have h2 := h1.below (Below.refl w1.heap.size w1).drew
  have hs2 : w1.drew.heap[w.heap.size]? = some (.cells #[d0, d1, d2, d3, d4, d5, d6, d7, d8, d9, dc, gr, .string s.minus, .string s.plus, .string s.percent, .string s.permille, ex, inf, nan, ap, ra] 40 (0, 0)) := hs
  have C1 := pieces_agg A n c l d0 d1 d2 d3 d4 d5 d6 d7 d8 d9 dc gr s ex inf nan ap ra coin w1.drew h2 hn
  have C2 := fun w2 (hb : Below w1.drew.heap.size w1.drew w2) => rpieces_agg A n c l d0 d1 d2 d3 d4 d5 d6 d7 d8 d9 dc gr s ex inf nan ap ra coin w2 (h2.below hb) hn
  have R1 : RowV w1.drew (.pointer (some ⟨w.heap.size, 0, none⟩)) 40 21 := RowV.mk hs2
  have R2 : ∀ w2, Below w1.drew.heap.size w1.drew w2 → RowV w2 (.pointer (some ⟨w.heap.size, 0, none⟩)) 40 21 ∧ rowV w2 (.pointer (some ⟨w.heap.size, 0, none⟩)) = rowV w1.drew (.pointer (some ⟨w.heap.size, 0, none⟩)) := fun w2 hb => ⟨RowV.mk ((hb.block _ hg).trans hs2), by rw [rowV_eq hs2, rowV_eq ((hb.block _ hg).trans hs2)]⟩
  rw [← rowV_eq hs2] at C1 C2
  have K1 := Lib.hid C1
  have K2 := Lib.hid C2
  have KR := Lib.hid R2
  clear C1 C2 R2 hs2 hs
  go_enter Tryd.func4, Tryd.ntmps4
  go_wp2
  rw [← HW.out]
  clear h HW
  go_region_held3 (fun w' => RowV w' (.pointer (some ⟨w.heap.size, 0, none⟩)) 40 21 ∧ rowV w' (.pointer (some ⟨w.heap.size, 0, none⟩)) = rowV w1.drew (.pointer (some ⟨w.heap.size, 0, none⟩)))
    (first
      | exact ⟨R1, rfl⟩
      | exact KR.out _ b2
      | exact KR.out _ (b2.trans (b3.mono b2.size))
      | exact KR.out _ (b2.trans ((b3.trans (y4.below.mono b3.size)).mono b2.size))
      | exact KR.out _ (b2.trans ((b3.trans ((y4.below.trans (b5.mono y4.below.size)).mono b3.size)).mono b2.size)))
    (first
      | (go_at_call 15; (with_reducible refine K1.out.mono ?_); rintro e w2 ⟨⟨A2, n2, c2, rfl, s2⟩, b2⟩)
      | (go_at_call 16; (with_reducible refine (K2.out w2 b2).mono ?_); rintro e w3 ⟨⟨A3, n3, c3, rfl, s3⟩, b3⟩)
      | (go_at_call 14; (with_reducible refine (same_pcs A2 A3 n2 c2 n3 c3 _ w3 (s2.below b3) s3).mono ?_); rintro e w4 ⟨rfl, y4⟩)
      | (go_at_call 13; (with_reducible refine (fixed_calls w4).mono ?_); rintro e w5 ⟨rfl, b5⟩))
  go_wp2
  go_ret
  exact ⟨rfl, hb1.trans (((Below.refl w1.heap.size w1).drew.trans (b2.trans ((b3.trans ((y4.below.trans (b5.mono y4.below.size)).mono b3.size)).mono b2.size))).mono hb1.size)⟩
end Go.Proofs.YtoplpoofbefjcaaDoor.Sg
