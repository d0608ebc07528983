/- Layer 19, on: rows of tokens of the call's own; Clip, Grow, Clone, Concat. -/
import Derived.Test.YtoplpoofbefjcaaDoorSgB
import Derived.Lib.AppendZeros
import Derived.Lib.LazyBuf
namespace Go.Proofs.YtoplpoofbefjcaaDoor.Sg
open Go.RowKit Go.Proofs.YtoplpoofbefjcaaDoor.Dig Go.Proofs.YtoplpoofbefjcaaDoor.W

theorem infoTok : (Tryd.prog.info? 35).map (fun i => (i.zero, i.size, i.bytes)) = some (some (.agg #[(.int .i64 0), (.int .i64 0), (.string ⟨#[]⟩)]), 3, 32) := by kernel_rfl
theorem toks_one : ∀ (l : List Tok), ∀ u ∈ toks l, u.oneCell' = true
  | [], _, h => by cases h
  | t :: r, u, h => by
    simp only [toks, List.mem_cons] at h
    rcases h with rfl | rfl | rfl | h
    · rfl
    · rfl
    · rfl
    · exact toks_one r u h
theorem heap_new (w : World) (o : Obj) : (w.alloc o).heap[w.heap.size]? = some o := by
  show (w.heap.push o)[w.heap.size]? = some o
  simp
/-- a row of tokens of the call's own -/
def OT (w : World) (base : Nat) (v : Value) (l : List Tok) : Prop := w.ownsRow base 35 3 v l.length (toks l)
theorem OT.nil (w : World) (base : Nat) : OT w base (.slice none 0 0) [] := ⟨rfl, .inl ⟨rfl, rfl⟩⟩
theorem OT.reads {w : World} {base : Nat} {v : Value} {l : List Tok} (h : OT w base v l) : ∃ A c, v = .slice A l.length c ∧ ST w A l.length c l := by
  rcases h.2 with ⟨rfl, h0⟩ | ⟨g, cap, cur, rfl, hb, hh, h1, h2, h3, h4⟩
  · obtain rfl := List.length_eq_zero_iff.1 h0
    exact ⟨none, 0, rfl, ⟨rfl, by simp, by omega, fun h => absurd h (by simp)⟩⟩
  · refine ⟨_, cap, rfl, ⟨toks_length l, h1, h2, fun _ => ⟨g, 0, rfl, fun j u hu => ?_⟩⟩⟩
    have := h.cells (g := g) rfl j u hu
    rwa [add_at] at this
theorem OT.below {w w' : World} {base : Nat} {v : Value} {l : List Tok} (h : OT w base v l) (hb : Below w.heap.size w w') : OT w' base v l :=
  World.ownsRow.kept h ⟨hb.os, hb.tape, hb.output, hb.size, fun i hi _ => hb.block i hi⟩ (by cases v.ownBlock <;> simp : v.ownBlock = none ∨ v.ownBlock ≠ none)
theorem OT.lower {w : World} {base base' : Nat} {v : Value} {l : List Tok} (h : OT w base v l) (hb : base' ≤ base) : OT w base' v l := by
  obtain ⟨h1, h2⟩ := h
  refine ⟨h1, ?_⟩
  rcases h2 with h2 | ⟨g, cap, cur, hv, hg, r⟩
  · exact .inl h2
  · exact .inr ⟨g, cap, cur, hv, by omega, r⟩

theorem OT.base_ {w : World} {base : Nat} {v : Value} {l : List Tok} (h : OT w base v l) (g : Nat) (hg : v.ownBlock = some g) : base ≤ g := by
  rcases h.2 with ⟨rfl, _⟩ | ⟨g', cap, cur, rfl, hb, hh, _⟩
  · simp [Value.ownBlock] at hg
  · have : g' = g := by simpa [Value.ownBlock] using hg
    omega
theorem clip_calls (A : Option Addr) (n c : Nat) (w : World) (h : n ≤ c) (hc : c ≤ 9223372036854775807) (hA : A = none → c = 0) :
    Calls Tryd.prog 20 #[.slice A n c] w fun e w' => e = .returned (.slice A n n) ∧ w = w' := by
  cases A with
  | none =>
    obtain rfl := hA rfl
    obtain rfl : n = 0 := by omega
    go_enter Tryd.func20, Tryd.ntmps20
    go_wp2
    go_ret
    exact ⟨rfl, rfl⟩
  | some a =>
    obtain ⟨b, o, s⟩ := a
    go_enter Tryd.func20, Tryd.ntmps20
    go_wp2
    go_ret
    exact ⟨rfl, rfl⟩
theorem grow_calls (n : Nat) (w : World) (hn : n * 32 ≤ 140737488355328) :
    Calls Tryd.prog 35 #[.slice none 0 0, .int .i64 (n : Nat)] w fun e w' => (∃ v, e = .returned v ∧ OT w' w.heap.size v []) ∧ Below w.heap.size w w' := by
  obtain ⟨i0, hi0, hz0, hz1, hz2⟩ := info_parts infoTok
  cases n with
  | zero =>
    go_enter Tryd.func35, Tryd.ntmps35
    go_wp2
    go_ret
    exact ⟨⟨_, rfl, OT.nil _ _⟩, Below.refl _ _⟩
  | succ n =>
    have hrz := fun ty => Lib.run_append_nil_zeros w 22 3 ty 35 i0 _ .i64 .i64 (by rfl) (by rfl) hi0 hz0 (n + 1) (by omega) (by omega) (by omega) (by rw [hz2]; omega)
    go_enter Tryd.func35, Tryd.ntmps35
    go_wp2_with (at_builtin; refine Lib.wpList_append_run _ rfl _ _ _ _ rfl _ _ rfl rfl _ _ (hrz _) ?_)
    go_ret
    have hge := grownCap_ge w (n + 1) 0 35
    have hle := grownCap_le_maxLen w (n + 1) 0 35 (by unfold maxLen; omega)
    refine ⟨⟨_, rfl, by simp [toks], .inr ⟨w.heap.size, _, _, rfl, Nat.le_refl _, heap_new w.drew _, Nat.zero_le _, hle, ?_, by simp [toks]⟩⟩, ?_⟩
    · rw [Array.size_append, size_zeroCells, size_zeroCells]
      show (n + 1) * 3 + (grownCap w (n + 1) 0 35 - (n + 1)) * 3 = _
      omega
    · exact (Below.refl _ _).drew.alloc (Nat.le_refl _) _
theorem wpList_append_toks (w : World) {ops : Array Oper} {rest : List Oper} {o : Oper} {a : Act} {Q : Exit → Act → World → Prop} (hgd : o.guard = none) (s x : Operand)
    (ho : o.op = .call { callee := .builtin .append, args := #[s, x], argTypes := #[22, 22] })
    (base : Nat) (v : Value) (l : List Tok) (hs : a.eval s = v) (hown : OT w base v l)
    (A : Option Addr) (m c : Nat) (l' : List Tok) (hx : a.eval x = .slice A m c) (hr : ST w A m c l')
    (hbytes : (l.length + m) * 32 ≤ 140737488355328) (hbase : base ≤ w.heap.size)
    (h : ∀ v' w', OT w' base v' (l ++ l') → w.grownBy w' v.ownBlock → wpList Tryd.prog ops Q rest (a.put o.dst v') w') : wpList Tryd.prog ops Q (o :: rest) a w := by
  obtain ⟨i0, hi0, hz0, hz1, hz2⟩ := info_parts infoTok
  have hm := hr.len
  refine wpList_plain hgd fun _ hK => wp_append_sl w s x 22 ho base 35 i0 _ 3 32 (by rfl) hi0 hz0 hz1 hz2 rfl (by omega) v _ _ hs hown A m c _ hx hr ?_ ?_ hbytes hbase fun v' w' h2 h3 _ => hK _ _ (h v' w' ?_ h3)
  · exact toks_one l'
  · unfold maxLen; omega
  · unfold OT
    rw [List.length_append, hm, toks_append]
    exact h2
theorem clone_calls (A : Option Addr) (n c : Nat) (l : List Tok) (w : World) (h : ST w A n c l) (hn : n * 32 ≤ 140737488355328) (hA : A = none → n = 0) :
    Calls Tryd.prog 21 #[.slice A n c] w fun e w' => (∃ v, e = .returned v ∧ OT w' w.heap.size v l) ∧ Below w.heap.size w w' := by
  have hnil := fun (w : World) (a : Option Addr) => run_eql_slice_nil w 22 35 a n c (P := Tryd.prog) (by rfl)
  have hn0 := run_eql_slice_nil w 22 35 none 0 c (P := Tryd.prog) (by rfl)
  cases A with
  | none =>
    obtain rfl := hA rfl
    obtain rfl := List.length_eq_zero_iff.1 h.len
    go_enter Tryd.func21, Tryd.ntmps21
    go_wp2
    go_ret
    exact ⟨⟨_, rfl, OT.nil _ _⟩, Below.refl _ _⟩
  | some a =>
    obtain ⟨b, o, s⟩ := a
    go_enter Tryd.func21, Tryd.ntmps21
    have hown0 : OT (w.alloc (.cells #[] 35)) w.heap.size (.slice (some ⟨w.heap.size, 0, none⟩) 0 0) [] := ⟨rfl, .inr ⟨w.heap.size, 0, #[], rfl, Nat.le_refl _, heap_new _ _, Nat.le_refl _, by simp, rfl, rfl⟩⟩
    have hb0 : Below w.heap.size w (w.alloc (.cells #[] 35)) := (Below.refl _ _).alloc (Nat.le_refl _) _
    have h0 := h.below hb0
    have HB := Lib.hid hb0
    clear hb0 h
    go_wp2_with (at_builtin; refine wpList_append_toks _ rfl (.tmp 5) (.tmp 6) rfl w.heap.size _ [] rfl hown0 _ n c l rfl h0 (by simpa using hn) HB.out.size ?_; intro v4 w4 hown4 hg4)
    go_ret
    exact ⟨⟨_, rfl, hown4⟩, HB.out.grown (row := some w.heap.size) hg4 HB.out.size (by intro k hk; injection hk; omega)⟩
end Go.Proofs.YtoplpoofbefjcaaDoor.Sg
