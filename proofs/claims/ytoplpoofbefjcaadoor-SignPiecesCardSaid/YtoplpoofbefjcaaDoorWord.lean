/- Words for memory: a slice that reads as a list, a row of the call's own, append onto it. -/
import Derived.Test.YtoplpoofbefjcaaDoorDig
import Derived.Test.YtoplpoofbefjcaaDoorProg
import Derived.WalkKit
import Derived.Lib.Hide
import Derived.IntWalk
import Derived.Outline
import Derived.Below
import Derived.Laws.OwnMore
import Derived.Deep.AppendLies
import Derived.Deep.Draws
import Derived.Maps.AppendAt
import Derived.RegionTactic
import Derived.OwnWalk
import Derived.Deep.QuietTactic
import Derived.BigQuiet
import Derived.Deep.LoopGhost
import Derived.Deep.RegionHeld3
namespace Go.Proofs.YtoplpoofbefjcaaDoor.W
open Go.RowKit Go.Proofs.YtoplpoofbefjcaaDoor.Dig

theorem add_at (b o n : Nat) : (⟨b, o, none⟩ : Addr).add n = ⟨b, o + n, none⟩ := by
  unfold Addr.add; split
  · simp_all
  · rfl

/-- A slice that reads as a list of cells, sz cells an element. -/
structure Sl (w : World) (sz : Nat) (A : Option Addr) (n c : Nat) (xs : List Value) : Prop where
  len : xs.length = n * sz
  le : n ≤ c
  cap : c ≤ 9223372036854775807
  get : 0 < n → ∃ b o, A = some ⟨b, o, none⟩ ∧ ∀ j u, xs[j]? = some u → w.cell? ⟨b, o + j, none⟩ = some u
/-- whole numbers as cells -/
def nums (k : IntKind) (xs : List Nat) : List Value := xs.map fun x => .int k (x : Nat)
theorem nums_length (k : IntKind) (xs : List Nat) : (nums k xs).length = xs.length := by simp [nums]
theorem nums_append (k : IntKind) (xs ys : List Nat) : nums k (xs ++ ys) = nums k xs ++ nums k ys := by simp [nums]
theorem nums_get (k : IntKind) (xs : List Nat) (j : Nat) (h : j < xs.length) : (nums k xs)[j]? = some (.int k (rd xs j : Nat)) := by
  unfold nums rd; rw [List.getElem?_map, List.getD_eq_getElem?_getD, List.getElem?_eq_getElem h]; rfl
theorem nums_take (k : IntKind) (xs : List Nat) (m : Nat) : (nums k xs).take m = nums k (xs.take m) := by simp [nums]
theorem nums_drop (k : IntKind) (xs : List Nat) (m : Nat) : (nums k xs).drop m = nums k (xs.drop m) := by simp [nums]
theorem nums_one (k : IntKind) (xs : List Nat) : ∀ u ∈ nums k xs, u.oneCell' = true := by
  intro u hu; unfold nums at hu; obtain ⟨x, _, rfl⟩ := List.mem_map.1 hu; rfl
theorem nums_set (k : IntKind) (xs : List Nat) (j x : Nat) : (nums k xs).set j (.int k (x : Nat)) = nums k (xs.set j x) := by simp [nums, List.map_set]
/-- A slice of whole numbers. -/
def SI (w : World) (k : IntKind) (A : Option Addr) (n c : Nat) (xs : List Nat) : Prop := Sl w 1 A n c (nums k xs)

section
variable {w w' : World} {sz n c B : Nat} {A : Option Addr} {xs : List Value} {k : IntKind} {l : List Nat}
theorem Sl.below (h : Sl w sz A n c xs) (hb : Below w.heap.size w w') : Sl w' sz A n c xs :=
  ⟨h.len, h.le, h.cap, fun hn => by
    obtain ⟨b, o, e, hc⟩ := h.get hn
    exact ⟨b, o, e, fun j u hu => (hb.cell (p := ⟨b, o + j, none⟩) (World.block_lt_of_cell? w _ (hc j u hu))).trans (hc j u hu)⟩⟩
theorem Sl.grown (h : Sl w sz A n c xs) {row : Option Nat} (hg : w.grownBy w' row) (hr : ∀ b o, A = some ⟨b, o, none⟩ → some b ≠ row) : Sl w' sz A n c xs :=
  ⟨h.len, h.le, h.cap, fun hn => by
    obtain ⟨b, o, e, hc⟩ := h.get hn
    exact ⟨b, o, e, fun j u hu => hg.cell (hc j u hu) (hr b o e)⟩⟩
theorem Sl.drewN (h : Sl w sz A n c xs) (m : Nat) : Sl (w.drewN m) sz A n c xs := ⟨h.len, h.le, h.cap, h.get⟩
theorem Sl.alloc (h : Sl w sz A n c xs) (o : Obj) : Sl (w.alloc o) sz A n c xs := h.below ((Below.refl _ _).alloc (Nat.le_refl _) o)
theorem SI.len (h : SI w k A n c l) : l.length = n := by have := Sl.len h; rw [nums_length] at this; omega
theorem SI.at_ (h : SI w k A n c l) {j : Nat} (hj : j < n) : ∃ b o, A = some ⟨b, o, none⟩ ∧ w.cell? ⟨b, o + j, none⟩ = some (.int k (rd l j : Nat)) := by
  obtain ⟨b, o, e, hc⟩ := Sl.get h (by omega)
  exact ⟨b, o, e, hc j _ (nums_get k l j (by rw [h.len]; exact hj))⟩
theorem SI.all_ (h : SI w k A n c l) (hn : 0 < n) : ∃ b o, A = some ⟨b, o, none⟩ ∧ ∀ j, j < n → w.cell? ⟨b, o + j, none⟩ = some (.int k (rd l j : Nat)) := by
  obtain ⟨b, o, e, hc⟩ := Sl.get h hn
  exact ⟨b, o, e, fun j hj => hc j _ (nums_get k l j (by rw [h.len]; exact hj))⟩
theorem SI.below (h : SI w k A n c l) (hb : Below w.heap.size w w') : SI w' k A n c l := Sl.below h hb
theorem SI.drewN (h : SI w k A n c l) (m : Nat) : SI (w.drewN m) k A n c l := Sl.drewN h m
theorem SI.alloc (h : SI w k A n c l) (o : Obj) : SI (w.alloc o) k A n c l := Sl.alloc h o
theorem SI.take (h : SI w k A n c l) {m : Nat} (hm : m ≤ n) : SI w k A m c (l.take m) :=
  ⟨by rw [nums_length, List.length_take, h.len]; omega, by have := Sl.le h; omega, Sl.cap h, fun hm0 => by
    obtain ⟨b, o, e, hc⟩ := Sl.get h (by omega)
    refine ⟨b, o, e, fun j u hu => hc j u ?_⟩
    rw [← nums_take] at hu
    have hj : j < m := by
      have := (List.getElem?_eq_some_iff.1 hu).1
      rw [List.length_take] at this; omega
    rw [List.getElem?_take_of_lt hj] at hu
    exact hu⟩
theorem SI.drop (h : SI w k (some ⟨B, sz, none⟩) n c l) {m : Nat} (hm : m ≤ n) : SI w k (some ⟨B, sz + m, none⟩) (n - m) (c - m) (l.drop m) :=
  ⟨by rw [nums_length, List.length_drop, h.len]; omega, by have := Sl.le h; omega, by have := Sl.cap h; omega, fun hm0 => by
    obtain ⟨b, o, e, hc⟩ := Sl.get h (by omega)
    injection e with e; injection e with e1 e2; subst e1; subst e2
    refine ⟨B, sz + m, rfl, fun j u hu => ?_⟩
    rw [← nums_drop, List.getElem?_drop] at hu
    rw [Nat.add_assoc]
    exact hc _ u hu⟩
theorem SI.nil (w : World) (k : IntKind) (A : Option Addr) (c : Nat) (hc : c ≤ 9223372036854775807) : SI w k A 0 c [] := ⟨rfl, Nat.zero_le _, hc, fun h => absurd h (by omega)⟩

/-- A row of whole numbers of the call's own. -/
def Ow (w : World) (base : Nat) (e : TypeId) (k : IntKind) (v : Value) (l : List Nat) : Prop := w.ownsRow base e 1 v l.length (nums k l)
variable {base : Nat} {e : TypeId} {v : Value}
theorem Ow.nil (w : World) (base : Nat) (e : TypeId) (k : IntKind) : Ow w base e k (.slice none 0 0) [] := ⟨by simp [nums], .inl ⟨rfl, rfl⟩⟩
theorem Ow.reads (h : Ow w base e k v l) : ∃ A c, v = .slice A l.length c ∧ SI w k A l.length c l := by
  rcases h.2 with ⟨rfl, h0⟩ | ⟨g, cap, cur, rfl, hb, hh, h1, h2, h3, h4⟩
  · exact ⟨none, 0, by rw [h0], by rw [h0, List.length_eq_zero_iff.1 h0]; exact SI.nil _ _ _ _ (by omega)⟩
  · refine ⟨_, cap, rfl, ⟨by rw [nums_length]; omega, h1, h2, fun _ => ⟨g, 0, rfl, fun j u hu => ?_⟩⟩⟩
    have := h.cells (g := g) rfl j u hu
    rwa [add_at] at this
theorem Ow.below (h : Ow w base e k v l) (hb : Below w.heap.size w w') : Ow w' base e k v l :=
  World.ownsRow.kept h ⟨hb.os, hb.tape, hb.output, hb.size, fun i hi _ => hb.block i hi⟩ (by cases v.ownBlock <;> simp : v.ownBlock = none ∨ v.ownBlock ≠ none)
theorem Ow.lower {base' : Nat} (h : Ow w base e k v l) (hb : base' ≤ base) : Ow w base' e k v l := by
  obtain ⟨h1, h2⟩ := h
  refine ⟨h1, ?_⟩
  rcases h2 with h2 | ⟨g, cap, cur, hv, hg, r⟩
  · exact .inl h2
  · exact .inr ⟨g, cap, cur, hv, by omega, r⟩
theorem Ow.base_ (h : Ow w base e k v l) (g : Nat) (hg : v.ownBlock = some g) : base ≤ g := by
  rcases h.2 with ⟨rfl, _⟩ | ⟨g', cap, cur, rfl, hb, _⟩
  · simp [Value.ownBlock] at hg
  · have : g' = g := by simpa [Value.ownBlock] using hg
    omega
theorem Ow.lt_ (h : Ow w base e k v l) (g : Nat) (hg : v.ownBlock = some g) : g < w.heap.size := by
  rcases h.2 with ⟨rfl, _⟩ | ⟨g', cap, cur, rfl, hb, hh, _⟩
  · simp [Value.ownBlock] at hg
  · have : g' = g := by simpa [Value.ownBlock] using hg
    subst this
    exact (Array.getElem?_eq_some_iff.1 hh).1
theorem Ow.alloc (h : Ow w base e k v l) (o : Obj) : Ow (w.alloc o) base e k v l := h.below ((Below.refl _ _).alloc (Nat.le_refl _) o)
theorem Ow.drewN (h : Ow w base e k v l) (m : Nat) : Ow (w.drewN m) base e k v l := h
theorem Ow.take {A : Option Addr} {n : Nat} (h : Ow w base e k (.slice A n c) l) {m : Nat} (hm : m ≤ n) : Ow w base e k (.slice A m c) (l.take m) := by
  have hl : l.length = n := by
    rcases h.2 with ⟨h0, h0'⟩ | ⟨g, cap, cur, hv, _⟩
    · injection h0 with _ h0 _; omega
    · injection hv with _ hv _; exact hv.symm
  refine ⟨by rw [nums_length]; omega, ?_⟩
  have hlm : (l.take m).length = m := by rw [List.length_take]; omega
  rw [hlm]
  rcases h.2 with ⟨h0, h0'⟩ | ⟨g, cap, cur, hv, hb, hh, h1, h2, h3, h4⟩
  · injection h0 with e1 e2 e3
    subst e1; subst e3
    have : m = 0 := by omega
    subst this
    exact .inl ⟨rfl, rfl⟩
  · injection hv with e1 e2 e3
    subst e1; subst e3
    refine .inr ⟨g, c, cur, rfl, hb, hh, by omega, h2, h3, ?_⟩
    rw [← nums_take, ← h4, List.take_take]
    congr 1; omega
end

/- append onto a row of the call's own; the source may be nil -/
section
variable {P : Program} (w : World)
theorem run_append_of_nil (base : Nat) (t ty e : TypeId) (i : TypeInfo) (size : Nat) (ht : P.underlying t = some (.slice e)) (hi : P.info? e = some i)
    (v : Value) (n : Nat) (xs : List Value) (hown : w.ownsRow base e size v n xs) (c : Nat) : (Builtin.append_ #[t, t] ty #[v, .slice none 0 c]).run P w = .ok v w := by
  rcases hown.2 with ⟨rfl, rfl⟩ | ⟨g, cap, cur, rfl, _, _, hnc, _⟩
  · simp [Builtin.append_, run_underlying ht, sizeOf, typeInfo, hi, Builtin.lenOf, Builtin.firstCells]
  · simp [Builtin.append_, run_underlying ht, sizeOf, typeInfo, hi, Builtin.lenOf, Builtin.firstCells, hnc, storeCells]
theorem run_append_sl (base : Nat) (t ty e : TypeId) (i : TypeInfo) (z : Value) (size bytes : Nat) (ht : P.underlying t = some (.slice e)) (hi : P.info? e = some i) (hz : i.zero = some z)
    (hsize : i.size = size) (hby : i.bytes = bytes) (hzs : z.cells.size = size) (hsz : 0 < size)
    (v : Value) (n : Nat) (xs : List Value) (hown : w.ownsRow base e size v n xs)
    (A : Option Addr) (m c : Nat) (news : List Value) (hr : Sl w size A m c news) (h1 : ∀ u ∈ news, u.oneCell' = true)
    (h63 : n + m ≤ maxLen) (hbytes : (n + m) * bytes ≤ 140737488355328) (hbase : base ≤ w.heap.size) :
    ∃ v' w', (Builtin.append_ #[t, t] ty #[v, .slice A m c]).run P w = .ok v' w' ∧ w'.ownsRow base e size v' (n + m) (xs ++ news) ∧ w.grownBy w' v.ownBlock ∧
      (v'.ownBlock = v.ownBlock ∨ v'.ownBlock = some w.heap.size) := by
  rcases A with _ | ad
  · have hm : m = 0 := by
      rcases Nat.eq_zero_or_pos m with h0 | h0
      · exact h0
      · obtain ⟨b, o, h, _⟩ := hr.get h0
        cases h
    subst hm
    have hn : news = [] := List.eq_nil_of_length_eq_zero (by simpa using hr.len)
    subst hn
    exact ⟨v, w, run_append_of_nil w base t ty e i size ht hi v n xs hown c, by simpa using hown, World.grownBy.refl w _, .inl rfl⟩
  · have hcells : ∀ j u, news[j]? = some u → w.cell? (ad.add j) = some u := by
      intro j u hu
      rcases Nat.eq_zero_or_pos m with h0 | h0
      · subst h0
        have hn : news = [] := List.eq_nil_of_length_eq_zero (by simpa using hr.len)
        subst hn
        simp at hu
      · obtain ⟨b, o, h, hc⟩ := hr.get h0
        injection h with h
        subst h
        rw [add_at]
        exact hc j u hu
    obtain ⟨v', w', hrun, h2, h3, _, h5⟩ := run_append_own_at (P := P) w base t ty e i z size bytes ht hi hz hsize hby hzs hsz v n xs hown ad m c news hr.len hcells h1 h63 hbytes hbase
    exact ⟨v', w', hrun, h2, h3, h5⟩
theorem wp_append_sl {o : Oper} {a : Act} {K : Act → World → Prop} {Q : Exit → Act → World → Prop} (s x : Operand) (t : TypeId)
    (ho : o.op = .call { callee := .builtin .append, args := #[s, x], argTypes := #[t, t] })
    (base : Nat) (e : TypeId) (i : TypeInfo) (z : Value) (size bytes : Nat) (ht : P.underlying t = some (.slice e)) (hi : P.info? e = some i) (hz : i.zero = some z)
    (hsize : i.size = size) (hby : i.bytes = bytes) (hzs : z.cells.size = size) (hsz : 0 < size)
    (v : Value) (n : Nat) (xs : List Value) (hs : a.eval s = v) (hown : w.ownsRow base e size v n xs)
    (A : Option Addr) (m c : Nat) (news : List Value) (hx : a.eval x = .slice A m c) (hr : Sl w size A m c news) (h1 : ∀ u ∈ news, u.oneCell' = true)
    (h63 : n + m ≤ maxLen) (hbytes : (n + m) * bytes ≤ 140737488355328) (hbase : base ≤ w.heap.size)
    (h : ∀ v' w', w'.ownsRow base e size v' (n + m) (xs ++ news) → w.grownBy w' v.ownBlock → (v'.ownBlock = v.ownBlock ∨ v'.ownBlock = some w.heap.size) → K (a.put o.dst v') w') : o.wp P a w K Q := by
  obtain ⟨v', w', hrun, h2, h3, h4⟩ := run_append_sl (P := P) w base t o.type e i z size bytes ht hi hz hsize hby hzs hsz v n xs hown A m c news hr h1 h63 hbytes hbase
  unfold Oper.wp execOp
  simp only [ho, resolve, invoke, builtin, Sem.run_bind, Sem.run_pure, Result.andThen_ok, List.map_toArray, List.map_cons, List.map_nil, hs, hx, hrun]
  exact h v' w' h2 h3 h4
/-- whole numbers appended to whole numbers of the call's own -/
theorem wpList_append_nums {ops : Array Oper} {rest : List Oper} {o : Oper} {a : Act} {Q : Exit → Act → World → Prop} (hgd : o.guard = none) (s x : Operand) (t : TypeId)
    (ho : o.op = .call { callee := .builtin .append, args := #[s, x], argTypes := #[t, t] })
    (base : Nat) (e : TypeId) (k : IntKind) (bytes : Nat) (ht : P.underlying t = some (.slice e)) (hi : (P.info? e).map (fun i => (i.zero, i.size, i.bytes)) = some (some (.int k 0), 1, bytes))
    (v : Value) (l : List Nat) (hs : a.eval s = v) (hown : Ow w base e k v l)
    (A : Option Addr) (m c : Nat) (l' : List Nat) (hx : a.eval x = .slice A m c) (hr : SI w k A m c l')
    (hbytes : (l.length + m) * bytes ≤ 140737488355328) (hb0 : 0 < bytes) (hbase : base ≤ w.heap.size)
    (h : ∀ v' w', Ow w' base e k v' (l ++ l') → w.grownBy w' v.ownBlock → wpList P ops Q rest (a.put o.dst v') w') : wpList P ops Q (o :: rest) a w := by
  obtain ⟨i0, hi0, hz0, hz1, hz2⟩ := info_parts hi
  have hm : l'.length = m := hr.len
  refine wpList_plain hgd fun _ hK => wp_append_sl w s x t ho base e i0 _ 1 bytes ht hi0 hz0 hz1 hz2 rfl (by omega) v _ _ hs hown A m c _ hx hr (nums_one k l') ?_ hbytes hbase fun v' w' h2 h3 _ => hK _ _ (h v' w' ?_ h3)
  · unfold maxLen
    have : (l.length + m) * 1 ≤ (l.length + m) * bytes := Nat.mul_le_mul_left _ hb0
    omega
  · unfold Ow
    rw [List.length_append, hm, nums_append]
    exact h2
theorem step_append_nums {ops : Array Oper} {o : Oper} {a : Act} {K : Act → World → Prop} {Q : Exit → Act → World → Prop} {E : Prop} (hgd : o.guard = none) (s x : Operand) (t : TypeId)
    (ho : o.op = .call { callee := .builtin .append, args := #[s, x], argTypes := #[t, t] })
    (base : Nat) (e : TypeId) (k : IntKind) (bytes : Nat) (ht : P.underlying t = some (.slice e)) (hi : (P.info? e).map (fun i => (i.zero, i.size, i.bytes)) = some (some (.int k 0), 1, bytes))
    (v : Value) (l : List Nat) (hs : a.eval s = v) (hown : Ow w base e k v l)
    (A : Option Addr) (m c : Nat) (l' : List Nat) (hx : a.eval x = .slice A m c) (hr : SI w k A m c l')
    (hbytes : (l.length + m) * bytes ≤ 140737488355328) (hb0 : 0 < bytes) (hbase : base ≤ w.heap.size)
    (h : ∀ v' w', Ow w' base e k v' (l ++ l') → w.grownBy w' v.ownBlock → K (a.put o.dst v') w') : if Region.wanted o (yielded ops a.tmps) = true then Oper.wp P o a w K Q else E := by
  have hw : Region.wanted o (yielded ops a.tmps) = true := by simp [Region.wanted, hgd]
  rw [if_pos hw]
  obtain ⟨i0, hi0, hz0, hz1, hz2⟩ := info_parts hi
  have hm : l'.length = m := hr.len
  refine wp_append_sl w s x t ho base e i0 _ 1 bytes ht hi0 hz0 hz1 hz2 rfl (by omega) v _ _ hs hown A m c _ hx hr (nums_one k l') ?_ hbytes hbase fun v' w' h2 h3 _ => h v' w' ?_ h3
  · unfold maxLen
    have : (l.length + m) * 1 ≤ (l.length + m) * bytes := Nat.mul_le_mul_left _ hb0
    omega
  · unfold Ow
    rw [List.length_append, hm, nums_append]
    exact h2
end

/-- What a function hands back: a slice that reads as a list, in a world in which nothing elder has turned. -/
def Gives (w : World) (k : IntKind) (l : List Nat) (e : Ending) (w' : World) : Prop := ∃ A n c, e = .returned (.slice A n c) ∧ SI w' k A n c l ∧ Below w.heap.size w w'
/-- The same, a row of its own. -/
def GivesOwn (w : World) (t : TypeId) (k : IntKind) (l : List Nat) (e : Ending) (w' : World) : Prop := ∃ v, e = .returned v ∧ Ow w' w.heap.size t k v l ∧ Below w.heap.size w w'
theorem GivesOwn.gives {w w' : World} {t : TypeId} {k : IntKind} {l : List Nat} {e : Ending} (h : GivesOwn w t k l e w') : Gives w k l e w' := by
  obtain ⟨v, rfl, ho, hb⟩ := h
  obtain ⟨A, c, rfl, hr⟩ := ho.reads
  exact ⟨A, _, c, rfl, hr, hb⟩
theorem drewN_below (w : World) (n : Nat) : Below w.heap.size w (w.drewN n) := ⟨rfl, rfl, rfl, Nat.le_refl _, fun _ _ => rfl⟩
theorem SI.keepS {w W : World} {k : IntKind} {b o n c j : Nat} {l : List Nat} (h : SI w k (some ⟨b, o, none⟩) n c l) (hj : j < n) (hb : Below w.heap.size w W) :
    SI W k (some ⟨b, o, none⟩) n c l ∧ W.cell? ⟨b, o + j, none⟩ = some (.int k (rd l j : Nat)) := by
  have h' := h.below hb
  obtain ⟨b', o', e, hc⟩ := h'.at_ hj
  injection e with e
  injection e with e1 e2
  subst e1; subst e2
  exact ⟨h', hc⟩
/-- Nothing but the count of draws has moved. -/
structure Drawn (w w' : World) : Prop where
  out : ∃ n, w' = w.drewN n
theorem Drawn.refl (w : World) : Drawn w w := ⟨0, rfl⟩
theorem Drawn.drewN {w w' : World} (h : Drawn w w') (n : Nat) : Drawn w (w'.drewN n) := by
  obtain ⟨m, rfl⟩ := h
  exact ⟨m + n, World.drewN_drewN _ _ _⟩
theorem Drawn.drew {w w' : World} (h : Drawn w w') : Drawn w w'.drew := h.drewN 1
theorem Drawn.below {w w' : World} (h : Drawn w w') : Below w.heap.size w w' := by
  obtain ⟨m, rfl⟩ := h
  exact drewN_below w m
theorem Drawn.trans {a b c : World} (h : Drawn a b) (h' : Drawn b c) : Drawn a c := by
  obtain ⟨m, rfl⟩ := h'
  exact h.drewN m
theorem Drawn.ex {w w' : World} (h : Drawn w w') : ∃ n, w' = w.drewN n := h.out
section
variable {w : World} {base g n c : Nat} {e : TypeId} {k : IntKind} {l : List Nat}
theorem Ow.len_ {A : Option Addr} (h : Ow w base e k (.slice A n c) l) : l.length = n := by
  rcases h.2 with ⟨h0, h0'⟩ | ⟨g, cap, cur, hv, _⟩
  · injection h0 with _ h0 _; omega
  · injection hv with _ hv _; exact hv.symm
theorem Ow.cellAt (h : Ow w base e k (.slice (some ⟨g, 0, none⟩) n c) l) {j : Nat} (hj : j < n) : w.cell? ⟨g, j, none⟩ = some (.int k (rd l j : Nat)) := by
  have hl := h.len_
  unfold Ow at h
  rw [hl] at h
  rw [World.ownsRow.cellAt h j (by omega), nums_get k l j (by omega)]
theorem Ow.frozenAt (h : Ow w base e k (.slice (some ⟨g, 0, none⟩) n c) l) (j : Nat) : w.frozen? ⟨g, j, none⟩ = false := by
  have hl := h.len_
  unfold Ow at h
  rw [hl] at h
  exact World.ownsRow.frozenAt h j
theorem Ow.store (h : Ow w base e k (.slice (some ⟨g, 0, none⟩) n c) l) (j x : Nat) : Ow (w.setCell ⟨g, j, none⟩ (.int k (x : Nat))) base e k (.slice (some ⟨g, 0, none⟩) n c) (l.set j x) := by
  have hl := h.len_
  unfold Ow at h ⊢
  rw [hl] at h
  rw [List.length_set, hl, ← nums_set]
  exact (World.ownsRow.stored h j _).1
theorem Ow.cap_ {A : Option Addr} (h : Ow w base e k (.slice A n c) l) : n ≤ c ∧ c ≤ 9223372036854775807 := by
  obtain ⟨A', c', hv, hr⟩ := h.reads
  injection hv with _ h1 h2
  have a := Sl.le hr
  have b := Sl.cap hr
  omega
theorem Ow.reads_n {v : Value} (h : Ow w base e k v l) : ∃ A n c, v = .slice A n c ∧ SI w k A n c l := by
  obtain ⟨A, c, rfl, hr⟩ := h.reads
  exact ⟨A, _, c, rfl, hr⟩
/-- make([]T, n) of whole numbers -/
theorem wpList_make_nums {P : Program} (w : World) {ops : Array Oper} {rest : List Oper} {o : Oper} {a : Act} {Q : Exit → Act → World → Prop}
    (hg : o.guard = none) (x y : Operand) (t : TypeId) (hop : o.op = Op.makeSlice t x y)
    (base : Nat) (e : TypeId) (k : IntKind) (bytes : Nat) (h1 : P.underlying t = some (.slice e)) (hi : (P.info? e).map (fun i => (i.zero, i.size, i.bytes)) = some (some (.int k 0), 1, bytes))
    (kl kc : IntKind) (L C : Int) (n : Nat) (hl : a.eval x = .int kl L) (hc : a.eval y = .int kc C) (hL : L = (n : Int)) (hC : C = (n : Int)) (b2 : bytes * n ≤ 281474976710656) (b3 : n ≤ 9223372036854775807) (b4 : base ≤ w.heap.size)
    (hK : ∀ w', Ow w' base e k (.slice (some ⟨w.heap.size, 0, none⟩) n n) (List.replicate n 0) → w.grownBy w' none → wpList P ops Q rest (a.put o.dst (.slice (some ⟨w.heap.size, 0, none⟩) n n)) w') :
    wpList P ops Q (o :: rest) a w := by
  obtain ⟨i0, hi0, hz0, hz1, hz2⟩ := info_parts hi
  refine wpList_make_full w hg x y t hop base e i0 _ 1 h1 hi0 hz0 hz1 kl kc L C n hl hc hL hC (by rw [hz2]; exact b2) (by unfold maxLen; omega) b4 fun w' r1 r2 => hK w' ?_ r2
  unfold Ow
  rw [List.length_replicate]
  have e1 : (madeCells (Value.cells (.int k 0)) (n * 1)).toList = nums k (List.replicate n 0) := by
    rw [show Value.cells (.int k 0) = #[Value.int k 0] from rfl, toList_madeCells_one, Nat.mul_one]
    simp [nums]
  rw [← e1]
  exact r1
end
/-- make([]T, n, m) of whole numbers -/
theorem wpList_make_nums_cap {P : Program} (w : World) {ops : Array Oper} {rest : List Oper} {o : Oper} {a : Act} {Q : Exit → Act → World → Prop}
    (hg : o.guard = none) (x y : Operand) (t : TypeId) (hop : o.op = Op.makeSlice t x y)
    (base : Nat) (e : TypeId) (k : IntKind) (bytes : Nat) (h1 : P.underlying t = some (.slice e)) (hi : (P.info? e).map (fun i => (i.zero, i.size, i.bytes)) = some (some (.int k 0), 1, bytes))
    (kl kc : IntKind) (L C : Int) (n m : Nat) (hl : a.eval x = .int kl L) (hc : a.eval y = .int kc C) (hL : L = (n : Int)) (hC : C = (m : Int)) (hnm : n ≤ m) (b2 : bytes * m ≤ 281474976710656) (b3 : m ≤ 9223372036854775807) (b4 : base ≤ w.heap.size)
    (hK : ∀ w', Ow w' base e k (.slice (some ⟨w.heap.size, 0, none⟩) n m) (List.replicate n 0) → w.grownBy w' none → wpList P ops Q rest (a.put o.dst (.slice (some ⟨w.heap.size, 0, none⟩) n m)) w') :
    wpList P ops Q (o :: rest) a w := by
  obtain ⟨i0, hi0, hz0, hz1, hz2⟩ := info_parts hi
  refine wpList_plain hg fun K hK' => ?_
  have hrun := run_make (P := P) w t e i0 _ h1 hi0 hz0 kl kc L C (by omega) (by omega) (by rw [hz2, hC, ← Int.natCast_mul]; omega) (by omega)
  unfold Oper.wp
  simp only [execOp, hop, hl, hc, hrun, Result.andThen, Sem.run_bind, Sem.run_pure]
  subst hL; subst hC
  rw [Int.toNat_natCast, Int.toNat_natCast, hz1, Nat.mul_one, show Value.cells (.int k 0) = #[Value.int k 0] from rfl]
  refine hK' _ _ (hK _ ⟨by rw [nums_length, Nat.mul_one], .inr ⟨w.heap.size, m, madeCells #[Value.int k 0] m, by rw [List.length_replicate], b4, heap_alloc_new w _, by rw [List.length_replicate]; exact hnm, by unfold maxLen; omega, by rw [size_madeCells, Nat.mul_one], ?_⟩⟩ (World.grownBy_alloc w _ none))
  rw [List.length_replicate, toList_madeCells_one, List.take_replicate, Nat.mul_one, Nat.min_eq_left hnm]
  simp [nums]
theorem grown_below {w w1 : World} (h : w.grownBy w1 none) : Below w.heap.size w w1 := ⟨h.os, h.tape, h.output, h.size, fun k hk => h.block k hk (by simp)⟩
theorem cell_keep {w W : World} {p : Addr} {v : Value} (hb : Below w.heap.size w W) (h : w.cell? p = some v) : W.cell? p = some v := (hb.cell (World.block_lt_of_cell? w p h)).trans h
theorem Drawn.cell {w w' : World} (h : Drawn w w') (p : Addr) : w'.cell? p = w.cell? p := by
  obtain ⟨n, rfl⟩ := h; rfl
theorem Drawn.frozen {w w' : World} (h : Drawn w w') (p : Addr) : w'.frozen? p = w.frozen? p := by
  obtain ⟨n, rfl⟩ := h; rfl
theorem Drawn.size {w w' : World} (h : Drawn w w') : w'.heap.size = w.heap.size := by
  obtain ⟨n, rfl⟩ := h; rfl
theorem Below.drawn {B : Nat} {a w w' : World} (h : Below B a w) (hd : Drawn w w') : Below B a w' := by
  obtain ⟨n, rfl⟩ := hd; exact ⟨h.os, h.tape, h.output, h.size, h.block⟩
theorem Ow.drawn {w w' : World} {base : Nat} {e : TypeId} {k : IntKind} {v : Value} {l : List Nat} (h : Ow w base e k v l) (hd : Drawn w w') : Ow w' base e k v l := h.below hd.below
end Go.Proofs.YtoplpoofbefjcaaDoor.W
