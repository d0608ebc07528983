/- An argument opened to its cells, by its type alone: whole numbers, bools, strings, flat structs, slices of flat structs. -/
import Derived.Test.YtoplpoofbefjcaaDoorWord
import Derived.Deep.Slices
import Derived.ChangeArms
import Derived.SizedLaws
import Derived.OpenShut
namespace Go.Proofs.YtoplpoofbefjcaaDoor.Open
open Go.RowKit

def Fa {L : Type} (Q : L → Value → Prop) : List L → List Value → Prop
  | [], [] => True
  | l :: ls, v :: vs => Q l v ∧ Fa Q ls vs
  | [], _ :: _ => False
  | _ :: _, [] => False
theorem Fa.nil_ {L : Type} {Q : L → Value → Prop} {vs : List Value} (h : Fa Q [] vs) : vs = [] := by
  cases vs with
  | nil => rfl
  | cons v vs => exact h.elim
theorem Fa.cons_ {L : Type} {Q : L → Value → Prop} {l : L} {ls : List L} {vs : List Value} (h : Fa Q (l :: ls) vs) : ∃ v r, vs = v :: r ∧ Q l v ∧ Fa Q ls r := by
  cases vs with
  | nil => exact h.elim
  | cons v vs => exact ⟨v, vs, rfl, h.1, h.2⟩
theorem Fa.len {L : Type} {Q : L → Value → Prop} : ∀ {ls : List L} {vs : List Value}, Fa Q ls vs → vs.length = ls.length
  | [], vs, h => by rw [h.nil_]; rfl
  | l :: ls, vs, h => by
    obtain ⟨v, r, rfl, _, h2⟩ := h.cons_
    rw [List.length_cons, List.length_cons, h2.len]
theorem Fa.app {L : Type} {Q : L → Value → Prop} : ∀ {ls ls' : List L} {vs vs' : List Value}, Fa Q ls vs → Fa Q ls' vs' → Fa Q (ls ++ ls') (vs ++ vs')
  | [], _, vs, _, h, h' => by rw [h.nil_]; exact h'
  | l :: ls, _, vs, _, h, h' => by
    obtain ⟨v, r, rfl, h1, h2⟩ := h.cons_
    exact ⟨h1, h2.app h'⟩

def flatFs {L : Type} (P : Program) (rc : TypeId → Option (List L)) : List Field → Nat → Option (List L × Nat)
  | [], off => some ([], off)
  | f :: r, off => match rc f.type with
    | some l => if f.offset = off ∧ P.cellsOf f.type = l.length then (flatFs P rc r (off + l.length)).map fun x => (l ++ x.1, x.2) else none
    | none => none
theorem fs_open {L : Type} {Q : L → Value → Prop} {P : Program} {rc : TypeId → Option (List L)} {cs : List Value} : ∀ (fs : List Field) (off : Nat) (ls : List L) (z : Nat), flatFs P rc fs off = some (ls, z) →
    (∀ (i : Nat) f l, fs[i]? = some f → rc f.type = some l → Fa Q l ((cs.drop f.offset).take (P.cellsOf f.type))) → off ≤ z ∧ Fa Q ls ((cs.drop off).take (z - off))
  | [], off, ls, z, h, _ => by
    simp only [flatFs, Option.some.injEq, Prod.mk.injEq] at h
    obtain ⟨rfl, rfl⟩ := h
    exact ⟨Nat.le_refl _, by rw [Nat.sub_self, List.take_zero]; trivial⟩
  | f :: r, off, ls, z, h, hf => by
    rw [flatFs] at h
    cases hl : rc f.type with
    | none => rw [hl] at h; cases h
    | some l =>
      rw [hl] at h
      simp only at h
      split at h
      · rename_i hc
        obtain ⟨h1, h2⟩ := hc
        cases hr : flatFs P rc r (off + l.length) with
        | none => rw [hr] at h; cases h
        | some x =>
          obtain ⟨m, z'⟩ := x
          rw [hr] at h
          simp only [Option.map_some, Option.some.injEq, Prod.mk.injEq] at h
          obtain ⟨rfl, rfl⟩ := h
          obtain ⟨k1, k2⟩ := fs_open r _ _ _ hr fun i f' l' hi hl' => hf (i + 1) f' l' (by simpa using hi) hl'
          have k0 := hf 0 f l rfl hl
          rw [h1, h2] at k0
          refine ⟨by omega, ?_⟩
          rw [show z' - off = l.length + (z' - (off + l.length)) by omega, List.take_add, List.drop_drop]
          exact k0.app k2
      · cases h
def rep {L : Type} : Nat → List L → List L
  | 0, _ => []
  | k + 1, l => l ++ rep k l
theorem arr_open {L : Type} {Q : L → Value → Prop} {l : List L} {cs : List Value} {c : Nat} (hc : c = l.length) : ∀ (k off : Nat), (∀ i, i < k → Fa Q l ((cs.drop (off + i * c)).take c)) → Fa Q (rep k l) ((cs.drop off).take (k * c))
  | 0, off, _ => by rw [Nat.zero_mul, List.take_zero]; trivial
  | k + 1, off, h => by
    have h0 := h 0 (Nat.succ_pos _)
    rw [Nat.zero_mul, Nat.add_zero] at h0
    have h1 := arr_open hc k (off + c) fun i hi => by
      have := h (i + 1) (by omega)
      rw [Nat.succ_mul] at this
      rw [show off + c + i * c = off + (i * c + c) by omega]
      exact this
    rw [Nat.succ_mul, Nat.add_comm (k * c) c, List.take_add, List.drop_drop]
    exact h0.app h1
def flatG {L : Type} (leaf : TypeId → Option (List L)) (P : Program) : Nat → TypeId → Option (List L)
  | 0, t => leaf t
  | n + 1, t => match P.underlying t with
    | some (.struct fs) => match flatFs P (flatG leaf P n) fs.toList 0 with
      | some (l, z) => if z = P.cellsOf t then some l else none
      | none => none
    | some (.array k e) => match flatG leaf P n e with
      | some l => if P.cellsOf e = l.length ∧ P.cellsOf t = k * l.length then some (rep k l) else none
      | none => none
    | _ => leaf t
section
variable {H : Type} {enc : TypeId × Value → H} {P : Program} {w : World} {base : Nat} {held : Bool}
def Small (P : Program) (t : TypeId) (d : DataW H) : Prop := ∀ n ∈ d.weights P t, n ≤ reachBytes
def Opens (enc : TypeId × Value → H) (P : Program) (w : World) (base : Nat) (held : Bool) {L : Type} (Q : L → Value → Prop) (f : TypeId → Option (List L)) : Prop :=
  ∀ t ls fuel cs d ps, f t = some ls → DataW.trod enc P w base (fun _ => true) held fuel t cs = some (d, ps) → Small P t d → Fa Q ls cs
theorem weights_all {e : TypeId} : ∀ {ds : List (DataW H)} {d : DataW H}, d ∈ ds → ∀ n ∈ d.weights P e, n ∈ DataW.weightsAll P e ds
  | x :: r, d, hd, n, hn => by
    unfold DataW.weightsAll
    rcases List.mem_cons.1 hd with rfl | hd
    · exact List.mem_append_left _ hn
    · exact List.mem_append_right _ (weights_all hd n hn)
theorem flat_open {L : Type} {Q : L → Value → Prop} {leaf : TypeId → Option (List L)} (hleaf : Opens enc P w base held Q leaf) : ∀ n, Opens enc P w base held Q (flatG leaf P n)
  | 0 => hleaf
  | n + 1 => by
    intro t ls fuel cs d ps hf ht hs
    rw [flatG] at hf
    cases hu : P.underlying t with
    | none => rw [hu] at hf; exact hleaf t ls fuel cs d ps hf ht hs
    | some T =>
      rw [hu] at hf
      cases T
      case struct fs =>
        simp only at hf
        obtain ⟨xs, m, _, hx, hlen, hxl, hg⟩ := DataW.trod_struct hu ht
        simp only [Prod.mk.injEq] at hx
        obtain ⟨rfl, rfl⟩ := hx
        cases hfs : flatFs P (flatG leaf P n) fs.toList 0 with
        | none => rw [hfs] at hf; cases hf
        | some y =>
          obtain ⟨l, z⟩ := y
          rw [hfs] at hf
          simp only at hf
          split at hf
          · rename_i hz
            obtain rfl := Option.some.inj hf
            have k := (fs_open (Q := Q) (cs := cs) fs.toList 0 l z hfs fun i f l' hi hl' => by
              have hi' : fs[i]? = some f := by simpa using hi
              have h1 := hg i f hi'
              have hil : i < xs.length := by rw [hxl]; exact (Array.getElem?_eq_some_iff.1 hi').1
              rw [List.getElem?_eq_getElem hil] at h1
              refine flat_open hleaf n f.type l' m _ _ _ hl' h1 fun q hq => hs q ?_
              unfold DataW.weights
              rw [hu]
              refine DataW.weights_mem_each (j := i) (t := f.type) (d := xs[i].1) ?_ ?_ q hq
              · rw [List.getElem?_map, hi]; rfl
              · rw [List.getElem?_map, List.getElem?_eq_getElem hil]; rfl).2
            rw [List.drop_zero, Nat.sub_zero, List.take_of_length_le (by omega)] at k
            exact k
          · cases hf
      case array k e =>
        simp only at hf
        obtain ⟨xs, m, _, hx, hlen, hxl, hg⟩ := DataW.trod_array hu ht
        simp only [Prod.mk.injEq] at hx
        obtain ⟨rfl, rfl⟩ := hx
        cases hfs : flatG leaf P n e with
        | none => rw [hfs] at hf; cases hf
        | some l =>
          rw [hfs] at hf
          simp only at hf
          split at hf
          · rename_i hz
            obtain ⟨z1, z2⟩ := hz
            obtain rfl := Option.some.inj hf
            have k := arr_open (Q := Q) (cs := cs) (c := P.cellsOf e) z1 k 0 fun i hi => by
              have h1 := hg i hi
              have hil : i < xs.length := by omega
              rw [List.getElem?_eq_getElem hil] at h1
              rw [Nat.zero_add]
              refine flat_open hleaf n e l m _ _ _ hfs h1 fun q hq => hs q ?_
              unfold DataW.weights
              rw [hu]
              exact weights_all (d := xs[i].1) (List.mem_map.2 ⟨xs[i], List.getElem_mem hil, rfl⟩) q hq
            rw [List.drop_zero, List.take_of_length_le (by rw [hlen, z2, z1]; exact Nat.le_refl _)] at k
            exact k
          · cases hf
      all_goals exact hleaf t ls fuel cs d ps hf ht hs
end
/-- a leaf -/
inductive L0 where
  | int (k : IntKind)
  | bool
  | str
def L0.Is : L0 → Value → Prop
  | .int k, v => ∃ n, v = .int k n ∧ (Lit.int k n).wf = true
  | .bool, v => ∃ b, v = .bool b
  | .str, v => ∃ s : ByteArray, v = .string s ∧ s.size ≤ 140737488351232
def leaf0 (P : Program) (t : TypeId) : Option (List L0) :=
  match P.underlying t with
  | some (.int k) => some [.int k]
  | some .bool => some [.bool]
  | some .string => some [.str]
  | _ => none
inductive L1 where
  | one (l : L0)
  | row (e : List L0) (bytes : Nat)
def L1.Is (w : World) : L1 → Value → Prop
  | .one l, v => l.Is v
  | .row e b, v => ∃ A n c, v = .slice A n c ∧ n ≤ c ∧ c ≤ 9223372036854775807 ∧ c * b ≤ 140737488351232 ∧ (A = none → c = 0) ∧
      ∀ i, i < n → ∃ a cs, A = some a ∧ Fa L0.Is e cs ∧ ∀ j v, cs[j]? = some v → w.cell? (a.add (i * e.length + j)) = some v
def leaf1 (P : Program) (t : TypeId) : Option (List L1) :=
  match P.underlying t with
  | some (.int k) => some [.one (.int k)]
  | some .bool => some [.one .bool]
  | some .string => some [.one .str]
  | some (.slice e) => match flatG (leaf0 P) P 4 e with
    | some l => if P.cellsOf e = l.length then some [.row l (P.bytesOf e)] else none
    | none => none
  | _ => none
section
variable {H : Type} {enc : TypeId × Value → H} {P : Program} {w : World} {base : Nat} {held : Bool}
theorem int_open {t : TypeId} {k : IntKind} {fuel : Nat} {cs : List Value} {d : DataW H} {ps : List MemPlace} (hu : P.underlying t = some (.int k)) (ht : DataW.trod enc P w base (fun _ => true) held fuel t cs = some (d, ps)) : ∃ v, cs = [v] ∧ (L0.int k).Is v := by
  obtain ⟨n, rfl, _, h⟩ := DataW.trod_int hu ht
  exact ⟨_, rfl, n, rfl, h⟩
theorem bool_open {t : TypeId} {fuel : Nat} {cs : List Value} {d : DataW H} {ps : List MemPlace} (hu : P.underlying t = some .bool) (ht : DataW.trod enc P w base (fun _ => true) held fuel t cs = some (d, ps)) : ∃ v, cs = [v] ∧ L0.bool.Is v := by
  obtain ⟨b, rfl, _⟩ := DataW.trod_bool hu ht
  exact ⟨_, rfl, b, rfl⟩
theorem str_open {t : TypeId} {fuel : Nat} {cs : List Value} {d : DataW H} {ps : List MemPlace} (hu : P.underlying t = some .string) (ht : DataW.trod enc P w base (fun _ => true) held fuel t cs = some (d, ps)) (hs : Small P t d) : ∃ v, cs = [v] ∧ L0.str.Is v := by
  obtain ⟨s, rfl, hx, h⟩ := DataW.trod_string hu ht
  obtain ⟨rfl, rfl⟩ := Prod.mk.inj hx
  refine ⟨_, rfl, s, rfl, ?_⟩
  have := hs s.data.toList.length (by simp [DataW.weights])
  rw [Array.length_toList] at this
  exact this
theorem leaf0_open : Opens enc P w base held L0.Is (leaf0 P) := by
  intro t ls fuel cs d ps hf ht hs
  unfold leaf0 at hf
  split at hf
  · rename_i k hu
    obtain rfl := Option.some.inj hf
    obtain ⟨v, rfl, h⟩ := int_open hu ht
    exact ⟨h, trivial⟩
  · rename_i hu
    obtain rfl := Option.some.inj hf
    obtain ⟨v, rfl, h⟩ := bool_open hu ht
    exact ⟨h, trivial⟩
  · rename_i hu
    obtain rfl := Option.some.inj hf
    obtain ⟨v, rfl, h⟩ := str_open hu ht hs
    exact ⟨h, trivial⟩
  · cases hf
theorem leaf1_open : Opens enc P w base held (L1.Is w) (leaf1 P) := by
  intro t ls fuel cs d ps hf ht hs
  unfold leaf1 at hf
  split at hf
  · rename_i k hu
    obtain rfl := Option.some.inj hf
    obtain ⟨v, rfl, h⟩ := int_open hu ht
    exact ⟨h, trivial⟩
  · rename_i hu
    obtain rfl := Option.some.inj hf
    obtain ⟨v, rfl, h⟩ := bool_open hu ht
    exact ⟨h, trivial⟩
  · rename_i hu
    obtain rfl := Option.some.inj hf
    obtain ⟨v, rfl, h⟩ := str_open hu ht hs
    exact ⟨h, trivial⟩
  · rename_i e hu
    cases hfl : flatG (leaf0 P) P 4 e with
    | none => rw [hfl] at hf; cases hf
    | some l =>
      rw [hfl] at hf
      simp only at hf
      split at hf
      · rename_i hc
        obtain rfl := Option.some.inj hf
        rcases Go.Deep.open_slice hu ht with ⟨rfl, _⟩ | ⟨a, len, cap, m, n, D, Pl, rfl, hb, hl, hcap, hm, hx, hi⟩
        · exact ⟨⟨none, 0, 0, rfl, Nat.le_refl _, by omega, by omega, fun _ => rfl, fun i hi => absurd hi (by omega)⟩, trivial⟩
        · obtain ⟨rfl, rfl⟩ := Prod.mk.inj hx
          simp only [if_true] at hm
          subst hm
          refine ⟨⟨some a, len, _, rfl, hl, hcap, ?_, (fun h => by cases h), fun i hin => ?_⟩, trivial⟩
          · refine hs _ ?_
            unfold DataW.weights
            rw [hu]
            refine List.mem_cons.2 (Or.inl ?_)
            simp only [List.length_map, List.length_range]
            congr 1
            omega
          · obtain ⟨cs', hcs, ht'⟩ := hi i (by omega)
            obtain ⟨_, hcl, hat⟩ := World.cells?_some hcs
            refine ⟨a, cs', rfl, flat_open leaf0_open 4 e l n cs' _ _ hfl ht' fun q hq => hs q ?_, fun j v hj => ?_⟩
            · unfold DataW.weights
              rw [hu]
              refine List.mem_cons.2 (Or.inr (List.mem_append_left _ (weights_all (d := D i) (List.mem_map.2 ⟨i, List.mem_range.2 hin, rfl⟩) q hq)))
            · have hjl : j < cs'.length := (List.getElem?_eq_some_iff.1 hj).1
              have := hat j (by omega)
              rw [← Go.Deep.add_add, ← hc, this, hj]
      · cases hf
  · cases hf
/-- an argument, opened -/
theorem arg_open {t : TypeId} {v : Value} {d : DataW H} {ps : List MemPlace} {ls : List L1} {ts : List TypeId} {ds : List (DataW H)} {j : Nat}
    (hf : flatG (leaf1 P) P 4 t = some ls) (h : DataW.Trod enc P w base (fun _ => true) held t v d ps)
    (hsz : (DataW.weightsEach P ts ds).all (· ≤ reachBytes) = true) (ht : ts[j]? = some t) (hd : ds[j]? = some d) : Fa (L1.Is w) ls v.cells.toList := by
  obtain ⟨fuel, hf'⟩ := h
  refine flat_open leaf1_open 4 t ls fuel _ d ps hf hf' fun n hn => ?_
  have := List.all_eq_true.1 hsz n (DataW.weights_mem_each ht hd n hn)
  exact of_decide_eq_true this
end
/-- a slice of whole numbers, opened -/
theorem row_ints {w : World} {k : IntKind} {b : Nat} {v : Value} (h : (L1.row [.int k] b).Is w v) :
    ∃ (A : Option Addr) (n c : Nat) (zs : List Int), v = .slice A n c ∧ n ≤ c ∧ c ≤ 9223372036854775807 ∧ c * b ≤ 140737488351232 ∧ (A = none → c = 0) ∧ zs.length = n ∧ (∀ i z, zs[i]? = some z → (Lit.int k z).wf = true ∧ ∃ bl o, A = some ⟨bl, o, none⟩ ∧ w.cell? ⟨bl, o + i, none⟩ = some (.int k z)) := by
  obtain ⟨A, n, c, rfl, h1, h2, h3, h4, h5⟩ := h
  have key : ∀ m, m ≤ n → ∃ zs : List Int, zs.length = m ∧ ∀ i z, zs[i]? = some z → (Lit.int k z).wf = true ∧ ∃ a, A = some a ∧ w.cell? (a.add i) = some (.int k z) := by
    intro m
    induction m with
    | zero => exact fun _ => ⟨[], rfl, fun i z hz => by simp at hz⟩
    | succ m ih =>
      intro hm
      obtain ⟨zs, hl, hz⟩ := ih (by omega)
      obtain ⟨a, cs, rfl, hF, hc⟩ := h5 m (by omega)
      obtain ⟨v, r, rfl, ⟨z, rfl, hw⟩, hr⟩ := hF.cons_
      refine ⟨zs ++ [z], by simp [hl], fun i y hy => ?_⟩
      by_cases hi : i < zs.length
      · rw [List.getElem?_append_left hi] at hy
        exact hz i y hy
      · rw [List.getElem?_append_right (by omega)] at hy
        obtain rfl : i = m := by
          have := (List.getElem?_eq_some_iff.1 hy).1
          simp at this
          omega
        rw [hl, Nat.sub_self] at hy
        obtain rfl : z = y := by simpa using hy
        exact ⟨hw, a, rfl, by simpa using hc 0 _ rfl⟩
  obtain ⟨zs, hl, hz⟩ := key n (Nat.le_refl _)
  refine ⟨A, n, c, zs, rfl, h1, h2, h3, h4, hl, fun i z hi => ?_⟩
  obtain ⟨hw, a, rfl, hc⟩ := hz i z hi
  obtain ⟨bl, o, s⟩ := a
  have hs : s = none := by
    obtain ⟨_, a', e, hc0⟩ := hz 0 _ (List.getElem?_eq_getElem (by have := (List.getElem?_eq_some_iff.1 hi).1; omega))
    injection e with e
    subst e
    cases s with
    | none => rfl
    | some s => unfold Addr.add World.cell? at hc0; simp at hc0; split at hc0 <;> simp at hc0
  subst hs
  exact ⟨hw, bl, o, rfl, by rw [W.add_at] at hc; exact hc⟩
def Chunks (e : List L0) : Nat → List Value → Prop
  | 0, cs => cs = []
  | n + 1, cs => ∃ a b, cs = a ++ b ∧ Chunks e n a ∧ Fa L0.Is e b
theorem Chunks.len {e : List L0} : ∀ {n : Nat} {cs : List Value}, Chunks e n cs → cs.length = n * e.length
  | 0, cs, h => by rw [show cs = [] from h]; simp
  | n + 1, cs, ⟨a, b, hab, ha, hb⟩ => by rw [hab, List.length_append, ha.len, hb.len, Nat.succ_mul]
/-- a slice of flat values, opened -/
theorem row_sl {w : World} {e : List L0} {b : Nat} {v : Value} (he : 0 < e.length) (h : (L1.row e b).Is w v) :
    ∃ (A : Option Addr) (n c : Nat) (cs : List Value), v = .slice A n c ∧ W.Sl w e.length A n c cs ∧ c * b ≤ 140737488351232 ∧ (A = none → c = 0) ∧ Chunks e n cs := by
  obtain ⟨A, n, c, rfl, h1, h2, h3, h4, h5⟩ := h
  have key : ∀ m, m ≤ n → ∃ cs : List Value, Chunks e m cs ∧ ∀ j u, cs[j]? = some u → ∃ a, A = some a ∧ w.cell? (a.add j) = some u := by
    intro m
    induction m with
    | zero => exact fun _ => ⟨[], rfl, fun j u hu => by simp at hu⟩
    | succ m ih =>
      intro hm
      obtain ⟨cs, hC, hz⟩ := ih (by omega)
      obtain ⟨a, b', rfl, hF, hc⟩ := h5 m (by omega)
      refine ⟨cs ++ b', ⟨cs, b', rfl, hC, hF⟩, fun j u hu => ?_⟩
      by_cases hj : j < cs.length
      · rw [List.getElem?_append_left hj] at hu
        exact hz j u hu
      · rw [List.getElem?_append_right (by omega)] at hu
        refine ⟨a, rfl, ?_⟩
        have := hc _ _ hu
        rw [hC.len] at this hj
        rw [show m * e.length + (j - m * e.length) = j by omega] at this
        exact this
  obtain ⟨cs, hC, hz⟩ := key n (Nat.le_refl _)
  refine ⟨A, n, c, cs, rfl, ⟨hC.len, h1, h2, fun hn => ?_⟩, h3, h4, hC⟩
  have hpos : 0 < cs.length := by rw [hC.len]; exact Nat.mul_pos hn he
  obtain ⟨a, rfl, hc0⟩ := hz 0 _ (List.getElem?_eq_getElem hpos)
  obtain ⟨bl, o, s⟩ := a
  have hs : s = none := by
    cases s with
    | none => rfl
    | some s => unfold Addr.add World.cell? at hc0; simp at hc0; split at hc0 <;> simp at hc0
  subst hs
  refine ⟨bl, o, rfl, fun j u hu => ?_⟩
  obtain ⟨a, e', hc⟩ := hz j u hu
  injection e' with e'
  subst e'
  rw [W.add_at] at hc
  exact hc
end Go.Proofs.YtoplpoofbefjcaaDoor.Open
