/- Layer 19, on: rows of tokens. -/
import Derived.Test.YtoplpoofbefjcaaDoorSgA
namespace Go.Proofs.YtoplpoofbefjcaaDoor.Sg
open Go.RowKit Go.Proofs.YtoplpoofbefjcaaDoor.Dig Go.Proofs.YtoplpoofbefjcaaDoor.W

/-- a token -/
structure Tok where
  kind : Int
  many : Int
  text : ByteArray
def Tok.cells (t : Tok) : List Value := [.int .i64 t.kind, .int .i64 t.many, .string t.text]
def Tok.value (t : Tok) : Value := .agg #[.int .i64 t.kind, .int .i64 t.many, .string t.text]
def toks : List Tok → List Value
  | [] => []
  | t :: r => .int .i64 t.kind :: .int .i64 t.many :: .string t.text :: toks r
theorem toks_length : ∀ l : List Tok, (toks l).length = l.length * 3
  | [] => rfl
  | t :: r => by simp only [toks, List.length_cons, toks_length r]; omega
theorem toks_append : ∀ l r : List Tok, toks (l ++ r) = toks l ++ toks r
  | [], _ => rfl
  | t :: l, r => by simp only [toks, List.cons_append, toks_append l r]
theorem toks_get : ∀ (l : List Tok) (i : Nat) (t : Tok), l[i]? = some t → (toks l)[i * 3]? = some (.int .i64 t.kind) ∧ (toks l)[i * 3 + 1]? = some (.int .i64 t.many) ∧ (toks l)[i * 3 + 2]? = some (.string t.text)
  | [], _, _, h => by simp at h
  | t :: l, 0, u, h => by
    simp at h; subst h; exact ⟨rfl, rfl, rfl⟩
  | t :: l, i + 1, u, h => by
    have := toks_get l i u (by simpa using h)
    rw [Nat.succ_mul]
    exact this
/-- a slice of tokens -/
def ST (w : World) (A : Option Addr) (n c : Nat) (l : List Tok) : Prop := Sl w 3 A n c (toks l)
theorem ST.len {w : World} {A : Option Addr} {n c : Nat} {l : List Tok} (h : ST w A n c l) : l.length = n := by
  have := Sl.len h; rw [toks_length] at this; omega
theorem ST.below {w w' : World} {A : Option Addr} {n c : Nat} {l : List Tok} (h : ST w A n c l) (hb : Below w.heap.size w w') : ST w' A n c l := Sl.below h hb
theorem ST.at_ {w : World} {A : Option Addr} {n c : Nat} {l : List Tok} (h : ST w A n c l) {i : Nat} (hi : i < n) : ∃ b o t, A = some ⟨b, o, none⟩ ∧ l[i]? = some t ∧ w.cell? ⟨b, o + i * 3, none⟩ = some (.int .i64 t.kind) ∧ w.cell? ⟨b, o + i * 3 + 1, none⟩ = some (.int .i64 t.many) ∧ w.cell? ⟨b, o + i * 3 + 2, none⟩ = some (.string t.text) := by
  obtain ⟨b, o, e, hc⟩ := Sl.get h (by omega)
  have hl := h.len
  obtain ⟨t, ht⟩ : ∃ t, l[i]? = some t := ⟨l[i], List.getElem?_eq_getElem (by omega)⟩
  obtain ⟨h1, h2, h3⟩ := toks_get l i t ht
  exact ⟨b, o, t, e, ht, hc _ _ h1, hc _ _ h2, hc _ _ h3⟩

theorem has1_calls (t : Tok) (p : Nat) (k : Int) (w : World) (h : w.cell? ⟨p, 0, none⟩ = some (.int .i64 k)) :
    Calls Tryd.prog 31 #[t.value, .pointer (some ⟨p, 0, none⟩)] w fun e w' => e = .returned (.bool (t.kind == k)) ∧ Below w.heap.size w w' := by
  unfold Tok.value
  have hlt : p < w.heap.size := World.block_lt_of_cell? w _ h
  go_enter Tryd.func31, Tryd.ntmps31
  go_wp2
  go_ret
  exact ⟨rfl, (Below.refl _ _).alloc (Nat.le_refl _) _⟩
theorem ifunc_calls (A : Option Addr) (n c : Nat) (l : List Tok) (p : Nat) (k : Int) (w : World) (h : ST w A n c l) (hp : w.cell? ⟨p, 0, none⟩ = some (.int .i64 k)) :
    Calls Tryd.prog 34 #[.slice A n c, .func (Fn.func 31) #[] #[.pointer (some ⟨p, 0, none⟩)]] w fun e w' => (∃ z : Int, e = .returned (.int .i64 z) ∧ (decide (0 ≤ z) = l.any (fun t => t.kind == k))) ∧ Below w.heap.size w w' := by
  have hn63 : n ≤ 9223372036854775807 := Nat.le_trans (Sl.le h) (Sl.cap h)
  go_enter Tryd.func34, Tryd.ntmps34
  go_wp2
  go_loopw [5, 8] (fun v z wr => ∃ (i : Nat), z = .int .i64 (i : Nat) ∧ i ≤ n ∧ (l.take i).any (fun t => t.kind == k) = false ∧ Below w.heap.size w wr) (fun _ z _ => n - (intOf z).toNat)
  case atStart => exact ⟨0, rfl, Nat.zero_le _, by simp, Below.refl _ _⟩
  case round =>
    obtain ⟨i, rfl, hin, hany, hb⟩ := hrel
    by_cases hlt : i < n
    · obtain ⟨b, o, t, rfl, ht, c1, c2, c3⟩ := (h.below hb).at_ hlt
      have hpc : wr.cell? ⟨p, 0, none⟩ = some (.int .i64 k) := (hb.cell (World.block_lt_of_cell? w _ hp)).trans hp
      cases hk : (t.kind == k)
      · have hany2 : (l.take (i + 1)).any (fun t => t.kind == k) = false := by
          rw [List.take_add_one, ht, List.any_append, hany]; simp [hk]
        have HK := has1_calls t p k wr hpc
        unfold Tok.value at HK
        rw [hk] at HK
        clear hany hk
        go_wp2_with (first
          | (go_at_call 31; (with_reducible refine HK.mono ?_); rintro e w' ⟨rfl, hw⟩))
        go_roundw
        case rel => exact ⟨i + 1, by go_num, by omega, hany2, hb.trans (hw.mono hb.size)⟩
        case measure => simp [intOf]; omega
      · have hany2 : l.any (fun t => t.kind == k) = true := List.any_eq_true.2 ⟨t, List.mem_of_getElem? ht, hk⟩
        have HK := has1_calls t p k wr hpc
        unfold Tok.value at HK
        rw [hk] at HK
        have HA := Lib.hid hany2
        clear hany hk hany2
        go_wp2_with (first
          | (go_at_call 31; (with_reducible refine HK.mono ?_); rintro e w' ⟨rfl, hw⟩))
        go_ret
        exact ⟨⟨_, rfl, by rw [HA.out]; simp⟩, hb.trans (hw.mono hb.size)⟩
    · have hany2 : l.any (fun t => t.kind == k) = false := by
        rw [List.take_of_length_le (by rw [h.len]; omega)] at hany; exact hany
      have HA := Lib.hid hany2
      clear hany hany2
      go_wp2
      go_ret
      exact ⟨⟨_, rfl, by rw [HA.out]; rfl⟩, hb⟩
theorem cfunc_calls (A : Option Addr) (n c : Nat) (l : List Tok) (p : Nat) (k : Int) (w : World) (h : ST w A n c l) (hp : w.cell? ⟨p, 0, none⟩ = some (.int .i64 k)) :
    Calls Tryd.prog 30 #[.slice A n c, .func (Fn.func 31) #[] #[.pointer (some ⟨p, 0, none⟩)]] w fun e w' => e = .returned (.bool (l.any fun t => t.kind == k)) ∧ Below w.heap.size w w' := by
  have H := ifunc_calls A n c l p k w h hp
  go_enter Tryd.func30, Tryd.ntmps30
  go_wp2_with (first
    | (go_at_call 34; (with_reducible refine H.mono ?_); rintro e w' ⟨⟨z, rfl, hz⟩, hw⟩))
  go_ret
  exact ⟨by rw [← hz]; rfl, hw⟩
theorem has_calls (A : Option Addr) (n c : Nat) (l : List Tok) (k : Int) (w : World) (h : ST w A n c l) :
    Calls Tryd.prog 19 #[.slice A n c, .int .i64 k] w fun e w' => e = .returned (.bool (l.any fun t => t.kind == k)) ∧ Below w.heap.size w w' := by
  have hb0 : ∀ o, Below w.heap.size w (w.alloc o) := fun o => (Below.refl _ _).alloc (Nat.le_refl _) o
  have H := fun o : Obj => fun hp => cfunc_calls A n c l w.heap.size k (w.alloc o) (h.below (hb0 o)) hp
  have H2 := H _ (World.cell?_alloc_new w #[.int .i64 k] 3 0)
  have HB := Lib.hid hb0
  clear H hb0
  go_enter Tryd.func19, Tryd.ntmps19
  go_wp2_with (first
    | (go_at_call 30; refine H2.mono ?_; rintro e w' ⟨rfl, hw⟩))
  go_ret
  exact ⟨rfl, (HB.out _).trans (hw.mono (HB.out _).size)⟩
end Go.Proofs.YtoplpoofbefjcaaDoor.Sg
