/- Texts of one layer, joined: Wa, Wb, Wc, Wd, Un, Wh, We, Wi, Wj, Wk, Wl. -/
import Derived.Test.YtkanddmihmdagaaGreatDoorGB
import Derived.Test.YtkanddmihmdagaaGreatDoorGR
import Derived.OrdersHeld
import Derived.Deep.RegionHeld
set_option linter.unusedVariables false
set_option linter.unusedSimpArgs false
set_option linter.unusedSectionVars false
/- Layer 2 (package whole): whole numbers; Make, Neg. -/
namespace Go.Proofs.YtkanddmihmdagaaGreatDoor.Wh
open Go.RowKit Go.Proofs.YtkanddmihmdagaaGreatDoor.Dig Go.Proofs.YtkanddmihmdagaaGreatDoor.W Go.Proofs.YtkanddmihmdagaaGreatDoor.Nat

/-- the whole number of a sign and an amount -/
def sg (ng : Bool) (m : Nat) : Int := if ng then -(m : Int) else (m : Int)
theorem sg_abs (ng : Bool) (m : Nat) : (sg ng m).natAbs = m := by cases ng <;> simp [sg]
theorem sg_neg (ng : Bool) (m : Nat) : decide (sg ng m < 0) = (ng && decide (0 < m)) := by
  cases ng
  · simp [sg]
  · simp [sg]
/-- what a function hands back: the whole number z -/
def GivesW (w : World) (z : Int) (e : Ending) (w' : World) : Prop :=
  ∃ A n c, e = .returned (.agg #[.bool (decide (z < 0)), .slice A n c]) ∧ SI w' .u64 A n c (digs U z.natAbs) ∧ (∀ b o s, A = some ⟨b, o, s⟩ → w.heap.size ≤ b) ∧ Below w.heap.size w w'
theorem bcell {W w1 : World} (hb : Below W.heap.size W w1) : (∀ b o, b < W.heap.size → w1.cell? ⟨b, o, none⟩ = W.cell? ⟨b, o, none⟩) ∧ (∀ b o, b < W.heap.size → w1.frozen? ⟨b, o, none⟩ = W.frozen? ⟨b, o, none⟩) :=
  ⟨fun b o h => hb.cell (p := ⟨b, o, none⟩) h, fun b o h => hb.frozen (p := ⟨b, o, none⟩) h⟩
/-- the cell of a result: block g holds two cells -/
def Two (w : World) (g : Nat) (t : TypeId) (u v : Value) : Prop := w.heap[g]? = some (.cells #[u, v] t (0, 0))
theorem Two.start (w : World) (u v : Value) (t : TypeId) : Two (w.alloc (.cells #[u, v] t)) w.heap.size t u v := heap_alloc_new w _
section
variable {w w' : World} {g : Nat} {t : TypeId} {u v : Value}
theorem Two.lt (h : Two w g t u v) : g < w.heap.size := (Array.getElem?_eq_some_iff.1 h).1
theorem Two.below (h : Two w g t u v) (hb : Below w.heap.size w w') : Two w' g t u v := (hb.block g h.lt).trans h
theorem Two.c0 (h : Two w g t u v) : w.cell? ⟨g, 0, none⟩ = some u := cell_of_row _ _ 0 _ _ _ h
theorem Two.c1 (h : Two w g t u v) : w.cell? ⟨g, 1, none⟩ = some v := cell_of_row _ _ 1 _ _ _ h
theorem Two.f0 (h : Two w g t u v) : w.frozen? ⟨g, 0, none⟩ = false := frozen_of_row _ _ 0 _ _ h
theorem Two.f1 (h : Two w g t u v) : w.frozen? ⟨g, 1, none⟩ = false := frozen_of_row _ _ 1 _ _ h
theorem Two.store (h : Two w g t u v) (a b : Value) : Two ((w.setCell ⟨g, 0, none⟩ a).setCell ⟨g, 1, none⟩ b) g t a b := by
  have h1 := heap_setCell_same w g 0 #[u, v] t a h
  exact heap_setCell_same _ g 1 _ t b h1
end
theorem two_results {fn : Func} {p : Tmp} (h : fn.results = #[.cell p 64]) (tmps : Array Value) {w : World} {g : Nat} {a b : Value} (hg : Two w g 64 a b)
    (hp : tmps.getD p undef = .pointer (some ⟨g, 0, none⟩)) : (results fn tmps).run Tryz.prog w = .ok (.agg #[a, b]) w :=
  results_cell_row h tmps w g _ _ _ _ hp hg Tryz.underlying64 rfl (by kernel_rfl)
theorem si_setFar {w : World} {k : IntKind} {A : Option Addr} {n c g j : Nat} {l : List Nat} (h : SI w k A n c l) (hA : ∀ b o s, A = some ⟨b, o, s⟩ → b ≠ g) (u : Value) : SI (w.setCell ⟨g, j, none⟩ u) k A n c l :=
  ⟨h.1, h.2, h.3, fun hn => by
    obtain ⟨b, o, e, hc⟩ := h.4 hn
    exact ⟨b, o, e, fun i v hv => (World.cell?_setCell_other w ⟨g, j, none⟩ ⟨b, o + i, none⟩ u (fun he => hA b o none e (congrArg Addr.block he).symm)).trans (hc i v hv)⟩⟩
theorem own_from {w : World} {base n c : Nat} {e : TypeId} {k : IntKind} {A : Option Addr} {l : List Nat} (h : Ow w base e k (.slice A n c) l) : ∀ b o s, A = some ⟨b, o, s⟩ → base ≤ b := by
  intro b o s hA
  subst hA
  rcases h.2 with ⟨h1, _⟩ | ⟨g, cap, cur, hv, hb, _⟩
  · injection h1 with e1; cases e1
  · injection hv with e1
    injection e1 with e1
    injection e1 with e1
    omega
set_option maxHeartbeats 2000000 in
set_option maxRecDepth 100000 in
theorem make_calls (ng : Bool) (A : Option Addr) (n c : Nat) (l : List Nat) (w : World) (h : SI w .u64 A n c l) (hl : Lt U l) (hn : n ≤ 8796093022208) :
    Calls Tryz.prog 76 #[.bool ng, .slice A n c] w (GivesW w (sg ng (val U l))) := by
  have HR := Lib.hid (Two.start w (.bool false) (.slice none 0 0) 64)
  have HA := Lib.hid (alloc_below w (.cells #[.bool false, .slice none 0 0] 64))
  have HN := Lib.hid (norm_calls A n c l _ (h.alloc (.cells #[.bool false, .slice none 0 0] 64)) hl hn)
  have HS : Hid (w.heap.size < (w.alloc (.cells #[.bool false, .slice none 0 0] 64)).heap.size) := show _ < _ by simp
  clear h
  generalize val U l = m at *
  cases ng
  · go_enter Tryz.func76, Tryz.ntmps76
    go_wp2_with (go_at_call 115; (with_reducible refine HN.out.mono ?_); rintro e w1 ⟨v1, rfl, o1, b1⟩; obtain ⟨A1, n1, c1, rfl, r1⟩ := o1.reads_n; have hr := HR.out.below b1; have q0 := hr.c0; have q1 := hr.c1; have k0 := hr.f0; have k1 := hr.f1)
    have far : ∀ b o s, A1 = some ⟨b, o, s⟩ → b ≠ w.heap.size := fun b o s e => by have h1 := own_from o1 b o s e; have h2 := HS.out; omega
    have fr : ∀ b o s, A1 = some ⟨b, o, s⟩ → w.heap.size ≤ b := fun b o s e => by have h1 := own_from o1 b o s e; have h2 := HS.out; omega
    refine bodyPost_ret (two_results rfl _ (hr.store _ _) rfl) rfl ⟨A1, n1, c1, by rw [sg_neg]; rfl, ?_, fr, ((HA.out.trans (b1.mono HA.out.size)).setCell (Nat.le_refl _) _).setCell (Nat.le_refl _) _⟩
    rw [sg_abs]
    exact si_setFar (si_setFar r1 far _) far _
  · by_cases h0 : m = 0
    · subst h0
      have hz : digs U 0 = [] := digs_zero U
      rw [hz] at HN
      clear hz
      go_enter Tryz.func76, Tryz.ntmps76
      go_wp2_with (go_at_call 115; (with_reducible refine HN.out.mono ?_); rintro e w1 ⟨v1, rfl, o1, b1⟩; obtain ⟨A1, n1, c1, rfl, r1⟩ := o1.reads_n; obtain rfl : n1 = 0 := r1.len.symm; have hr := HR.out.below b1; have q0 := hr.c0; have q1 := hr.c1; have k0 := hr.f0; have k1 := hr.f1)
      have far : ∀ b o s, A1 = some ⟨b, o, s⟩ → b ≠ w.heap.size := fun b o s e => by have h1 := own_from o1 b o s e; have h2 := HS.out; omega
      have fr : ∀ b o s, A1 = some ⟨b, o, s⟩ → w.heap.size ≤ b := fun b o s e => by have h1 := own_from o1 b o s e; have h2 := HS.out; omega
      refine bodyPost_ret (two_results rfl _ (hr.store _ _) rfl) rfl ⟨A1, 0, c1, rfl, ?_, fr, ((HA.out.trans (b1.mono HA.out.size)).setCell (Nat.le_refl _) _).setCell (Nat.le_refl _) _⟩
      rw [sg_abs, digs_zero]
      exact si_setFar (si_setFar r1 far _) far _
    · have hp := digs_length_pos U_two h0
      have HP := Lib.hid hp
      have H0 : Hid (0 < m) := Nat.pos_of_ne_zero h0
      clear hp h0
      go_enter Tryz.func76, Tryz.ntmps76
      go_wp2_with (go_at_call 115; (with_reducible refine HN.out.mono ?_); rintro e w1 ⟨v1, rfl, o1, b1⟩; obtain ⟨A1, n1, c1, rfl, r1⟩ := o1.reads_n; have hn1 : 0 < n1 := (by rw [← r1.len]; exact HP.out); have hr := HR.out.below b1; have q0 := hr.c0; have q1 := hr.c1; have k0 := hr.f0; have k1 := hr.f1)
      have far : ∀ b o s, A1 = some ⟨b, o, s⟩ → b ≠ w.heap.size := fun b o s e => by have h1 := own_from o1 b o s e; have h2 := HS.out; omega
      have fr : ∀ b o s, A1 = some ⟨b, o, s⟩ → w.heap.size ≤ b := fun b o s e => by have h1 := own_from o1 b o s e; have h2 := HS.out; omega
      refine bodyPost_ret (two_results rfl _ (hr.store _ _) rfl) rfl ⟨A1, n1, c1, ?_, ?_, fr, ((HA.out.trans (b1.mono HA.out.size)).setCell (Nat.le_refl _) _).setCell (Nat.le_refl _) _⟩
      · rw [sg_neg, decide_eq_true H0.out]; rfl
      · rw [sg_abs]
        exact si_setFar (si_setFar r1 far _) far _
/-- what a result handed on into an own cell gives -/
theorem put_res {w W w1 : World} {g n c : Nat} {A : Option Addr} {D : List Nat} {u v a b : Value} {t : TypeId} (hW : Below w.heap.size w W) (hg : Two W g t u v) (hgw : w.heap.size ≤ g) (hs : SI w1 .u64 A n c D) (hf : ∀ b o s, A = some ⟨b, o, s⟩ → W.heap.size ≤ b) (hb : Below W.heap.size W w1) :
    SI ((w1.setCell ⟨g, 0, none⟩ a).setCell ⟨g, 1, none⟩ b) .u64 A n c D ∧ (∀ b o s, A = some ⟨b, o, s⟩ → w.heap.size ≤ b) ∧ Below w.heap.size w ((w1.setCell ⟨g, 0, none⟩ a).setCell ⟨g, 1, none⟩ b) := by
  have hlt := hg.lt
  have far : ∀ b o s, A = some ⟨b, o, s⟩ → b ≠ g := fun b o s e => by have := hf b o s e; omega
  exact ⟨si_setFar (si_setFar hs far _) far _, fun b o s e => Nat.le_trans hW.size (hf b o s e), ((hW.trans (hb.mono hW.size)).setCell hgw _).setCell hgw _⟩
theorem sg_not (ng : Bool) (m : Nat) : sg (!ng) m = -(sg ng m) := by cases ng <;> simp [sg]
/-- the argument's box and the result's cell -/
theorem box_one (w : World) (u v : Value) : Two ((w.alloc (.cells #[u, v] 64)).alloc (.cells #[.bool false, .slice none 0 0] 64)) w.heap.size 64 u v ∧
    Two ((w.alloc (.cells #[u, v] 64)).alloc (.cells #[.bool false, .slice none 0 0] 64)) (w.heap.size + 1) 64 (.bool false) (.slice none 0 0) ∧
    Below w.heap.size w ((w.alloc (.cells #[u, v] 64)).alloc (.cells #[.bool false, .slice none 0 0] 64)) := by
  have hz : (w.alloc (.cells #[u, v] 64)).heap.size = w.heap.size + 1 := by simp
  have h1 := (Two.start w u v 64).below (alloc_below _ (.cells #[.bool false, .slice none 0 0] 64))
  have h2 := Two.start (w.alloc (.cells #[u, v] 64)) (.bool false) (.slice none 0 0) 64
  rw [hz] at h2
  exact ⟨h1, h2, (alloc_below w _).alloc (by rw [hz]; omega) _⟩
end Go.Proofs.YtkanddmihmdagaaGreatDoor.Wh

/- Layer 2, on: together, Mul. -/
namespace Go.Proofs.YtkanddmihmdagaaGreatDoor.Wh
open Go.RowKit Go.Proofs.YtkanddmihmdagaaGreatDoor.Dig Go.Proofs.YtkanddmihmdagaaGreatDoor.W Go.Proofs.YtkanddmihmdagaaGreatDoor.Nat

/-- the boxes of two arguments, and the result's cell -/
def W3 (w : World) (u v u' v' : Value) : World := ((w.alloc (.cells #[u, v] 64)).alloc (.cells #[u', v'] 64)).alloc (.cells #[.bool false, .slice none 0 0] 64)
structure Box2 (w W : World) (u v u' v' : Value) : Prop where
  a : Two W w.heap.size 64 u v
  b : Two W (w.heap.size + 1) 64 u' v'
  r : Two W (w.heap.size + 2) 64 (.bool false) (.slice none 0 0)
  bl : Below w.heap.size w W
theorem Box2.start (w : World) (u v u' v' : Value) : Box2 w (W3 w u v u' v') u v u' v' := by
  have hz : (w.alloc (.cells #[u, v] 64)).heap.size = w.heap.size + 1 := by simp
  have hz2 : ((w.alloc (.cells #[u, v] 64)).alloc (.cells #[u', v'] 64)).heap.size = w.heap.size + 2 := by simp
  have h1 := ((Two.start w u v 64).below (alloc_below _ (.cells #[u', v'] 64))).below (alloc_below _ (.cells #[.bool false, .slice none 0 0] 64))
  have h2 := (Two.start (w.alloc (.cells #[u, v] 64)) u' v' 64).below (alloc_below _ (.cells #[.bool false, .slice none 0 0] 64))
  have h3 := Two.start ((w.alloc (.cells #[u, v] 64)).alloc (.cells #[u', v'] 64)) (.bool false) (.slice none 0 0) 64
  rw [hz] at h2
  rw [hz2] at h3
  exact ⟨h1, h2, h3, ((alloc_below w _).alloc (by rw [hz]; omega) _).alloc (by rw [hz2]; omega) _⟩
theorem Box2.below {w W W' : World} {u v u' v' : Value} (h : Box2 w W u v u' v') (hb : Below W.heap.size W W') : Box2 w W' u v u' v' :=
  ⟨h.a.below hb, h.b.below hb, h.r.below hb, h.bl.trans (hb.mono h.bl.size)⟩
/-- what the loads of the arguments read -/
def Rd4 (w : World) (g : Nat) (u v u' v' : Value) : Prop := w.cell? ⟨g, 0, none⟩ = some u ∧ w.cell? ⟨g, 1, none⟩ = some v ∧ w.cell? ⟨g + 1, 0, none⟩ = some u' ∧ w.cell? ⟨g + 1, 1, none⟩ = some v'
theorem Box2.rd {w W : World} {u v u' v' : Value} (h : Box2 w W u v u' v') : Rd4 W w.heap.size u v u' v' := ⟨h.a.c0, h.a.c1, h.b.c0, h.b.c1⟩
theorem Rd4.far {w : World} {g : Nat} {u v u' v' : Value} (h : Rd4 w g u v u' v') (a b : Value) : Rd4 ((w.setCell ⟨g + 1 + 1, 0, none⟩ a).setCell ⟨g + 1 + 1, 1, none⟩ b) g u v u' v' := by
  have k : ∀ (x : Nat) (i j : Nat) (t y : Value) (w : World), x < g + 1 + 1 → w.cell? ⟨x, i, none⟩ = some t → (w.setCell ⟨g + 1 + 1, j, none⟩ y).cell? ⟨x, i, none⟩ = some t := fun x i j t y w hx hc =>
    (World.cell?_setCell_other w ⟨g + 1 + 1, j, none⟩ ⟨x, i, none⟩ y (fun he => by have := congrArg Addr.block he; simp at this; omega)).trans hc
  exact ⟨k _ _ _ _ _ _ (by omega) (k _ _ _ _ _ _ (by omega) h.1), k _ _ _ _ _ _ (by omega) (k _ _ _ _ _ _ (by omega) h.2.1), k _ _ _ _ _ _ (by omega) (k _ _ _ _ _ _ (by omega) h.2.2.1), k _ _ _ _ _ _ (by omega) (k _ _ _ _ _ _ (by omega) h.2.2.2)⟩
theorem dl (m : Nat) : Lt U (digs U m) := digs_lt U_two m
theorem make_d (ng : Bool) (A : Option Addr) (n c m : Nat) (w : World) (h : SI w .u64 A n c (digs U m)) (hn : n ≤ 8796093022208) : Calls Tryz.prog 76 #[.bool ng, .slice A n c] w (GivesW w (sg ng m)) := by
  have e := make_calls ng A n c (digs U m) w h (dl m) hn
  rw [val_digs U_two] at e
  exact e
theorem len_add {l l' : List Nat} {n n' M : Nat} (hl : Lt U l) (hl' : Lt U l') (h : l.length = n) (h' : l'.length = n') (hn : n ≤ M) (hn' : n' ≤ M) : (digs U (val U l + val U l')).length ≤ M + 1 := by
  have h1 := val_lt U_pos hl
  have h2 := val_lt U_pos hl'
  have p1 : U ^ l.length ≤ U ^ M := Nat.pow_le_pow_right U_pos (by omega)
  have p2 : U ^ l'.length ≤ U ^ M := Nat.pow_le_pow_right U_pos (by omega)
  have p3 : U ^ M * 2 ≤ U ^ (M + 1) := by rw [Nat.pow_succ]; exact Nat.mul_le_mul_left _ U_two
  exact (digs_length_le U_two _ _).2 (by omega)
set_option maxHeartbeats 4000000 in
set_option maxRecDepth 100000 in
theorem together_calls (ng ng' : Bool) (A A' : Option Addr) (n c n' c' : Nat) (l l' : List Nat) (w : World) (h : SI w .u64 A n c l) (h' : SI w .u64 A' n' c' l') (hl : Lt U l) (hl' : Lt U l') (hn : n ≤ 1099511627776) (hn' : n' ≤ 1099511627776) :
    Calls Tryz.prog 78 #[.agg #[.bool ng, .slice A n c], .agg #[.bool ng', .slice A' n' c']] w (GivesW w (sg ng (val U l + val U l'))) := by
  have hB := Box2.start w (.bool ng) (.slice A n c) (.bool ng') (.slice A' n' c')
  obtain ⟨W, hW⟩ : ∃ W, W = W3 w (.bool ng) (.slice A n c) (.bool ng') (.slice A' n' c') := ⟨_, rfl⟩
  rw [← hW] at hB
  have HW := Lib.hid hW
  unfold W3 at HW
  have hB2 := hB.below (Below.refl W.heap.size W).drew
  have kp := hB2.rd
  have hA := add_calls A A' n c n' c' l l' W.drew (h.below hB2.bl) (h'.below hB2.bl) hl hl' hn hn'
  have hlen := len_add hl hl' h.len h'.len hn hn'
  generalize val U l + val U l' = m at *
  have HA := Lib.hid hA
  have HL := Lib.hid hlen
  clear hA hlen hW h h' hB
  unfold Rd4 at kp
  go_enter Tryz.func78, Tryz.ntmps78
  go_wp2
  rw [← HW.out]
  clear HW
  go_region_held3 (fun w' => w'.cell? ⟨w.heap.size, 0, none⟩ = some (.bool ng) ∧ w'.cell? ⟨w.heap.size, 1, none⟩ = some (.slice A n c) ∧ w'.cell? ⟨w.heap.size + 1, 0, none⟩ = some (.bool ng') ∧ w'.cell? ⟨w.heap.size + 1, 1, none⟩ = some (.slice A' n' c'))
    (first
      | exact kp
      | exact k1
      | exact k2
      | exact k2.far _ _)
    (first
      | (go_at_call 91; (with_reducible refine HA.out.mono ?_); rintro e w1 ⟨v1, rfl, o1, b1⟩; obtain ⟨A1, n1, c1, rfl, r1⟩ := o1.reads_n; have x1 := hB2.below b1; have k1 := x1.rd)
      | (go_at_call 76; (with_reducible refine (make_d ng A1 n1 c1 m w1 r1 (by have := r1.len; have := HL.out; omega)).mono ?_); rintro e w2 ⟨A2, n2, c2, rfl, r2, f2, b2⟩; have x2 := x1.below b2; have k2 := x2.rd; have q0 := x2.r.c0; have q1 := x2.r.c1; have g0 := x2.r.f0; have g1 := x2.r.f1))
  go_wp2
  obtain ⟨p1, p2, p3⟩ := put_res (a := .bool (decide (sg ng m < 0))) (b := .slice A2 n2 c2) x1.bl x1.r (by omega) r2 f2 b2
  exact bodyPost_ret (two_results rfl _ (x2.r.store _ _) rfl) rfl ⟨A2, n2, c2, rfl, p1, p2, p3⟩
end Go.Proofs.YtkanddmihmdagaaGreatDoor.Wh

/- Layer 2, on: Mul. -/
namespace Go.Proofs.YtkanddmihmdagaaGreatDoor.Wh
open Go.RowKit Go.Proofs.YtkanddmihmdagaaGreatDoor.Dig Go.Proofs.YtkanddmihmdagaaGreatDoor.W Go.Proofs.YtkanddmihmdagaaGreatDoor.Nat

theorem len_mul {l l' : List Nat} {n n' M : Nat} (hl : Lt U l) (hl' : Lt U l') (h : l.length = n) (h' : l'.length = n') (hn : n ≤ M) (hn' : n' ≤ M) : (digs U (val U l * val U l')).length ≤ M + M := by
  have h1 := val_lt U_pos hl
  have h2 := val_lt U_pos hl'
  rw [h] at h1
  rw [h'] at h2
  have p1 : U ^ n ≤ U ^ M := Nat.pow_le_pow_right U_pos hn
  have p2 : U ^ n' ≤ U ^ M := Nat.pow_le_pow_right U_pos hn'
  refine (digs_length_le U_two _ _).2 ?_
  rw [Nat.pow_add]
  exact Nat.mul_lt_mul'' (by omega) (by omega)
theorem sg_mul (a b : Bool) (m k : Nat) : sg a m * sg b k = sg (a != b) (m * k) := by
  cases a <;> cases b <;> simp [sg, Int.neg_mul, Int.mul_neg]
end Go.Proofs.YtkanddmihmdagaaGreatDoor.Wh

/- Layer 2, on: apart. -/
namespace Go.Proofs.YtkanddmihmdagaaGreatDoor.Wh
open Go.RowKit Go.Proofs.YtkanddmihmdagaaGreatDoor.Dig Go.Proofs.YtkanddmihmdagaaGreatDoor.W Go.Proofs.YtkanddmihmdagaaGreatDoor.Nat

set_option maxHeartbeats 4000000 in
set_option maxRecDepth 100000 in
theorem apart_ge (ng ng' : Bool) (A A' : Option Addr) (n c n' c' : Nat) (l l' : List Nat) (w : World) (h : SI w .u64 A n c l) (h' : SI w .u64 A' n' c' l') (hl : Lt U l) (hl' : Lt U l') (hn : n ≤ 1099511627776) (hn' : n' ≤ 1099511627776) (hle : val U l' ≤ val U l) :
    Calls Tryz.prog 77 #[.agg #[.bool ng, .slice A n c], .agg #[.bool ng', .slice A' n' c']] w (GivesW w (sg ng (val U l - val U l'))) := by
  have hB := Box2.start w (.bool ng) (.slice A n c) (.bool ng') (.slice A' n' c')
  obtain ⟨W, hW⟩ : ∃ W, W = W3 w (.bool ng) (.slice A n c) (.bool ng') (.slice A' n' c') := ⟨_, rfl⟩
  rw [← hW] at hB
  have HW := Lib.hid hW
  unfold W3 at HW
  have hS := sub_calls A A' n c n' c' l l' W (h.below hB.bl) (h'.below hB.bl) hl hl' hn hn' hle
  have hv := val_lt U_pos hl
  have hlen : (digs U (val U l - val U l')).length ≤ n := (digs_length_le U_two _ _).2 (by rw [h.len] at hv; omega)
  generalize val U l - val U l' = m at *
  rw [HW.out] at hS
  have HS := Lib.hid hS
  have HL := Lib.hid hlen
  have HB := Lib.hid hB
  rw [HW.out] at HB
  clear hS hlen hv hW h h' hB hle
  go_enter Tryz.func77, Tryz.ntmps77
  go_wp2_with (first
    | (go_at_call 116; (with_reducible refine HS.out.mono ?_); rintro e w1 ⟨v1, rfl, o1, b1⟩; obtain ⟨A1, n1, c1, rfl, r1⟩ := o1.reads_n; have x1 := HB.out.below b1; have y0 := x1.a.c0)
    | (go_at_call 76; (with_reducible refine (make_d ng A1 n1 c1 m w1 r1 (by have := r1.len; have := HL.out; omega)).mono ?_); rintro e w2 ⟨A2, n2, c2, rfl, r2, f2, b2⟩; have x2 := x1.below b2; have q0 := x2.r.c0; have q1 := x2.r.c1; have g0 := x2.r.f0; have g1 := x2.r.f1))
  obtain ⟨p1, p2, p3⟩ := put_res (a := .bool (decide (sg ng m < 0))) (b := .slice A2 n2 c2) x1.bl x1.r (by omega) r2 f2 b2
  exact bodyPost_ret (two_results rfl _ (x2.r.store _ _) rfl) rfl ⟨A2, n2, c2, rfl, p1, p2, p3⟩
set_option maxHeartbeats 4000000 in
set_option maxRecDepth 100000 in
theorem apart_lt (ng ng' : Bool) (A A' : Option Addr) (n c n' c' : Nat) (l l' : List Nat) (w : World) (h : SI w .u64 A n c l) (h' : SI w .u64 A' n' c' l') (hl : Lt U l) (hl' : Lt U l') (hn : n ≤ 1099511627776) (hn' : n' ≤ 1099511627776) (hlt : val U l < val U l') :
    Calls Tryz.prog 77 #[.agg #[.bool ng, .slice A n c], .agg #[.bool ng', .slice A' n' c']] w (GivesW w (sg ng' (val U l' - val U l))) := by
  have hB := Box2.start w (.bool ng) (.slice A n c) (.bool ng') (.slice A' n' c')
  obtain ⟨W, hW⟩ : ∃ W, W = W3 w (.bool ng) (.slice A n c) (.bool ng') (.slice A' n' c') := ⟨_, rfl⟩
  rw [← hW] at hB
  have HW := Lib.hid hW
  unfold W3 at HW
  have hS := sub_below A A' n c n' c' l l' W (h.below hB.bl) (h'.below hB.bl) hl hl' hlt
  have hA := fun w1 (hd : Drawn W w1) => apart_ge ng' ng A' A n' c' n c l' l w1 ((h'.below hB.bl).below hd.below) ((h.below hB.bl).below hd.below) hl' hl hn' hn (Nat.le_of_lt hlt)
  generalize val U l' - val U l = m at *
  rw [HW.out] at hS hA
  have HS := Lib.hid hS
  have HA := Lib.hid hA
  have HB := Lib.hid hB
  rw [HW.out] at HB
  clear hS hA hW h h' hB hlt
  go_enter Tryz.func77, Tryz.ntmps77
  go_wp2_with (first
    | (go_at_call 116; (with_reducible refine HS.out.mono ?_); rintro e w1 ⟨rfl, d1⟩; have x1 := HB.out.below d1.below; have y0 := x1.a.c0; have y1 := x1.a.c1; have y2 := x1.b.c0; have y3 := x1.b.c1)
    | (go_at_call 77; (with_reducible refine (HA.out w1 d1).mono ?_); rintro e w2 ⟨A2, n2, c2, rfl, r2, f2, b2⟩; have x2 := x1.below b2; have q0 := x2.r.c0; have q1 := x2.r.c1; have g0 := x2.r.f0; have g1 := x2.r.f1))
  obtain ⟨p1, p2, p3⟩ := put_res (a := .bool (decide (sg ng' m < 0))) (b := .slice A2 n2 c2) x1.bl x1.r (by omega) r2 f2 b2
  exact bodyPost_ret (two_results rfl _ (x2.r.store _ _) rfl) rfl ⟨A2, n2, c2, rfl, p1, p2, p3⟩
end Go.Proofs.YtkanddmihmdagaaGreatDoor.Wh

/- An order's law: a condition on the world that is kept only until the listed numbers have come up. -/
namespace Go.Un
variable {P : Program} {ops : Array Oper} {Q : Exit → Act → World → Prop} {md : Region.Mode} {S : World → Prop} {R M : List Nat}

/-- some number of R has come up -/
def came (R : List Nat) (listed : Array Bool) : Bool := R.any fun k => listed.getD k true

/-- nobody of M has come up, and each of them waits for i, or for another of M -/
def behind (md : Region.Mode) (ops : Array Oper) (listed : Array Bool) (i : Nat) (M : List Nat) : Bool :=
  M.all fun m => !(listed.getD m true) && match ops[m]? with | some o => o.after.any (fun e => Region.binds md e && (e.on == i || M.contains e.on)) | none => false

def wpAnyU (P : Program) (md : Region.Mode) (ops : Array Oper) (Q : Exit → Act → World → Prop) (S : World → Prop) (R : List Nat) : Nat → Array Bool → Act → World → Prop
  | 0, listed, a, w => Region.ready md ops listed = [] ∧ Q .normal a w
  | fuel + 1, listed, a, w =>
    (Region.ready md ops listed = [] → Q .normal a w) ∧
    ∀ i ∈ Region.ready md ops listed, wpOp P ops Q i (fun a' w' => (came R (listed.setIfInBounds i true) = false → S w') ∧ wpAnyU P md ops Q S R fuel (listed.setIfInBounds i true) a' w') a w

theorem wpAny_of_un : ∀ (fuel : Nat) (listed : Array Bool) (a : Act) (w : World), wpAnyU P md ops Q S R fuel listed a w → wpAny P md ops Q fuel listed a w
  | 0, _, _, _, h => h
  | fuel + 1, _, _, _, h => ⟨h.1, fun i hi => wpOp_mono (fun a' w' h' => wpAny_of_un fuel _ a' w' h'.2) (h.2 i hi)⟩

theorem wpAnyU_first {i : Nat} {oi : Oper} {v : Value} (hi : ops[i]? = some oi) (hRM : ∀ k ∈ R, k ∈ M) (hsel : ∀ (j : Nat) (o : Oper) cs b, ops[j]? = some o → o.op ≠ .select cs b)
    (hQ : ∀ c a w, Q (.panic c) (a.put oi.dst v) w → Q (.panic c) a w) :
    ∀ (fuel : Nat) (listed : Array Bool) (a : Act) (w : World),
      (∀ j oj, ops[j]? = some oj → j ≠ i → listed.getD j true = false → (∀ e ∈ oj.after, Region.binds md e = true → e.on ≠ i) → oi.apart ops oj = true) →
      behind md ops listed i M = true → i ∈ Region.ready md ops listed → YieldsIf P ops S oi v a → S w →
      wpAnyU P md ops Q S R fuel (listed.setIfInBounds i true) (a.put oi.dst v) w → wpAnyU P md ops Q S R (fuel + 1) listed a w := by
  intro fuel
  induction fuel with
  | zero =>
    intro listed a w _ _ hr hy hS H
    refine ⟨fun h => (by rw [h] at hr; cases hr), fun j hj => ?_⟩
    by_cases hji : j = i
    · subst hji; exact hy.wpOp hi hS ⟨fun _ => hS, H⟩
    · have := ready_mono hj hji
      rw [H.1] at this
      cases this
  | succ fuel ih =>
    intro listed a w hfree hbe hr hy hS H
    refine ⟨fun h => (by rw [h] at hr; cases hr), fun j hj => ?_⟩
    by_cases hji : j = i
    · subst hji; exact hy.wpOp hi hS ⟨fun _ => hS, H⟩
    · have h1 := H.2 j (ready_mono hj hji)
      obtain ⟨hjun, oj, hoj, hall⟩ := mem_ready.1 hj
      have hnot : ∀ e ∈ oj.after, Region.binds md e = true → e.on ≠ i := fun e he hb heq => by
        have h1 := hall e he hb
        have h0 := (mem_ready.1 hr).1
        rw [heq] at h1
        rcases Nat.lt_or_ge i listed.size with h' | h'
        · simp [h'] at h0 h1; rw [h0] at h1; cases h1
        · simp [Array.getElem?_eq_none h'] at h1
      have h2 := wpOp_putIf hoj (hfree j oj hoj hji hjun hnot) (fun cs b => hsel i oi cs b hi) (fun cs b => hsel j oj cs b hoj) hQ hy h1
      have hb2 : ∀ m ∈ M, listed.getD m true = false ∧ ∃ o, ops[m]? = some o ∧ ∃ e ∈ o.after, Region.binds md e = true ∧ (e.on = i ∨ e.on ∈ M) := fun m hm => by
        have h := List.all_eq_true.1 hbe m hm
        rw [Bool.and_eq_true] at h
        refine ⟨by simpa using h.1, ?_⟩
        have h2 := h.2
        cases ho : ops[m]? with
        | none => rw [ho] at h2; cases h2
        | some o =>
          rw [ho] at h2
          obtain ⟨e, he, hb⟩ := Array.any_eq_true'.1 h2
          rw [Bool.and_eq_true, Bool.or_eq_true] at hb
          exact ⟨o, rfl, e, he, hb.1, hb.2.imp (fun h => by simpa using h) (fun h => by simpa using h)⟩
      have hi0 := (mem_ready.1 hr).1
      have hi00 : listed.getD i true = false := by
        obtain ⟨h0, _⟩ := mem_ready.1 hr
        first
        | exact h0
        | simpa using h0
      have hft : ∀ k, listed.getD k true = false → listed.getD k false = true → False := fun k h0 h1 => by
        rcases Nat.lt_or_ge k listed.size with h' | h'
        · simp [h'] at h0 h1; rw [h0] at h1; cases h1
        · simp [Array.getElem?_eq_none h'] at h0
      have hgd : ∀ k, listed.getD k true = false → listed.getD k false = false := fun k h0 => by
        cases h1 : listed.getD k false with
        | false => rfl
        | true => exact (hft k h0 h1).elim
      have hno : ∀ j ∈ Region.ready md ops listed, j ∉ M := fun j hj hm => by
        obtain ⟨h0, o, ho, e, he, hb, h⟩ := hb2 j hm
        obtain ⟨_, oj, hoj, hall⟩ := mem_ready.1 hj
        rw [hoj] at ho; cases ho
        have hl := hall e he hb
        rcases h with h | h
        · rw [h] at hl
          exact hft i hi00 hl
        · exact hft e.on (hb2 _ h).1 hl
      have hjM := hno j (mem_ready.2 ⟨hjun, oj, hoj, hall⟩)
      have hiM := hno i hr
      have hbe' : behind md ops (listed.setIfInBounds j true) i M = true := by
        refine List.all_eq_true.2 fun m hm => ?_
        have h := List.all_eq_true.1 hbe m hm
        rw [getD_set_ne true (fun he => hjM (by rw [he]; exact hm))]
        exact h
      have hca : came R ((listed.setIfInBounds i true).setIfInBounds j true) = false := by
        unfold came
        refine Bool.eq_false_iff.2 fun h => ?_
        obtain ⟨k, hk, hl⟩ := List.any_eq_true.1 h
        have hkM := hRM k hk
        rw [getD_set_ne true (fun he => hjM (by rw [he]; exact hkM)), getD_set_ne true (fun he => hiM (by rw [he]; exact hkM)), (hb2 k hkM).1] at hl
        cases hl
      have hfree' : ∀ k ok, ops[k]? = some ok → k ≠ i → (listed.setIfInBounds j true).getD k true = false →
          (∀ e ∈ ok.after, Region.binds md e = true → e.on ≠ i) → oi.apart ops ok = true := fun k ok hk hki hun hno => by
        refine hfree k ok hk hki ?_ hno
        by_cases hjk : j = k
        · subst hjk; exact hjun
        · rw [getD_set_ne true hjk] at hun; exact hun
      refine wpOp_mono (fun a' w' h3 => ⟨fun _ => h3.2.1 hca, ih (listed.setIfInBounds j true) a' w' hfree' hbe' (ready_mono hr (Ne.symm hji)) h3.1 (h3.2.1 hca) ?_⟩) h2
      rw [Array.setIfInBounds_comm _ _ hji]
      exact h3.2.2
theorem take {i : Nat} (M : List Nat) {oi : Oper} {v : Value} {fuel : Nat} {listed : Array Bool} {a : Act} {w : World} (hi : ops[i]? = some oi)
    (hs : Region.noSelect ops = true) (hf : Region.free md ops listed i = true) (hr : (Region.ready md ops listed).contains i = true)
    (hRM : R.all (fun k => M.contains k) = true) (hb : behind md ops listed i M = true)
    (hQ : ∀ c a w, Q (.panic c) (a.put oi.dst v) w → Q (.panic c) a w) (hy : YieldsIf P ops S oi v a) (hS : S w)
    (h : wpAnyU P md ops Q S R fuel (listed.setIfInBounds i true) (a.put oi.dst v) w) : wpAnyU P md ops Q S R (fuel + 1) listed a w :=
  wpAnyU_first hi (M := M) (fun k hk => by have := List.all_eq_true.1 hRM k hk; simpa using this) (Region.noSelect_spec hs) hQ fuel listed a w (Region.free_spec hi hf) hb (by simpa using hr) hy hS h

theorem all {rs : List Nat} {fuel : Nat} {listed : Array Bool} {a : Act} {w : World} (hr : Region.ready md ops listed = rs) (hne : rs ≠ [])
    (h : ∀ i ∈ rs, wpOp P ops Q i (fun a' w' => (came R (listed.setIfInBounds i true) = false → S w') ∧ wpAnyU P md ops Q S R fuel (listed.setIfInBounds i true) a' w') a w) : wpAnyU P md ops Q S R (fuel + 1) listed a w :=
  ⟨fun h0 => absurd (hr ▸ h0) hne, hr ▸ h⟩

theorem done {listed : Array Bool} {a : Act} {w : World} (hr : Region.ready md ops listed = []) (h : Q .normal a w) :
    ∀ fuel, wpAnyU P md ops Q S R fuel listed a w
  | 0 => ⟨hr, h⟩
  | _ + 1 => ⟨fun _ => h, by rw [hr]; simp⟩

theorem start {id : Nat} {a : Act} {w : World} (S : World → Prop) (R : List Nat) (hm : P.follows .mixedOrders = true)
    (h : wpAnyU P .any ops Q S R ops.size (Array.replicate ops.size false) a { w with drawn := w.drawn + 1 }) : (Code.region id ops true).wp P Q a w :=
  wp_region_any hm (wpAny_of_un _ _ _ _ h)
/-- one number alone may come up -/
theorem one {i : Nat} {o : Oper} {fuel : Nat} {listed : Array Bool} {a : Act} {w : World} (ho : ops[i]? = some o) (hr : Region.ready md ops listed = [i])
    (h : ∀ K' : Act → World → Prop, Shut (∀ a w, (came R (listed.setIfInBounds i true) = false → S w) → wpAnyU P md ops Q S R fuel (listed.setIfInBounds i true) a w → K' a w) → if Region.wanted o (yielded ops a.tmps) = true then Oper.wp P o a w K' Q else K' (a.put o.dst undef) w) :
    wpAnyU P md ops Q S R (fuel + 1) listed a w :=
  all hr (by simp) (fun j hj => by
    rw [List.mem_singleton] at hj
    subst hj
    exact wpOp_step ho (fun K' hK => h K' (fun a w hS hW => hK a w ⟨hS, hW⟩)))
end Go.Un

/- Layer 2, on: two boxes that are stored anew. -/
namespace Go.Proofs.YtkanddmihmdagaaGreatDoor.Wh
open Go.RowKit Go.Proofs.YtkanddmihmdagaaGreatDoor.Dig Go.Proofs.YtkanddmihmdagaaGreatDoor.W Go.Proofs.YtkanddmihmdagaaGreatDoor.Nat

theorem Two.far {w : World} {g g2 : Nat} {t : TypeId} {u v : Value} (h : Two w g t u v) (hne : g ≠ g2) (a b : Value) : Two ((w.setCell ⟨g2, 0, none⟩ a).setCell ⟨g2, 1, none⟩ b) g t u v :=
  (heap_setCell_other _ ⟨g2, 1, none⟩ g b hne).trans ((heap_setCell_other _ ⟨g2, 0, none⟩ g a hne).trans h)
/-- the boxes and rows behind the stores of both arguments -/
def Put4 (w : World) (g : Nat) (a b a' b' : Value) : World := (((w.setCell ⟨g, 0, none⟩ a).setCell ⟨g, 1, none⟩ b).setCell ⟨g + 1, 0, none⟩ a').setCell ⟨g + 1, 1, none⟩ b'
theorem Box2.put4 {w W : World} {u v u' v' : Value} (h : Box2 w W u v u' v') (a b a' b' : Value) : Box2 w (Put4 W w.heap.size a b a' b') a b a' b' :=
  ⟨Two.far (h.a.store a b) (by omega) a' b', (Two.far h.b (by omega) a b).store a' b', Two.far (Two.far h.r (by omega) a b) (by omega) a' b',
   (((h.bl.setCell (Nat.le_refl _) _).setCell (Nat.le_refl _) _).setCell (Nat.le_succ _) _).setCell (Nat.le_succ _) _⟩
theorem si_put4 {w : World} {k : IntKind} {A : Option Addr} {n c g : Nat} {l : List Nat} (h : SI w k A n c l) (hA : ∀ b o s, A = some ⟨b, o, s⟩ → g + 2 ≤ b) (a b a' b' : Value) : SI (Put4 w g a b a' b') k A n c l :=
  si_setFar (si_setFar (si_setFar (si_setFar h (fun x o s e => by have := hA x o s e; omega) _) (fun x o s e => by have := hA x o s e; omega) _) (fun x o s e => by have := hA x o s e; omega) _) (fun x o s e => by have := hA x o s e; omega) _
end Go.Proofs.YtkanddmihmdagaaGreatDoor.Wh

/- Layer 2, on: Add. -/
namespace Go.Proofs.YtkanddmihmdagaaGreatDoor.Wh
open Go.RowKit Go.Proofs.YtkanddmihmdagaaGreatDoor.Dig Go.Proofs.YtkanddmihmdagaaGreatDoor.W Go.Proofs.YtkanddmihmdagaaGreatDoor.Nat

theorem sg_same {x y : Int} (h : decide (x < 0) = decide (y < 0)) : sg (decide (x < 0)) (x.natAbs + y.natAbs) = x + y := by
  unfold sg
  by_cases h1 : x < 0 <;> by_cases h2 : y < 0 <;> simp [h1, h2] at h ⊢ <;> omega
theorem sg_ge {x y : Int} (h : decide (x < 0) ≠ decide (y < 0)) (hle : y.natAbs ≤ x.natAbs) : sg (decide (x < 0)) (x.natAbs - y.natAbs) = x + y := by
  unfold sg
  by_cases h1 : x < 0 <;> by_cases h2 : y < 0 <;> simp [h1, h2] at h ⊢ <;> omega
theorem sg_lt {x y : Int} (h : decide (x < 0) ≠ decide (y < 0)) (hlt : x.natAbs < y.natAbs) : sg (decide (y < 0)) (y.natAbs - x.natAbs) = x + y := by
  unfold sg
  by_cases h1 : x < 0 <;> by_cases h2 : y < 0 <;> simp [h1, h2] at h ⊢ <;> omega
theorem digs_len_le {l : List Nat} {n M : Nat} (hl : Lt U l) (h : l.length = n) (hn : n ≤ M) : (digs U (val U l)).length ≤ M := by
  have h1 := val_lt U_pos hl
  rw [h] at h1
  exact (digs_length_le U_two _ _).2 (Nat.lt_of_lt_of_le h1 (Nat.pow_le_pow_right U_pos hn))
set_option maxHeartbeats 4000000 in
set_option maxRecDepth 100000 in
theorem wadd_calls (ng ng' : Bool) (A A' : Option Addr) (n c n' c' : Nat) (l l' : List Nat) (w : World) (h : SI w .u64 A n c l) (h' : SI w .u64 A' n' c' l') (hl : Lt U l) (hl' : Lt U l') (hn : n ≤ 1099511627776) (hn' : n' ≤ 1099511627776) :
    Calls Tryz.prog 46 #[.agg #[.bool ng, .slice A n c], .agg #[.bool ng', .slice A' n' c']] w (GivesW w (sg ng (val U l) + sg ng' (val U l'))) := by
  have hB := Box2.start w (.bool ng) (.slice A n c) (.bool ng') (.slice A' n' c')
  obtain ⟨W, hW⟩ : ∃ W, W = W3 w (.bool ng) (.slice A n c) (.bool ng') (.slice A' n' c') := ⟨_, rfl⟩
  rw [← hW] at hB
  have HW := Lib.hid hW
  unfold W3 at HW
  have hB2 := hB.below (Below.refl W.heap.size W).drew
  have kp := hB2.rd
  obtain ⟨d0, d1, d2, d3⟩ := kp
  have h1 := make_calls ng A n c l W.drew (h.below hB2.bl) hl (by omega)
  have h2 := fun w1 (hb : Below W.drew.heap.size W.drew w1) => make_calls ng' A' n' c' l' w1 ((h'.below hB2.bl).below hb) hl' (by omega)
  have HN1 := Lib.hid (digs_len_le hl h.len hn)
  have HN2 := Lib.hid (digs_len_le hl' h'.len hn')
  have H1 := Lib.hid h1
  have H2 := Lib.hid h2
  clear hW h h' hB h1 h2
  go_enter Tryz.func46, Tryz.ntmps46
  go_wp2
  rw [← HW.out]
  clear HW
  refine Go.Un.start (fun w' => w'.cell? ⟨w.heap.size, 0, none⟩ = some (.bool ng) ∧ w'.cell? ⟨w.heap.size, 1, none⟩ = some (.slice A n c) ∧ w'.cell? ⟨w.heap.size + 1, 0, none⟩ = some (.bool ng') ∧ w'.cell? ⟨w.heap.size + 1, 1, none⟩ = some (.slice A' n' c')) [10, 11] (by rfl) ?_
  have hS := And.intro d0 (And.intro d1 (And.intro d2 d3))
  refine Go.Un.take [1, 4, 9, 10, 11] (i := 0) (v := ?_) rfl (by kernel_rfl) (by kernel_rfl) (by kernel_rfl) (by kernel_rfl) (by kernel_rfl) (fun _ _ _ h => h) (Or.inl ⟨by rfl, ?_⟩) hS ?_
  rotate_left
  · intro w hSw
    try dsimp only at hSw
    go_simp
    try with_reducible rfl
  try simp only [Act.put, List.setIfInBounds_toArray, List.set_cons_zero, List.set_cons_succ]
  refine Go.Un.take [4, 9, 10, 11] (i := 1) (v := ?_) rfl (by kernel_rfl) (by kernel_rfl) (by kernel_rfl) (by kernel_rfl) (by kernel_rfl) (fun _ _ _ h => h) (Or.inl ⟨by rfl, ?_⟩) hS ?_
  rotate_left
  · intro w hSw
    try dsimp only at hSw
    go_simp
    try with_reducible rfl
  try simp only [Act.put, List.setIfInBounds_toArray, List.set_cons_zero, List.set_cons_succ]
  refine Go.Un.take [3, 4, 9, 10, 11] (i := 2) (v := ?_) rfl (by kernel_rfl) (by kernel_rfl) (by kernel_rfl) (by kernel_rfl) (by kernel_rfl) (fun _ _ _ h => h) (Or.inl ⟨by rfl, ?_⟩) hS ?_
  rotate_left
  · intro w hSw
    try dsimp only at hSw
    go_simp
    try with_reducible rfl
  try simp only [Act.put, List.setIfInBounds_toArray, List.set_cons_zero, List.set_cons_succ]
  refine Go.Un.take [4, 9, 10, 11] (i := 3) (v := ?_) rfl (by kernel_rfl) (by kernel_rfl) (by kernel_rfl) (by kernel_rfl) (by kernel_rfl) (fun _ _ _ h => h) (Or.inl ⟨by rfl, ?_⟩) hS ?_
  rotate_left
  · intro w hSw
    try dsimp only at hSw
    go_simp
    try with_reducible rfl
  try simp only [Act.put, List.setIfInBounds_toArray, List.set_cons_zero, List.set_cons_succ]
  refine Go.Un.take [6, 9, 10, 11] (i := 5) (v := ?_) rfl (by kernel_rfl) (by kernel_rfl) (by kernel_rfl) (by kernel_rfl) (by kernel_rfl) (fun _ _ _ h => h) (Or.inl ⟨by rfl, ?_⟩) hS ?_
  rotate_left
  · intro w hSw
    try dsimp only at hSw
    go_simp
    try with_reducible rfl
  try simp only [Act.put, List.setIfInBounds_toArray, List.set_cons_zero, List.set_cons_succ]
  refine Go.Un.take [9, 10, 11] (i := 6) (v := ?_) rfl (by kernel_rfl) (by kernel_rfl) (by kernel_rfl) (by kernel_rfl) (by kernel_rfl) (fun _ _ _ h => h) (Or.inl ⟨by rfl, ?_⟩) hS ?_
  rotate_left
  · intro w hSw
    try dsimp only at hSw
    go_simp
    try with_reducible rfl
  try simp only [Act.put, List.setIfInBounds_toArray, List.set_cons_zero, List.set_cons_succ]
  refine Go.Un.take [8, 9, 10, 11] (i := 7) (v := ?_) rfl (by kernel_rfl) (by kernel_rfl) (by kernel_rfl) (by kernel_rfl) (by kernel_rfl) (fun _ _ _ h => h) (Or.inl ⟨by rfl, ?_⟩) hS ?_
  rotate_left
  · intro w hSw
    try dsimp only at hSw
    go_simp
    try with_reducible rfl
  try simp only [Act.put, List.setIfInBounds_toArray, List.set_cons_zero, List.set_cons_succ]
  refine Go.Un.take [9, 10, 11] (i := 8) (v := ?_) rfl (by kernel_rfl) (by kernel_rfl) (by kernel_rfl) (by kernel_rfl) (by kernel_rfl) (fun _ _ _ h => h) (Or.inl ⟨by rfl, ?_⟩) hS ?_
  rotate_left
  · intro w hSw
    try dsimp only at hSw
    go_simp
    try with_reducible rfl
  try simp only [Act.put, List.setIfInBounds_toArray, List.set_cons_zero, List.set_cons_succ]
  refine Go.Un.one (i := 4) rfl (by kernel_rfl) (fun K hK => ?_)
  go_simp
  go_at_call_of 76 (Value.slice A n c); (with_reducible refine H1.out.mono ?_); rintro e w1 ⟨A1, n1, c1, rfl, r1, f1, b1⟩; have x1 := hB2.below b1
  refine hK.out _ _ (fun _ => x1.rd) ?_
  clear hK
  clear K
  try simp only [Act.put, List.setIfInBounds_toArray, List.set_cons_zero, List.set_cons_succ]
  refine Go.Un.one (i := 9) rfl (by kernel_rfl) (fun K hK => ?_)
  go_simp
  go_at_call_of 76 (Value.slice A' n' c'); (with_reducible refine (H2.out _ b1).mono ?_); rintro e w2 ⟨A2, n2, c2, rfl, r2, f2, b2⟩; have x2 := x1.below b2; have q0 := x2.a.c0; have q1 := x2.a.c1; have q2 := x2.b.c0; have q3 := x2.b.c1; have g0 := x2.a.f0; have g1 := x2.a.f1; have g2 := x2.b.f0; have g3 := x2.b.f1
  refine hK.out _ _ (fun _ => x2.rd) ?_
  clear hK
  clear K
  try simp only [Act.put, List.setIfInBounds_toArray, List.set_cons_zero, List.set_cons_succ]
  refine Go.Un.one (i := 10) rfl (by kernel_rfl) (fun K hK => ?_)
  go_simp
  refine hK.out _ _ (fun h => by exact absurd h (by decide)) ?_
  clear hK
  clear K
  try simp only [Act.put, List.setIfInBounds_toArray, List.set_cons_zero, List.set_cons_succ]
  refine Go.Un.one (i := 11) rfl (by kernel_rfl) (fun K hK => ?_)
  go_simp
  refine hK.out _ _ (fun h => by exact absurd h (by decide)) ?_
  clear hK
  clear K
  try simp only [Act.put, List.setIfInBounds_toArray, List.set_cons_zero, List.set_cons_succ]
  refine Go.Un.done (by kernel_rfl) ?_ _
  have x5 := x2.put4 (.bool (decide (sg ng (val U l) < 0))) (.slice A1 n1 c1) (.bool (decide (sg ng' (val U l') < 0))) (.slice A2 n2 c2)
  have s5 := si_put4 (g := w.heap.size) (r1.below b2) (fun b o s e => by have h1 := f1 b o s e; have h2 := hB2.r.lt; omega) (.bool (decide (sg ng (val U l) < 0))) (.slice A1 n1 c1) (.bool (decide (sg ng' (val U l') < 0))) (.slice A2 n2 c2)
  have s6 := si_put4 (g := w.heap.size) r2 (fun b o s e => by have h1 := f2 b o s e; have h2 := x1.r.lt; omega) (.bool (decide (sg ng (val U l) < 0))) (.slice A1 n1 c1) (.bool (decide (sg ng' (val U l') < 0))) (.slice A2 n2 c2)
  unfold Put4 at x5 s5 s6
  generalize hW5 : ((((w2.setCell _ _).setCell _ _).setCell _ _).setCell _ _) = W5 at *
  obtain ⟨p0, p1, p2, p3⟩ := x5.rd
  have hn1 : n1 ≤ 1099511627776 := by rw [← s5.len, sg_abs]; exact HN1.out
  have hn2 : n2 ≤ 1099511627776 := by rw [← s6.len, sg_abs]; exact HN2.out
  clear H1 H2 HN1 HN2 q0 q1 q2 q3 g0 g1 g2 g3 d0 d1 d2 d3 hS x1 x2 hB2 hW5 r1 r2 b1 b2 f1 f2
  generalize sg ng (val U l) = x at *
  generalize sg ng' (val U l') = y at *
  by_cases he : decide (x < 0) = decide (y < 0)
  · have hT := together_calls (decide (x < 0)) (decide (y < 0)) A1 A2 n1 c1 n2 c2 (digs U x.natAbs) (digs U y.natAbs) W5 s5 s6 (dl _) (dl _) hn1 hn2
    rw [val_digs U_two, val_digs U_two, sg_same he, he] at hT
    have HT := Lib.hid hT
    have X5 := Lib.hid x5
    clear hT s5 s6 x5
    go_wp2_with (first
      | (go_at_call 78; (with_reducible refine HT.out.mono ?_); rintro e w6 ⟨A6, n6, c6, rfl, r6, f6, b6⟩; have x6 := X5.out.below b6; have q0 := x6.r.c0; have q1 := x6.r.c1; have g0 := x6.r.f0; have g1 := x6.r.f1))
    obtain ⟨p1, p2, p3⟩ := put_res (a := .bool (decide (x + y < 0))) (b := .slice A6 n6 c6) X5.out.bl X5.out.r (by omega) r6 f6 b6
    exact bodyPost_ret (two_results rfl _ (x6.r.store _ _) rfl) rfl ⟨A6, n6, c6, rfl, p1, p2, p3⟩
  · have hT : Calls Tryz.prog 77 #[.agg #[.bool (decide (x < 0)), .slice A1 n1 c1], .agg #[.bool (decide (y < 0)), .slice A2 n2 c2]] W5 (GivesW W5 (x + y)) := by
      rcases Nat.lt_or_ge x.natAbs y.natAbs with hc | hc
      · have hT := apart_lt (decide (x < 0)) (decide (y < 0)) A1 A2 n1 c1 n2 c2 (digs U x.natAbs) (digs U y.natAbs) W5 s5 s6 (dl _) (dl _) hn1 hn2 (by rw [val_digs U_two, val_digs U_two]; exact hc)
        rw [val_digs U_two, val_digs U_two, sg_lt he hc] at hT
        exact hT
      · have hT := apart_ge (decide (x < 0)) (decide (y < 0)) A1 A2 n1 c1 n2 c2 (digs U x.natAbs) (digs U y.natAbs) W5 s5 s6 (dl _) (dl _) hn1 hn2 (by rw [val_digs U_two, val_digs U_two]; exact hc)
        rw [val_digs U_two, val_digs U_two, sg_ge he hc] at hT
        exact hT
    have HT := Lib.hid hT
    have X5 := Lib.hid x5
    have hb : (decide (x < 0) == decide (y < 0)) = false := beq_eq_false_iff_ne.2 he
    clear hT s5 s6 x5 he
    go_wp2_with (first
      | (go_at_call 77; go_loud ((with_reducible refine HT.out.mono ?_); rintro e w6 ⟨A6, n6, c6, rfl, r6, f6, b6⟩; have x6 := X5.out.below b6; have q0 := x6.r.c0; have q1 := x6.r.c1; have g0 := x6.r.f0; have g1 := x6.r.f1)))
    obtain ⟨p1, p2, p3⟩ := put_res (a := .bool (decide (x + y < 0))) (b := .slice A6 n6 c6) X5.out.bl X5.out.r (by omega) r6 f6 b6
    exact bodyPost_ret (two_results rfl _ (x6.r.store _ _) rfl) rfl ⟨A6, n6, c6, rfl, p1, p2, p3⟩
end Go.Proofs.YtkanddmihmdagaaGreatDoor.Wh

/- Layer 2, on: Sub, Cmp. -/
namespace Go.Proofs.YtkanddmihmdagaaGreatDoor.Wh
open Go.RowKit Go.Proofs.YtkanddmihmdagaaGreatDoor.Dig Go.Proofs.YtkanddmihmdagaaGreatDoor.W Go.Proofs.YtkanddmihmdagaaGreatDoor.Nat

theorem sg_self (z : Int) : sg (decide (z < 0)) z.natAbs = z := by
  unfold sg
  by_cases h : z < 0 <;> simp [h] <;> omega
/-- how two whole numbers stand -/
def icmp (x y : Int) : Int := if x < y then -1 else if y < x then 1 else 0
end Go.Proofs.YtkanddmihmdagaaGreatDoor.Wh

/- Layer 2, on: Cmp. -/
namespace Go.Proofs.YtkanddmihmdagaaGreatDoor.Wh
open Go.RowKit Go.Proofs.YtkanddmihmdagaaGreatDoor.Dig Go.Proofs.YtkanddmihmdagaaGreatDoor.W Go.Proofs.YtkanddmihmdagaaGreatDoor.Nat

/-- the boxes of two arguments alone -/
theorem box_two (w : World) (u v u' v' : Value) : Below w.heap.size w ((w.alloc (.cells #[u, v] 64)).alloc (.cells #[u', v'] 64)) :=
  (alloc_below w _).alloc (by simp) _
theorem icmp_lt {x y : Int} (h : x - y < 0) : icmp x y = -1 := by unfold icmp; rw [if_pos (by omega)]
theorem icmp_gt {x y : Int} (h : 0 < x - y) : icmp x y = 1 := by unfold icmp; rw [if_neg (by omega), if_pos (by omega)]
theorem icmp_eq {x y : Int} (h : x - y = 0) : icmp x y = 0 := by unfold icmp; rw [if_neg (by omega), if_neg (by omega)]
end Go.Proofs.YtkanddmihmdagaaGreatDoor.Wh

/- Layer 2, on: DivMod: the words, and a divisor that is 0. -/
namespace Go.Proofs.YtkanddmihmdagaaGreatDoor.Wh
open Go.RowKit Go.Proofs.YtkanddmihmdagaaGreatDoor.Dig Go.Proofs.YtkanddmihmdagaaGreatDoor.W Go.Proofs.YtkanddmihmdagaaGreatDoor.Nat

/-- the boxes of two arguments, and the cells of two results -/
def W4 (w : World) (u v u' v' : Value) : World := (W3 w u v u' v').alloc (.cells #[.bool false, .slice none 0 0] 64)
structure Box3 (w W : World) (u v u' v' : Value) : Prop where
  a : Two W w.heap.size 64 u v
  b : Two W (w.heap.size + 1) 64 u' v'
  r : Two W (w.heap.size + 1 + 1) 64 (.bool false) (.slice none 0 0)
  s : Two W (w.heap.size + 1 + 1 + 1) 64 (.bool false) (.slice none 0 0)
  bl : Below w.heap.size w W
theorem W3_size (w : World) (u v u' v' : Value) : (W3 w u v u' v').heap.size = w.heap.size + 1 + 1 + 1 := by simp [W3]
theorem Box3.start (w : World) (u v u' v' : Value) : Box3 w (W4 w u v u' v') u v u' v' := by
  have hB := Box2.start w u v u' v'
  have hb := alloc_below (W3 w u v u' v') (.cells #[.bool false, .slice none 0 0] 64)
  have h4 := Two.start (W3 w u v u' v') (.bool false) (.slice none 0 0) 64
  rw [W3_size] at h4
  exact ⟨hB.a.below hb, hB.b.below hb, hB.r.below hb, h4, hB.bl.alloc hB.bl.size _⟩
theorem Box3.below {w W W' : World} {u v u' v' : Value} (h : Box3 w W u v u' v') (hb : Below W.heap.size W W') : Box3 w W' u v u' v' :=
  ⟨h.a.below hb, h.b.below hb, h.r.below hb, h.s.below hb, h.bl.trans (hb.mono h.bl.size)⟩
theorem Box3.put {w W : World} {u v u' v' : Value} (h : Box3 w W u v u' v') (a b a' b' : Value) :
    Two (Put4 W (w.heap.size + 1 + 1) a b a' b') (w.heap.size + 1 + 1) 64 a b ∧ Two (Put4 W (w.heap.size + 1 + 1) a b a' b') (w.heap.size + 1 + 1 + 1) 64 a' b' ∧ Below w.heap.size w (Put4 W (w.heap.size + 1 + 1) a b a' b') :=
  ⟨Two.far (h.r.store a b) (by omega) a' b', (Two.far h.s (by omega) a b).store a' b',
   (((h.bl.setCell (by show _ ≤ w.heap.size + 1 + 1; omega) _).setCell (by show _ ≤ w.heap.size + 1 + 1; omega) _).setCell (by show _ ≤ w.heap.size + 1 + 1 + 1; omega) _).setCell (by show _ ≤ w.heap.size + 1 + 1 + 1; omega) _⟩
theorem results_cct {fn : Func} {p q r : Tmp} (h : fn.results = #[.cell p 64, .cell q 64, .tmp r]) (tmps : Array Value) {w : World} {g g' : Nat} {a b a' b' v : Value} (hg : Two w g 64 a b) (hg' : Two w g' 64 a' b')
    (hp : tmps.getD p undef = .pointer (some ⟨g, 0, none⟩)) (hq : tmps.getD q undef = .pointer (some ⟨g', 0, none⟩)) (hr : tmps.getD r undef = v) : (results fn tmps).run Tryz.prog w = .ok (.tuple #[.agg #[a, b], .agg #[a', b'], v]) w := by
  have hp' : tmps[p]?.getD undef = .pointer (some ⟨g, 0, none⟩) := by simpa using hp
  have hq' : tmps[q]?.getD undef = .pointer (some ⟨g', 0, none⟩) := by simpa using hq
  have hr' : tmps[r]?.getD undef = v := by simpa using hr
  have e1 := run_loadVar_row (P := Tryz.prog) w g 64 64 #[a, b] (0, 0) _ hg Tryz.underlying64 rfl (by kernel_rfl)
  have e2 := run_loadVar_row (P := Tryz.prog) w g' 64 64 #[a', b'] (0, 0) _ hg' Tryz.underlying64 rfl (by kernel_rfl)
  simp [results, h, hp', hq', hr', asAddr, e1, e2]
/-- what DivMod hands back -/
def GivesDM (w : World) (q r : Int) (e : Ending) (w' : World) : Prop :=
  ∃ A n c A' n' c', e = .returned (.tuple #[.agg #[.bool (decide (q < 0)), .slice A n c], .agg #[.bool (decide (r < 0)), .slice A' n' c'], .int .i64 0]) ∧
    SI w' .u64 A n c (digs U q.natAbs) ∧ SI w' .u64 A' n' c' (digs U r.natAbs) ∧ (∀ b o s, A = some ⟨b, o, s⟩ → w.heap.size ≤ b) ∧ (∀ b o s, A' = some ⟨b, o, s⟩ → w.heap.size ≤ b) ∧ Below w.heap.size w w'
end Go.Proofs.YtkanddmihmdagaaGreatDoor.Wh

/- Layer 2, on: DivMod whole. -/
namespace Go.Proofs.YtkanddmihmdagaaGreatDoor.Wh
open Go.RowKit Go.Proofs.YtkanddmihmdagaaGreatDoor.Dig Go.Proofs.YtkanddmihmdagaaGreatDoor.W Go.Proofs.YtkanddmihmdagaaGreatDoor.Nat

theorem dm_plain (a b : Bool) (m k : Nat) (hk : k ≠ 0) (h : a = false ∨ m % k = 0) : sg (a != b) (m / k) = sg a m / sg b k ∧ sg false (m % k) = sg a m % sg b k := by
  have hk0 : (0 : Int) < (k : Int) := by omega
  have hm : (m % k : Nat) + k * (m / k) = m := Nat.mod_add_div m k
  have hlt : m % k < k := Nat.mod_lt _ (by omega)
  have key : ∀ z : Int, sg b k = (if b then -(k : Int) else k) := fun _ => by cases b <;> rfl
  have hu : ∀ (x q r : Int), r + k * q = x → 0 ≤ r → r < k → (x / (sg b k) = (if b then -q else q)) ∧ x % (sg b k) = r := fun x q r h1 h2 h3 => by
    obtain ⟨e1, e2⟩ := (Int.ediv_emod_unique hk0).2 ⟨h1, h2, h3⟩
    cases b
    · exact ⟨e1, e2⟩
    · show x / -(k : Int) = -q ∧ x % -(k : Int) = r
      rw [Int.ediv_neg, Int.emod_neg, e1, e2]
      exact ⟨rfl, rfl⟩
  have hc : ((m % k : Nat) : Int) + k * ((m / k : Nat) : Int) = m := by rw [← Int.natCast_mul, ← Int.natCast_add, hm]
  cases a
  · obtain ⟨e1, e2⟩ := hu (m : Int) ((m / k : Nat) : Int) ((m % k : Nat) : Int) hc (by omega) (by omega)
    refine ⟨?_, ?_⟩
    · show _ = (m : Int) / sg b k
      rw [e1]
      cases b <;> rfl
    · show _ = (m : Int) % sg b k
      rw [e2]
      rfl
  · have h0 : m % k = 0 := h.resolve_left (by decide)
    rw [h0] at hc ⊢
    obtain ⟨e1, e2⟩ := hu (-(m : Int)) (-((m / k : Nat) : Int)) 0 (by rw [Int.mul_neg]; omega) (by omega) hk0
    refine ⟨?_, ?_⟩
    · show _ = -(m : Int) / sg b k
      rw [e1]
      cases b
      · rfl
      · show ((m / k : Nat) : Int) = - -((m / k : Nat) : Int)
        omega
    · show _ = -(m : Int) % sg b k
      rw [e2]
      rfl
theorem dm_more (b : Bool) (m k : Nat) (hk : k ≠ 0) (h : m % k ≠ 0) : sg (true != b) (m / k + 1) = sg true m / sg b k ∧ sg false (k - m % k) = sg true m % sg b k := by
  have hk0 : (0 : Int) < (k : Int) := by omega
  have hm : (m % k : Nat) + k * (m / k) = m := Nat.mod_add_div m k
  have hlt : m % k < k := Nat.mod_lt _ (by omega)
  have hc : ((m % k : Nat) : Int) + k * ((m / k : Nat) : Int) = m := by rw [← Int.natCast_mul, ← Int.natCast_add, hm]
  obtain ⟨e1, e2⟩ := (Int.ediv_emod_unique (a := -(m : Int)) (q := -((m / k : Nat) : Int) - 1) (r := (k : Int) - (m % k : Nat)) hk0).2 ⟨by rw [Int.mul_sub, Int.mul_neg]; omega, by omega, by omega⟩
  cases b
  · refine ⟨?_, ?_⟩
    · show -(((m / k + 1 : Nat) : Int)) = -(m : Int) / (k : Int)
      rw [e1]; omega
    · show ((k - m % k : Nat) : Int) = -(m : Int) % (k : Int)
      rw [e2]; omega
  · refine ⟨?_, ?_⟩
    · show (((m / k + 1 : Nat) : Int)) = -(m : Int) / -(k : Int)
      rw [Int.ediv_neg, e1]; omega
    · show ((k - m % k : Nat) : Int) = -(m : Int) % -(k : Int)
      rw [Int.emod_neg, e2]; omega
theorem len_succ {a M : Nat} (h : (digs U a).length ≤ M) : (digs U (a + 1)).length ≤ M + 1 := by
  have h1 := (digs_length_le U_two _ _).1 h
  refine (digs_length_le U_two _ _).2 ?_
  have p3 : U ^ M * 2 ≤ U ^ (M + 1) := by rw [Nat.pow_succ]; exact Nat.mul_le_mul_left _ U_two
  generalize U ^ M = P at *
  omega
theorem of_lit1 (w : World) : Calls Tryz.prog 82 #[.int .u64 1] w (GivesOwn w 88 .u64 (digs U 1)) := of_calls 1 w (by decide)
theorem digs_bound {a b M : Nat} (h : a ≤ b) (hb : (digs U b).length ≤ M) : (digs U a).length ≤ M := Nat.le_trans (digs_length_mono U_two h) hb
theorem add_d (A A' : Option Addr) (n c n' c' m m' M : Nat) (w : World) (h : SI w .u64 A n c (digs U m)) (h' : SI w .u64 A' n' c' (digs U m')) (hM : M ≤ 1099511627776) (hn : (digs U m).length ≤ M) (hn' : (digs U m').length ≤ M) :
    Calls Tryz.prog 91 #[.slice A n c, .slice A' n' c'] w (GivesOwn w 88 .u64 (digs U (m + m'))) := by
  have e := add_calls A A' n c n' c' _ _ w h h' (dl m) (dl m') (by rw [← h.len]; omega) (by rw [← h'.len]; omega)
  rw [val_digs U_two, val_digs U_two] at e
  exact e
theorem sub_d (A A' : Option Addr) (n c n' c' m' M : Nat) (l : List Nat) (w : World) (h : SI w .u64 A n c l) (hl : Lt U l) (h' : SI w .u64 A' n' c' (digs U m')) (hM : M ≤ 1099511627776) (hn : n ≤ M) (hn' : (digs U m').length ≤ M) (hle : m' ≤ val U l) :
    Calls Tryz.prog 116 #[.slice A n c, .slice A' n' c'] w (GivesOwn2 w 88 .u64 (digs U (val U l - m'))) := by
  have e := sub_calls A A' n c n' c' _ _ w h h' hl (dl m') (by omega) (by rw [← h'.len]; omega) (by rw [val_digs U_two]; exact hle)
  rw [val_digs U_two] at e
  exact e
theorem make_m (ng : Bool) (A : Option Addr) (n c m M : Nat) (w : World) (h : SI w .u64 A n c (digs U m)) (hM : M ≤ 8796093022208) (hn : (digs U m).length ≤ M) : Calls Tryz.prog 76 #[.bool ng, .slice A n c] w (GivesW w (sg ng m)) :=
  make_d ng A n c m w h (by rw [← h.len]; omega)
end Go.Proofs.YtkanddmihmdagaaGreatDoor.Wh
