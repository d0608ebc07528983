/- Layer 19, on: the affixes. -/
import Derived.Test.YtoplpoofbefjcaaDoorSgD
namespace Go.Proofs.YtoplpoofbefjcaaDoor.Sg
open Go.RowKit Go.Proofs.YtoplpoofbefjcaaDoor.Dig Go.Proofs.YtoplpoofbefjcaaDoor.W

/-- a slice of tokens in a block of the call's own -/
def RT (w : World) (base : Nat) (v : Value) (l : List Tok) : Prop :=
  ∃ A c, v = .slice A l.length c ∧ ST w A l.length c l ∧ ∀ b o s, A = some ⟨b, o, s⟩ → base ≤ b ∧ o = 0 ∧ s = none ∧ b < w.heap.size
theorem RT.below {w w' : World} {base : Nat} {v : Value} {l : List Tok} (h : RT w base v l) (hb : Below w.heap.size w w') : RT w' base v l := by
  obtain ⟨A, c, rfl, hs, hA⟩ := h
  exact ⟨A, c, rfl, hs.below hb, fun b o s e => ⟨(hA b o s e).1, (hA b o s e).2.1, (hA b o s e).2.2.1, Nat.lt_of_lt_of_le (hA b o s e).2.2.2 hb.size⟩⟩
theorem RT.lower {w : World} {base base' : Nat} {v : Value} {l : List Tok} (h : RT w base v l) (hb : base' ≤ base) : RT w base' v l := by
  obtain ⟨A, c, rfl, hs, hA⟩ := h
  exact ⟨A, c, rfl, hs, fun b o s e => ⟨Nat.le_trans hb (hA b o s e).1, (hA b o s e).2⟩⟩
theorem OT.rt {w : World} {base : Nat} {v : Value} {l : List Tok} (h : OT w base v l) : RT w base v l := by
  have h0 := h
  obtain ⟨A, c, rfl, hs⟩ := h0.reads
  refine ⟨A, c, rfl, hs, fun b o s e => ?_⟩
  subst e
  rcases h.2 with ⟨h1, _⟩ | ⟨g, cap, cur, hv, hb, hh, _⟩
  · injection h1 with e1; cases e1
  · injection hv with e1 e2 e3
    injection e1 with e1
    injection e1 with e1 e2 e3
    subst e1
    exact ⟨hb, e2, e3, (Array.getElem?_eq_some_iff.1 hh).1⟩
theorem clip_own (v : Value) (base : Nat) (l : List Tok) (w : World) (h : OT w base v l) :
    Calls Tryd.prog 20 #[v] w fun e w' => (∃ v, e = .returned v ∧ RT w' base v l) ∧ w = w' := by
  obtain ⟨A, c, rfl, hs, hA⟩ := h.rt
  have hn : A = none → c = 0 := by
    rintro rfl
    rcases h.2 with ⟨h1, _⟩ | ⟨g, cap, cur, hv, _⟩
    · injection h1
    · injection hv with e1; cases e1
  refine (clip_calls A _ c w (Sl.le hs) (Sl.cap hs) hn).mono ?_
  rintro e w' ⟨rfl, rfl⟩
  exact ⟨⟨_, rfl, A, _, rfl, ⟨Sl.len hs, Nat.le_refl _, Nat.le_trans (Sl.le hs) (Sl.cap hs), hs.get⟩, hA⟩, rfl⟩

theorem ST.none_ {w : World} {A : Option Addr} {n c : Nat} {l : List Tok} (h : ST w A n c l) (hA : A = none) : n = 0 := by
  rcases Nat.eq_zero_or_pos n with h0 | h0
  · exact h0
  · obtain ⟨b, o, e, _⟩ := Sl.get h h0
    rw [hA] at e; cases e
/-- a half of a pattern -/
structure Rest where
  im : Int
  fm : Int
  fx : Int
  pr : Int
  se : Int
  em : Int
  ep : Bool
  pad : ByteArray
  pa : Int
  wd : Int
def subV (P S : Value) (r : Rest) : Value := .agg #[P, S, .int .i64 r.im, .int .i64 r.fm, .int .i64 r.fx, .int .i64 r.pr, .int .i64 r.se, .int .i64 r.em, .bool r.ep, .string r.pad, .int .i64 r.pa, .int .i64 r.wd]
def patV (P S : Value) (r : Rest) (hn : Bool) (P' S' : Value) (r' : Rest) : Value := .agg #[P, S, .int .i64 r.im, .int .i64 r.fm, .int .i64 r.fx, .int .i64 r.pr, .int .i64 r.se, .int .i64 r.em, .bool r.ep, .string r.pad, .int .i64 r.pa, .int .i64 r.wd, .bool hn, P', S', .int .i64 r'.im, .int .i64 r'.fm, .int .i64 r'.fx, .int .i64 r'.pr, .int .i64 r'.se, .int .i64 r'.em, .bool r'.ep, .string r'.pad, .int .i64 r'.pa, .int .i64 r'.wd]
def patC (P S : Value) (r : Rest) (hn : Bool) (P' S' : Value) (r' : Rest) : Obj := .cells #[P, S, .int .i64 r.im, .int .i64 r.fm, .int .i64 r.fx, .int .i64 r.pr, .int .i64 r.se, .int .i64 r.em, .bool r.ep, .string r.pad, .int .i64 r.pa, .int .i64 r.wd, .bool hn, P', S', .int .i64 r'.im, .int .i64 r'.fm, .int .i64 r'.fx, .int .i64 r'.pr, .int .i64 r'.se, .int .i64 r'.em, .bool r'.ep, .string r'.pad, .int .i64 r'.pa, .int .i64 r'.wd] 26
/-- the pattern lies at g -/
structure Pt (w0 w : World) (g : Nat) (P S : Value) (hn : Bool) (P' S' : Value) : Prop where
  c0 : w.cell? ⟨g, 0, none⟩ = some P
  c1 : w.cell? ⟨g, 1, none⟩ = some S
  c12 : w.cell? ⟨g, 12, none⟩ = some (.bool hn)
  c13 : w.cell? ⟨g, 13, none⟩ = some P'
  c14 : w.cell? ⟨g, 14, none⟩ = some S'
  sz : g < w.heap.size
  bl : Below g w0 w
theorem Pt.start (w : World) (P S : Value) (r : Rest) (hn : Bool) (P' S' : Value) (r' : Rest) : Pt w (w.alloc (patC P S r hn P' S' r')) w.heap.size P S hn P' S' :=
  ⟨World.cell?_alloc_new w _ _ 0, World.cell?_alloc_new w _ _ 1, World.cell?_alloc_new w _ _ 12, World.cell?_alloc_new w _ _ 13, World.cell?_alloc_new w _ _ 14, by simp, (Below.refl _ _).alloc (Nat.le_refl _) _⟩
theorem Pt.more {w0 w w' : World} {g : Nat} {P S : Value} {hn : Bool} {P' S' : Value} (h : Pt w0 w g P S hn P' S') (hb : Below w.heap.size w w') : Pt w0 w' g P S hn P' S' :=
  ⟨(hb.cell h.sz).trans h.c0, (hb.cell h.sz).trans h.c1, (hb.cell h.sz).trans h.c12, (hb.cell h.sz).trans h.c13, (hb.cell h.sz).trans h.c14, Nat.lt_of_lt_of_le h.sz hb.size, h.bl.trans (hb.mono (Nat.le_of_lt h.sz))⟩
set_option maxHeartbeats 1600000 in
set_option maxRecDepth 100000 in
theorem affixes_zero (A A' B B' : Option Addr) (n c n' c' m e m' e' : Nat) (l l' k k' : List Tok) (r r' : Rest) (hn : Bool) (w : World) (h : ST w A n c l) (h' : ST w A' n' c' l') (hB : ST w B m e k) (hB' : ST w B' m' e' k')
    (hl : (1 + n) * 32 ≤ 140737488355328) (hl' : (1 + n') * 32 ≤ 140737488355328) :
    Calls Tryd.prog 8 #[patV (.slice A n c) (.slice A' n' c') r hn (.slice B m e) (.slice B' m' e') r', .int .i64 0] w fun x w' => (∃ v v', x = .returned (.tuple #[v, v', .int .i64 0]) ∧ RT w' w.heap.size v l ∧ RT w' w.heap.size v' l') ∧ Below w.heap.size w w' := by
  have HP := Pt.start w (.slice A n c) (.slice A' n' c') r hn (.slice B m e) (.slice B' m' e') r'
  have H1 := has_calls B m e k 1 _ (hB.below HP.bl)
  have H2 := fun w3 (hx : Below (w.alloc (patC (.slice A n c) (.slice A' n' c') r hn (.slice B m e) (.slice B' m' e') r')).heap.size (w.alloc (patC (.slice A n c) (.slice A' n' c') r hn (.slice B m e) (.slice B' m' e') r')) w3) => has_calls B' m' e' k' 1 w3 (hB'.below (HP.more hx).bl)
  have HM := fun w3 (hx : Below (w.alloc (patC (.slice A n c) (.slice A' n' c') r hn (.slice B m e) (.slice B' m' e') r')).heap.size (w.alloc (patC (.slice A n c) (.slice A' n' c') r hn (.slice B m e) (.slice B' m' e') r')) w3) => HP.more hx
  unfold patC at H2 HM
  have G2 := Lib.hid H2
  have GM := Lib.hid HM
  generalize (k.any fun t => t.kind == 1) = b1 at *
  generalize (k'.any fun t => t.kind == 1) = b2 at *
  clear H2 HM HP
  unfold patV
  unfold patC at H1
  have HA := Lib.hid h
  have HA' := Lib.hid h'
  clear h h' hB hB'
  cases b1
  all_goals
    go_enter Tryd.func8, Tryd.ntmps8
    go_wp2_with (first
      | (go_at_call 19; first
          | ((with_reducible refine H1.mono ?_); rintro x w3 ⟨rfl, hx⟩; have hm := GM.out _ hx; have q13 := hm.c13; have q14 := hm.c14)
          | ((with_reducible refine (G2.out _ hx).mono ?_); rintro x w4 ⟨rfl, hx4⟩; have hm4 := hm.more hx4)))
  all_goals
    first
      | (obtain ⟨w5, h5, hm5⟩ : ∃ w5, w5 = w4 ∧ Pt w w5 w.heap.size (.slice A n c) (.slice A' n' c') hn (.slice B m e) (.slice B' m' e') := ⟨_, rfl, hm4⟩
         subst h5
         clear hm4 hm hx hx4 q13 q14)
      | (obtain ⟨w5, h5, hm5⟩ : ∃ w5, w5 = w3 ∧ Pt w w5 w.heap.size (.slice A n c) (.slice A' n' c') hn (.slice B m e) (.slice B' m' e') := ⟨_, rfl, hm⟩
         subst h5
         clear hm hx q13 q14)
    clear GM G2 H1
    have m5 := hm5.more (Below.refl w5.heap.size w5).drew
    have kp : w5.drew.cell? ⟨w.heap.size, 0, none⟩ = some (.slice A n c) ∧ w5.drew.cell? ⟨w.heap.size, 1, none⟩ = some (.slice A' n' c') := ⟨m5.c0, m5.c1⟩
    have C1 := clone_calls A n c l w5.drew (HA.out.below m5.bl) (by omega) (ST.none_ HA.out)
    have C2 := fun w6 (hb : Below w5.drew.heap.size w5.drew w6) => clone_calls A' n' c' l' w6 (HA'.out.below (m5.more hb).bl) (by omega) (ST.none_ HA'.out)
    have D2 := Lib.hid C2
    clear C2
    go_region_held3 (fun w' => w'.cell? ⟨w.heap.size, 0, none⟩ = some (.slice A n c) ∧ w'.cell? ⟨w.heap.size, 1, none⟩ = some (.slice A' n' c'))
      (first
        | exact kp
        | exact ⟨m6.c0, m6.c1⟩
        | exact ⟨m8.c0, m8.c1⟩)
      (first
        | (go_at_call 21; first
            | ((with_reducible refine C1.mono ?_); rintro x w6 ⟨⟨v6, rfl, o6⟩, y6⟩; have m6 := m5.more y6)
            | ((with_reducible refine (D2.out _ y6).mono ?_); rintro x w8 ⟨⟨v8, rfl, o8⟩, y8⟩; have m8 := m6.more y8))
        | (go_at_call 20; first
            | ((with_reducible refine (clip_own v6 _ l w6 o6).mono ?_); rintro x w7 ⟨⟨v7, rfl, r7⟩, rfl⟩)
            | ((with_reducible refine (clip_own v8 _ l' w8 o8).mono ?_); rintro x w9 ⟨⟨v9, rfl, r9⟩, rfl⟩)))
    go_wp2
    go_ret3
    have hz : w.heap.size ≤ w5.drew.heap.size := Nat.le_of_lt m5.sz
    have hz6 : w.heap.size ≤ w6.heap.size := Nat.le_of_lt m6.sz
    exact ⟨⟨_, _, rfl, (r7.below y8).lower hz, r9.lower hz6⟩, m8.bl⟩
set_option maxHeartbeats 1600000 in
set_option maxRecDepth 100000 in
theorem affixes_ahead (d kk : Int) (A A' B B' : Option Addr) (n c n' c' m e m' e' : Nat) (l l' k k' : List Tok) (r r' : Rest) (w : World) (h : ST w A n c l) (h' : ST w A' n' c' l') (hB : ST w B m e k) (hB' : ST w B' m' e' k')
    (hl : (1 + n) * 32 ≤ 140737488355328) (hl' : (1 + n') * 32 ≤ 140737488355328) (hd : d = -1 ∧ kk = 1 ∨ d = 1 ∧ kk = 2) :
    Calls Tryd.prog 8 #[patV (.slice A n c) (.slice A' n' c') r false (.slice B m e) (.slice B' m' e') r', .int .i64 d] w fun x w' => (∃ v v', x = .returned (.tuple #[v, v', .int .i64 0]) ∧ RT w' w.heap.size v (tok kk :: l) ∧ RT w' w.heap.size v' l') ∧ Below w.heap.size w w' := by
  have HP := Pt.start w (.slice A n c) (.slice A' n' c') r false (.slice B m e) (.slice B' m' e') r'
  have H1 := has_calls B m e k 1 _ (hB.below HP.bl)
  have H2 := fun w3 (hx : Below (w.alloc (patC (.slice A n c) (.slice A' n' c') r false (.slice B m e) (.slice B' m' e') r')).heap.size (w.alloc (patC (.slice A n c) (.slice A' n' c') r false (.slice B m e) (.slice B' m' e') r')) w3) => has_calls B' m' e' k' 1 w3 (hB'.below (HP.more hx).bl)
  have HM := fun w3 (hx : Below (w.alloc (patC (.slice A n c) (.slice A' n' c') r false (.slice B m e) (.slice B' m' e') r')).heap.size (w.alloc (patC (.slice A n c) (.slice A' n' c') r false (.slice B m e) (.slice B' m' e') r')) w3) => HP.more hx
  unfold patC at H2 HM
  have G2 := Lib.hid H2
  have GM := Lib.hid HM
  generalize (k.any fun t => t.kind == 1) = b1 at *
  generalize (k'.any fun t => t.kind == 1) = b2 at *
  clear H2 HM HP
  unfold patV
  unfold patC at H1
  have HA := Lib.hid h
  have HA' := Lib.hid h'
  clear h h' hB hB'
  rcases hd with ⟨rfl, rfl⟩ | ⟨rfl, rfl⟩ <;> cases b1
  all_goals
    go_enter Tryd.func8, Tryd.ntmps8
    go_wp2_with (first
      | (go_at_call 19; first
          | ((with_reducible refine H1.mono ?_); rintro x w3 ⟨rfl, hx⟩; have hm := GM.out _ hx; have q12 := hm.c12; have q13 := hm.c13; have q14 := hm.c14)
          | ((with_reducible refine (G2.out _ hx).mono ?_); rintro x w4 ⟨rfl, hx4⟩; have hm4 := hm.more hx4; have p12 := hm4.c12)))
  all_goals
    first
      | (obtain ⟨w5, h5, hm5⟩ : ∃ w5, w5 = w4 ∧ Pt w w5 w.heap.size (.slice A n c) (.slice A' n' c') false (.slice B m e) (.slice B' m' e') := ⟨_, rfl, hm4⟩
         subst h5
         clear hm4 hm hx hx4 q13 q14 q12 p12)
      | (obtain ⟨w5, h5, hm5⟩ : ∃ w5, w5 = w3 ∧ Pt w w5 w.heap.size (.slice A n c) (.slice A' n' c') false (.slice B m e) (.slice B' m' e') := ⟨_, rfl, hm⟩
         subst h5
         clear hm hx q13 q14 q12)
    clear GM G2 H1
    have m5 := hm5.more (Below.refl w5.heap.size w5).drew
    have kp : w5.drew.cell? ⟨w.heap.size, 0, none⟩ = some (.slice A n c) ∧ w5.drew.cell? ⟨w.heap.size, 1, none⟩ = some (.slice A' n' c') := ⟨m5.c0, m5.c1⟩
    have C1 := fun kk => ahead_calls kk n c A l w5.drew (HA.out.below m5.bl) hl
    have C2 := fun w6 (hb : Below w5.drew.heap.size w5.drew w6) => clone_calls A' n' c' l' w6 (HA'.out.below (m5.more hb).bl) (by omega) (ST.none_ HA'.out)
    have D2 := Lib.hid C2
    clear C2
    go_region_held3 (fun w' => w'.cell? ⟨w.heap.size, 0, none⟩ = some (.slice A n c) ∧ w'.cell? ⟨w.heap.size, 1, none⟩ = some (.slice A' n' c'))
      (first
        | exact kp
        | exact ⟨m6.c0, m6.c1⟩
        | exact ⟨m8.c0, m8.c1⟩)
      (first
        | (go_at_call 22; (refine (C1 _).mono ?_); rintro x w6 ⟨⟨v6, rfl, o6⟩, y6⟩; have m6 := m5.more y6)
        | (go_at_call 21; (with_reducible refine (D2.out _ y6).mono ?_); rintro x w8 ⟨⟨v8, rfl, o8⟩, y8⟩; have m8 := m6.more y8)
        | (go_at_call 20; (with_reducible refine (clip_own v8 _ l' w8 o8).mono ?_); rintro x w9 ⟨⟨v9, rfl, r9⟩, rfl⟩))
    go_wp2
    go_ret3
    have hz : w.heap.size ≤ w5.drew.heap.size := Nat.le_of_lt m5.sz
    have hz6 : w.heap.size ≤ w6.heap.size := Nat.le_of_lt m6.sz
    exact ⟨⟨_, _, rfl, (o6.rt.below y8).lower hz, r9.lower hz6⟩, m8.bl⟩
end Go.Proofs.YtoplpoofbefjcaaDoor.Sg
