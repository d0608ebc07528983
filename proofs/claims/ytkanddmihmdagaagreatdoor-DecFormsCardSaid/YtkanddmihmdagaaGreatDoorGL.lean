/- Texts of one layer, joined: Ep, Em, Eq, Er, En. -/
import Derived.Test.YtkanddmihmdagaaGreatDoorGK
import Derived.WalkLawsBesides
set_option linter.unusedVariables false
set_option linter.unusedSimpArgs false
set_option linter.unusedSectionVars false
/- Layer 5: how two stand: cmp.Compare, cmp.Or; dec.key, amounts. -/
set_option linter.unusedSimpArgs false
set_option linter.unusedVariables false
namespace Go.Proofs.YtkanddmihmdagaaGreatDoor.Dc
open Go.RowKit Go.Proofs.YtkanddmihmdagaaGreatDoor.Dig Go.Proofs.YtkanddmihmdagaaGreatDoor.W Go.Proofs.YtkanddmihmdagaaGreatDoor.Nat Go.Proofs.YtkanddmihmdagaaGreatDoor.Wh Go.Proofs.YtkanddmihmdagaaGreatDoor.Td Go.Proofs.YtkanddmihmdagaaGreatDoor.Bu Go.Proofs.YtkanddmihmdagaaGreatDoor.Tx Go.Proofs.YtkanddmihmdagaaGreatDoor.Sp Go.Proofs.YtkanddmihmdagaaGreatDoor.Rd

theorem isnan_str (s : ByteArray) (w : World) : Calls Tryz.prog 110 #[.string s] w fun e w' => e = .returned (.bool false) ∧ w = w' := by
  go_enter Tryz.func110, Tryz.ntmps110
  go_wp2
  go_ret
  exact ⟨rfl, rfl⟩
/-- how two texts stand -/
def cmpS (s t : List UInt8) : Int := if Go.Op.bytesLess s t then -1 else if s == t then 0 else 1
theorem comp_str (s t : List UInt8) (w : World) :
    Calls Tryz.prog 71 #[.string ⟨s.toArray⟩, .string ⟨t.toArray⟩] w fun e w' => e = .returned (.int .i64 (cmpS s t)) ∧ w' = w := by
  unfold cmpS
  cases h1 : Go.Op.bytesLess s t <;> cases h2 : s == t
  all_goals
    go_enter Tryz.func71, Tryz.ntmps71
    go_wp2_with (go_at_call 110; (with_reducible refine (isnan_str _ _).mono ?_); rintro e w1 ⟨rfl, rfl⟩)
    go_ret
    exact ⟨rfl, rfl⟩
theorem comp_int (x y : Int) (w : World) : Calls Tryz.prog 40 #[.int .i64 x, .int .i64 y] w fun e w' => e = .returned (.int .i64 (Lib.compareInt x y)) ∧ w' = w := Tryz.cmp_Compare_int x y w
/-- the first that is not nought -/
theorem or_calls (b : Nat) (c1 c2 r : Int) (hr : (c1 ≠ 0 ∧ r = c1) ∨ (c1 = 0 ∧ r = c2)) (w : World) (h1 : w.cell? ⟨b, 0, none⟩ = some (.int .i64 c1)) (h2 : w.cell? ⟨b, 1, none⟩ = some (.int .i64 c2)) :
    Calls Tryz.prog 70 #[.slice (some ⟨b, 0, none⟩) 2 2] w fun e w' => e = .returned (.int .i64 r) ∧ w' = w := by
  rcases hr with ⟨k, rfl⟩ | ⟨rfl, rfl⟩
  · have kb := eqB k
    go_enter Tryz.func70, Tryz.ntmps70
    go_wp2
    go_loop [5, 8] (fun v z => z = .int .i64 0) (fun _ z => 2 - (intOf z).toNat)
    case atStart => exact rfl
    case round =>
      subst hrel
      go_wp2
      go_ret
      exact ⟨rfl, rfl⟩
  · go_enter Tryz.func70, Tryz.ntmps70
    go_wp2
    go_loop [5, 8] (fun v z => z = .int .i64 0 ∨ z = .int .i64 1 ∨ (z = .int .i64 2 ∧ Hid (r = 0))) (fun _ z => 2 - (intOf z).toNat)
    case atStart => exact .inl rfl
    case round =>
      rcases hrel with rfl | rfl | ⟨rfl, hr⟩
      · go_wp2
        go_round
        case rel => exact .inr (.inl rfl)
        case measure => decide
      · by_cases k : r = 0
        · have K := Lib.hid k
          have kb : (r == 0) = true := beq_iff_eq.2 k
          go_wp2
          go_round
          case rel => exact .inr (.inr ⟨rfl, K⟩)
          case measure => decide
        · have kb := eqB k
          go_wp2
          go_ret
          exact ⟨rfl, rfl⟩
      · go_wp2
        go_ret
        exact ⟨by rw [hr.out]; rfl, rfl⟩
/-- of a class in the order -/
def keyV (c : Int) (g : Bool) : Int := if c = 2 then 2 else if c = 0 then 0 else if g then -1 else 1
theorem key_calls (c : Int) (g : Bool) (S : ByteArray) (x : Int) (w : World) :
    Calls Tryz.prog 41 #[.agg #[.int .i64 c, .bool g, .string S, .int .i64 x]] w fun e w' => e = .returned (.int .i64 (keyV c g)) ∧ Below w.heap.size w w' := by
  have HB := Lib.hid (alloc_below w (.cells #[.int .i64 c, .bool g, .string S, .int .i64 x] 23))
  unfold keyV
  by_cases h1 : c = 2
  · subst h1
    rw [if_pos rfl]
    go_enter Tryz.func41, Tryz.ntmps41
    go_wp2
    go_ret
    exact ⟨rfl, HB.out⟩
  · rw [if_neg h1]
    have e1 := eqB h1
    by_cases h2 : c = 0
    · subst h2
      rw [if_pos rfl]
      go_enter Tryz.func41, Tryz.ntmps41
      go_wp2
      go_ret
      exact ⟨rfl, HB.out⟩
    · rw [if_neg h2]
      have e2 := eqB h2
      cases g
      · go_enter Tryz.func41, Tryz.ntmps41
        go_wp2
        go_ret
        exact ⟨rfl, HB.out⟩
      · go_enter Tryz.func41, Tryz.ntmps41
        go_wp2
        go_ret
        exact ⟨rfl, HB.out⟩
/-- two boxes of a Dec each -/
structure T8 (w W : World) (cs ds : Array Value) : Prop where
  a : Bk W w.heap.size 23 cs
  b : Bk W (w.heap.size + 1) 23 ds
  bl : Below w.heap.size w W
section
variable {w W W' : World} {cs ds : Array Value} {a0 a1 a2 a3 b0 b1 b2 b3 : Value}
theorem T8.start (w : World) (cs ds : Array Value) : T8 w ((w.alloc (.cells cs 23)).alloc (.cells ds 23)) cs ds := by
  obtain ⟨h1, h2, h3⟩ := bk_two w cs ds 23 23
  exact ⟨h1, h2, h3⟩
theorem T8.below (h : T8 w W cs ds) (hb : Below W.heap.size W W') : T8 w W' cs ds := ⟨h.a.below hb, h.b.below hb, on h.bl hb⟩
theorem T8.drew (h : T8 w W cs ds) : T8 w W.drew cs ds := ⟨h.a.drew, h.b.drew, h.bl.drew⟩
theorem T8.alloc (h : T8 w W cs ds) (o : Obj) : T8 w (W.alloc o) cs ds := h.below (alloc_below _ _)
theorem T8.keep (h : T8 w W #[a0, a1, a2, a3] #[b0, b1, b2, b3]) : W.cell? ⟨w.heap.size, 0, none⟩ = some a0 ∧ W.cell? ⟨w.heap.size, 1, none⟩ = some a1 ∧ W.cell? ⟨w.heap.size, 2, none⟩ = some a2 ∧ W.cell? ⟨w.heap.size, 3, none⟩ = some a3 ∧
  W.cell? ⟨w.heap.size + 1, 0, none⟩ = some b0 ∧ W.cell? ⟨w.heap.size + 1, 1, none⟩ = some b1 ∧ W.cell? ⟨w.heap.size + 1, 2, none⟩ = some b2 ∧ W.cell? ⟨w.heap.size + 1, 3, none⟩ = some b3 := ⟨h.a.at_ 0 rfl, h.a.at_ 1 rfl, h.a.at_ 2 rfl, h.a.at_ 3 rfl, h.b.at_ 0 rfl, h.b.at_ 1 rfl, h.b.at_ 2 rfl, h.b.at_ 3 rfl⟩
end
set_option maxHeartbeats 16000000 in
set_option maxRecDepth 100000 in
theorem amounts_some (c c' : Int) (g g' : Bool) (l m : List UInt8) (x y px py r : Int) (hr : (Lib.compareInt px py ≠ 0 ∧ r = Lib.compareInt px py) ∨ (Lib.compareInt px py = 0 ∧ r = cmpS l m)) (w : World) (hl : 0 < l.length) (hm : 0 < m.length)
    (H1 : ∀ w1, Calls Tryz.prog 16 #[.agg (dec c g l x)] w1 fun e w' => e = .returned (.int .i64 px) ∧ Below w1.heap.size w1 w')
    (H2 : ∀ w1, Calls Tryz.prog 16 #[.agg (dec c' g' m y)] w1 fun e w' => e = .returned (.int .i64 py) ∧ Below w1.heap.size w1 w') :
    Calls Tryz.prog 42 #[.agg (dec c g l x), .agg (dec c' g' m y)] w fun e w' => e = .returned (.int .i64 r) ∧ Below w.heap.size w w' := by
  have T := T8.start w #[.int .i64 c, .bool g, .string ⟨l.toArray⟩, .int .i64 x] #[.int .i64 c', .bool g', .string ⟨m.toArray⟩, .int .i64 y]
  have HS := Lib.hid (fun w1 => comp_str l m w1)
  rw [← size_of l] at hl
  rw [← size_of m] at hm
  obtain ⟨e1, e2⟩ := emp hl
  obtain ⟨i1, i2⟩ := emp hm
  have HI := Lib.hid (fun w1 => comp_int px py w1)
  unfold dec str at *
  have G1 := Lib.hid H1
  have G2 := Lib.hid H2
  generalize cmpS l m = c2 at *
  generalize Lib.compareInt px py = c1 at *
  generalize (⟨l.toArray⟩ : ByteArray) = S at *
  generalize (⟨m.toArray⟩ : ByteArray) = S' at *
  obtain ⟨V, hV⟩ : ∃ V, V = ((w.alloc (.cells #[.int .i64 c, .bool g, .string S, .int .i64 x] 23)).alloc (.cells #[.int .i64 c', .bool g', .string S', .int .i64 y] 23)) := ⟨_, rfl⟩
  rw [← hV] at T
  have HV := Lib.hid hV
  have z0 := T.drew
  have HR := Lib.hid hr
  clear H1 H2 hV hl hm T hr
  go_enter Tryz.func42, Tryz.ntmps42
  go_wp2
  rw [← HV.out]
  go_region_held3 (fun w' => w'.cell? ⟨w.heap.size, 0, none⟩ = some (.int .i64 c) ∧ w'.cell? ⟨w.heap.size, 1, none⟩ = some (.bool g) ∧ w'.cell? ⟨w.heap.size, 2, none⟩ = some (.string S) ∧ w'.cell? ⟨w.heap.size, 3, none⟩ = some (.int .i64 x) ∧ w'.cell? ⟨w.heap.size + 1, 0, none⟩ = some (.int .i64 c') ∧ w'.cell? ⟨w.heap.size + 1, 1, none⟩ = some (.bool g') ∧ w'.cell? ⟨w.heap.size + 1, 2, none⟩ = some (.string S') ∧ w'.cell? ⟨w.heap.size + 1, 3, none⟩ = some (.int .i64 y))
    (first
      | (with_reducible exact z0.keep)
      | (with_reducible exact z12.keep)
      | (with_reducible exact z1.keep)
      | (with_reducible exact z2.keep)
      | (with_reducible exact zb.keep))
    (first
      | (go_at_call 16; first
        | ((with_reducible refine (G1.out V.drew).mono ?_); rintro e w1 ⟨rfl, b1⟩; have z1 := z0.below b1)
        | ((with_reducible refine (G2.out V.drew).mono ?_); rintro e w2 ⟨rfl, b2⟩; have z2 := z0.below b2)
        | ((with_reducible refine (G1.out w2).mono ?_); rintro e w1 ⟨rfl, b1⟩; have z12 := z2.below b1; have zb := z12.alloc (.cells #[.int .i64 c1, .int .i64 c2] 3); have sb := Bk.start w1 3 #[.int .i64 c1, .int .i64 c2]; have s0 := sb.at_ 0 rfl; have s1 := sb.at_ 1 rfl)
        | ((with_reducible refine (G2.out w1).mono ?_); rintro e w2 ⟨rfl, b2⟩; have z12 := z1.below b2; have zb := z12.alloc (.cells #[.int .i64 c1, .int .i64 c2] 3); have sb := Bk.start w2 3 #[.int .i64 c1, .int .i64 c2]; have s0 := sb.at_ 0 rfl; have s1 := sb.at_ 1 rfl))
      | (go_at_call 40; (with_reducible refine (HI.out _).mono ?_); rintro e w3 ⟨rfl, rfl⟩)
      | (go_at_call 71; (with_reducible refine (HS.out _).mono ?_); rintro e w3 ⟨rfl, rfl⟩)
      | (go_at_call 70; (with_reducible refine (or_calls _ c1 c2 r HR.out _ s0 s1).mono ?_); rintro e w3 ⟨rfl, rfl⟩))
  all_goals
    go_wp2
    go_ret
    exact ⟨rfl, zb.bl⟩
end Go.Proofs.YtkanddmihmdagaaGreatDoor.Dc

/- Layer 6's laws: where nothing is refused. -/
set_option linter.unusedSimpArgs false
set_option linter.unusedVariables false
namespace Go.Proofs.YtkanddmihmdagaaGreatDoor.Dc
open Go.RowKit Go.Proofs.YtkanddmihmdagaaGreatDoor.Dig Go.Proofs.YtkanddmihmdagaaGreatDoor.W Go.Proofs.YtkanddmihmdagaaGreatDoor.Nat Go.Proofs.YtkanddmihmdagaaGreatDoor.Wh Go.Proofs.YtkanddmihmdagaaGreatDoor.Td Go.Proofs.YtkanddmihmdagaaGreatDoor.Bu Go.Proofs.YtkanddmihmdagaaGreatDoor.Tx Go.Proofs.YtkanddmihmdagaaGreatDoor.Sp Go.Proofs.YtkanddmihmdagaaGreatDoor.Rd

theorem ask_ok {m : Bool} {mode : Int} (h : m = true) (h0 : 0 ≤ mode) (h1 : mode < 8) : askE m mode = 0 := by unfold askE; rw [h, if_neg (by decide), if_neg (by omega)]
theorem atV_ok {c : Int} {g : Bool} {l : List UInt8} {x place mode : Int} (hm : mayB c g l x = true) (h0 : 0 ≤ mode) (h1 : mode < 8) (hp : -4000 ≤ place ∧ place ≤ 4000) : atV c g l x place mode = fin mode c g l x place := by
  unfold atV; rw [ask_ok hm h0 h1, if_neg (by decide), if_neg (by omega)]
theorem dgV_ok {c : Int} {g : Bool} {l : List UInt8} {x n mode : Int} (hm : mayB c g l x = true) (h0 : 0 ≤ mode) (h1 : mode < 8) (hn : 1 ≤ n) (hn2 : n ≤ 1000) : dgV c g l x n mode = fin mode c g l x ((l.length : Int) + x - n) := by
  unfold dgV; rw [ask_ok hm h0 h1, if_neg (by decide), if_neg (by omega)]
theorem stV_ok {c : Int} {g : Bool} {l : List UInt8} {x place mode : Int} (hm : mayB c g l x = true) (h0 : 0 ≤ mode) (h1 : mode < 8) (hp : -1990 ≤ place ∧ place ≤ 1990) : stV c g l x 0 false [49] place mode = fin mode c g l x place := by
  have hF := formed_1
  have hms : mayB 0 false [49] place = true := by
    rw [may_form hF, decide_eq_true]
    refine ⟨by decide, ?_, ?_⟩
    · show -2000 ≤ (1 : Int) + place; omega
    · show (1 : Int) + place ≤ 2000; omega
  unfold stV fin
  rw [hms, if_neg (by decide), ask_ok hm h0 h1, if_neg (by decide), if_neg (by decide)]
  have e1 : nv 0 [49] = 1 := by decide
  rw [e1, Nat.mul_one]
  rfl
theorem fin_nil (mode c : Int) (g : Bool) (x place : Int) : fin mode c g [] x place = (dec c g [] x, 0) := by unfold fin; rw [if_pos rfl]
theorem fin_some {mode c : Int} {g : Bool} {l : List UInt8} {x place : Int} (h : l ≠ []) : fin mode c g l x place = (oc g (pw mode.toNat g l x place), oe (pw mode.toNat g l x place)) := by unfold fin; rw [if_neg h]
end Go.Proofs.YtkanddmihmdagaaGreatDoor.Dc

/- Layer 5: dec.Cmp. -/
set_option linter.unusedSimpArgs false
set_option linter.unusedVariables false
namespace Go.Proofs.YtkanddmihmdagaaGreatDoor.Dc
open Go.RowKit Go.Proofs.YtkanddmihmdagaaGreatDoor.Dig Go.Proofs.YtkanddmihmdagaaGreatDoor.W Go.Proofs.YtkanddmihmdagaaGreatDoor.Nat Go.Proofs.YtkanddmihmdagaaGreatDoor.Wh Go.Proofs.YtkanddmihmdagaaGreatDoor.Td Go.Proofs.YtkanddmihmdagaaGreatDoor.Bu Go.Proofs.YtkanddmihmdagaaGreatDoor.Tx Go.Proofs.YtkanddmihmdagaaGreatDoor.Sp Go.Proofs.YtkanddmihmdagaaGreatDoor.Rd

set_option maxHeartbeats 8000000 in
set_option maxRecDepth 100000 in
theorem amounts_none (c c' : Int) (g g' : Bool) (S S' : ByteArray) (x y : Int) (w : World) (hS : S.size ≤ 1000) (hS' : S'.size ≤ 1000) (h : S.size = 0 ∨ S'.size = 0) :
    Calls Tryz.prog 42 #[.agg #[.int .i64 c, .bool g, .string S, .int .i64 x], .agg #[.int .i64 c', .bool g', .string S', .int .i64 y]] w fun e w' => e = .returned (.int .i64 (Lib.compareInt S.size S'.size)) ∧ Below w.heap.size w w' := by
  have T := T8.start w #[.int .i64 c, .bool g, .string S, .int .i64 x] #[.int .i64 c', .bool g', .string S', .int .i64 y]
  have HI := Lib.hid (fun w1 => comp_int S.size S'.size w1)
  have HB := Lib.hid T.bl
  clear T
  obtain ⟨r, hr⟩ : ∃ r, Lib.compareInt S.size S'.size = r := ⟨_, rfl⟩
  rw [hr] at HI ⊢
  clear hr
  by_cases h1 : S.size = 0
  · have e1 := empty_of h1
    have e2 : (S.toList == []) = true := by
      have := nil_of h1
      rw [Lib.toList_data, this]; rfl
    clear h
    clear h1
    go_enter Tryz.func42, Tryz.ntmps42
    go_wp2_with (go_at_call 40; (with_reducible refine (HI.out _).mono ?_); rintro e w3 ⟨rfl, rfl⟩)
    go_ret
    exact ⟨rfl, HB.out⟩
  · have h2 : S'.size = 0 := h.resolve_left h1
    have e1 := emp (Nat.pos_of_ne_zero h1)
    obtain ⟨e1, e2⟩ := e1
    have i1 := empty_of h2
    have i2 : (S'.toList == []) = true := by
      have := nil_of h2
      rw [Lib.toList_data, this]; rfl
    clear h h1
    clear h2
    go_enter Tryz.func42, Tryz.ntmps42
    go_wp2_with (go_at_call 40; (with_reducible refine (HI.out _).mono ?_); rintro e w3 ⟨rfl, rfl⟩)
    go_ret
    exact ⟨rfl, HB.out⟩
/-- an amount, counted in 10^e -/
def amt (l : List UInt8) (x e : Int) : Nat := nv 0 l * 10 ^ (x - e).toNat
/-- digits that may be: none, or formed ones in their bounds -/
def Ok (l : List UInt8) (x e : Int) : Prop := l = [] ∨ (Formed l ∧ fits l x ∧ e ≤ x)
theorem Ok.len {l : List UInt8} {x e : Int} (h : Ok l x e) : l.length ≤ 1000 := by
  rcases h with rfl | ⟨_, hf, _⟩
  · decide
  · exact hf.1
theorem amt_nil (x e : Int) : amt [] x e = 0 := by unfold amt; rw [nv_nil, Nat.zero_mul]
theorem amt_pos {l : List UInt8} {x e : Int} (h : Formed l) : 0 < amt l x e := Nat.mul_pos h.pos (Nat.pow_pos (by omega))
theorem amounts_calls (g g' : Bool) (l m : List UInt8) (x y e : Int) (w : World) (hl : Ok l x e) (hm : Ok m y e) :
    Calls Tryz.prog 42 #[.agg (dec 0 g l x), .agg (dec 0 g' m y)] w fun z w' => z = .returned (.int .i64 (stand (amt l x e) (amt m y e))) ∧ Below w.heap.size w w' := by
  by_cases h : l = [] ∨ m = []
  · have e1 := amounts_none 0 0 g g' ⟨l.toArray⟩ ⟨m.toArray⟩ x y w (by rw [size_of]; exact hl.len) (by rw [size_of]; exact hm.len) (by
      rcases h with h | h
      · left; rw [size_of, h]; rfl
      · right; rw [size_of, h]; rfl)
    rw [size_of, size_of] at e1
    have e2 : Lib.compareInt l.length m.length = stand (amt l x e) (amt m y e) := by
      unfold Lib.compareInt stand
      rcases hl with rfl | ⟨hF, hf, hx⟩
      · rw [amt_nil]
        rcases hm with rfl | ⟨hF', hf', hy⟩
        · rw [amt_nil]; rfl
        · have k1 := hF'.len
          have k2 := amt_pos (x := y) (e := e) hF'
          rw [if_pos (show ((([] : List UInt8).length : Nat) : Int) < (m.length : Int) by simp; omega), if_pos k2]
      · rcases h with h | rfl
        · exact absurd h hF.ne
        · rw [amt_nil]
          have k1 := hF.len
          have k2 := amt_pos (x := x) (e := e) hF
          rw [if_neg (show ¬ (l.length : Int) < ((([] : List UInt8).length : Nat) : Int) by simp), if_pos (show (l.length : Int) > ((([] : List UInt8).length : Nat) : Int) by simp; omega), if_neg (by omega), if_neg (by omega)]
    rw [e2] at e1
    exact e1
  · have hl' := hl.resolve_left (fun k => h (.inl k))
    have hm' := hm.resolve_left (fun k => h (.inr k))
    obtain ⟨hF, hf, hx⟩ := hl'
    obtain ⟨hF', hf', hy⟩ := hm'
    have e1 := byPlace_stand hF hF' hx hy
    unfold amt
    rw [← e1]
    refine amounts_some 0 0 g g' l m x y ((l.length : Int) + x) ((m.length : Int) + y) _ ?_ w hF.len hF'.len (fun w1 => place_calls g l x w1 hF hf) (fun w1 => place_calls g' m y w1 hF' hf')
    unfold byPlace cmpS Lib.compareInt
    by_cases k1 : (l.length : Int) + x < (m.length : Int) + y
    · simp only [if_pos k1]; exact .inl (by simp)
    · simp only [if_neg k1]
      by_cases k2 : (m.length : Int) + y < (l.length : Int) + x
      · simp only [gt_iff_lt, if_pos k2]; exact .inl (by simp)
      · simp only [gt_iff_lt, if_neg k2]
        exact .inr (by simp)
set_option maxHeartbeats 8000000 in
set_option maxRecDepth 100000 in
theorem cmp_key (c c' : Int) (g g' : Bool) (S S' : ByteArray) (x y k1 k2 cc : Int) (w : World) (hc : cc ≠ 0 ∨ c ≠ 0)
    (M1 : ∀ w1, Calls Tryz.prog 14 #[.agg #[.int .i64 c, .bool g, .string S, .int .i64 x]] w1 fun e w' => e = .returned (.bool true) ∧ Below w1.heap.size w1 w')
    (M2 : ∀ w1, Calls Tryz.prog 14 #[.agg #[.int .i64 c', .bool g', .string S', .int .i64 y]] w1 fun e w' => e = .returned (.bool true) ∧ Below w1.heap.size w1 w')
    (K1 : ∀ w1, Calls Tryz.prog 41 #[.agg #[.int .i64 c, .bool g, .string S, .int .i64 x]] w1 fun e w' => e = .returned (.int .i64 k1) ∧ Below w1.heap.size w1 w')
    (K2 : ∀ w1, Calls Tryz.prog 41 #[.agg #[.int .i64 c', .bool g', .string S', .int .i64 y]] w1 fun e w' => e = .returned (.int .i64 k2) ∧ Below w1.heap.size w1 w')
    (KC : ∀ w1, Calls Tryz.prog 40 #[.int .i64 k1, .int .i64 k2] w1 fun e w' => e = .returned (.int .i64 cc) ∧ w' = w1) :
    Calls Tryz.prog 22 #[.agg #[.int .i64 c, .bool g, .string S, .int .i64 x], .agg #[.int .i64 c', .bool g', .string S', .int .i64 y]] w fun e w' => e = .returned (.tuple #[.int .i64 cc, .int .i64 0]) ∧ Below w.heap.size w w' := by
  have T := T8.start w #[.int .i64 c, .bool g, .string S, .int .i64 x] #[.int .i64 c', .bool g', .string S', .int .i64 y]
  have G1 := Lib.hid M1
  have G2 := Lib.hid M2
  have L1 := Lib.hid K1
  have L2 := Lib.hid K2
  have LC := Lib.hid KC
  have HT := Lib.hid T
  clear M1 M2 K1 K2 KC T
  rcases hc with hc | hc
  · have kc := eqB hc
    go_enter Tryz.func22, Tryz.ntmps22
    go_wp2_with (go_at_call 14; first
      | ((with_reducible refine (G1.out ((w.alloc (.cells #[.int .i64 c, .bool g, .string S, .int .i64 x] 23)).alloc (.cells #[.int .i64 c', .bool g', .string S', .int .i64 y] 23))).mono ?_); rintro e w1 ⟨rfl, b1⟩; have t1 := HT.out.below b1; have q1 := t1.keep)
      | ((with_reducible refine (G2.out w1).mono ?_); rintro e w2 ⟨rfl, b2⟩; have t2 := t1.below b2))
    have z0 := t2.drew
    clear q1
    go_region_held3 (fun w' => w'.cell? ⟨w.heap.size, 0, none⟩ = some (.int .i64 c) ∧ w'.cell? ⟨w.heap.size, 1, none⟩ = some (.bool g) ∧ w'.cell? ⟨w.heap.size, 2, none⟩ = some (.string S) ∧ w'.cell? ⟨w.heap.size, 3, none⟩ = some (.int .i64 x) ∧ w'.cell? ⟨w.heap.size + 1, 0, none⟩ = some (.int .i64 c') ∧ w'.cell? ⟨w.heap.size + 1, 1, none⟩ = some (.bool g') ∧ w'.cell? ⟨w.heap.size + 1, 2, none⟩ = some (.string S') ∧ w'.cell? ⟨w.heap.size + 1, 3, none⟩ = some (.int .i64 y))
      (first
        | (with_reducible exact z0.keep)
        | (with_reducible exact z12.keep)
        | (with_reducible exact z1.keep)
        | (with_reducible exact z2.keep))
      (first
        | (go_at_call 41; first
          | ((with_reducible refine (L1.out w2.drew).mono ?_); rintro e w3 ⟨rfl, b3⟩; have z1 := z0.below b3)
          | ((with_reducible refine (L2.out w2.drew).mono ?_); rintro e w4 ⟨rfl, b4⟩; have z2 := z0.below b4)
          | ((with_reducible refine (L1.out w4).mono ?_); rintro e w3 ⟨rfl, b3⟩; have z12 := z2.below b3)
          | ((with_reducible refine (L2.out w3).mono ?_); rintro e w4 ⟨rfl, b4⟩; have z12 := z1.below b4))
        | (go_at_call 40; (with_reducible refine (LC.out _).mono ?_); rintro e w5 ⟨rfl, rfl⟩))
    all_goals
      have k12 := z12.keep
      go_wp2
      go_ret2
      exact ⟨rfl, z12.bl⟩
  · by_cases hz : cc = 0
    · have kc := eqB hc
      subst hz
      go_enter Tryz.func22, Tryz.ntmps22
      go_wp2_with (go_at_call 14; first
        | ((with_reducible refine (G1.out ((w.alloc (.cells #[.int .i64 c, .bool g, .string S, .int .i64 x] 23)).alloc (.cells #[.int .i64 c', .bool g', .string S', .int .i64 y] 23))).mono ?_); rintro e w1 ⟨rfl, b1⟩; have t1 := HT.out.below b1; have q1 := t1.keep)
        | ((with_reducible refine (G2.out w1).mono ?_); rintro e w2 ⟨rfl, b2⟩; have t2 := t1.below b2))
      have z0 := t2.drew
      clear q1
      go_region_held3 (fun w' => w'.cell? ⟨w.heap.size, 0, none⟩ = some (.int .i64 c) ∧ w'.cell? ⟨w.heap.size, 1, none⟩ = some (.bool g) ∧ w'.cell? ⟨w.heap.size, 2, none⟩ = some (.string S) ∧ w'.cell? ⟨w.heap.size, 3, none⟩ = some (.int .i64 x) ∧ w'.cell? ⟨w.heap.size + 1, 0, none⟩ = some (.int .i64 c') ∧ w'.cell? ⟨w.heap.size + 1, 1, none⟩ = some (.bool g') ∧ w'.cell? ⟨w.heap.size + 1, 2, none⟩ = some (.string S') ∧ w'.cell? ⟨w.heap.size + 1, 3, none⟩ = some (.int .i64 y))
        (first
          | (with_reducible exact z0.keep)
          | (with_reducible exact z12.keep)
          | (with_reducible exact z1.keep)
          | (with_reducible exact z2.keep))
        (first
          | (go_at_call 41; first
            | ((with_reducible refine (L1.out w2.drew).mono ?_); rintro e w3 ⟨rfl, b3⟩; have z1 := z0.below b3)
            | ((with_reducible refine (L2.out w2.drew).mono ?_); rintro e w4 ⟨rfl, b4⟩; have z2 := z0.below b4)
            | ((with_reducible refine (L1.out w4).mono ?_); rintro e w3 ⟨rfl, b3⟩; have z12 := z2.below b3)
            | ((with_reducible refine (L2.out w3).mono ?_); rintro e w4 ⟨rfl, b4⟩; have z12 := z1.below b4))
          | (go_at_call 40; (with_reducible refine (LC.out _).mono ?_); rintro e w5 ⟨rfl, rfl⟩))
      all_goals
        have k12 := z12.keep
        go_wp2
        go_ret2
        exact ⟨rfl, z12.bl⟩
    · have kc := eqB hz
      go_enter Tryz.func22, Tryz.ntmps22
      go_wp2_with (go_at_call 14; first
        | ((with_reducible refine (G1.out ((w.alloc (.cells #[.int .i64 c, .bool g, .string S, .int .i64 x] 23)).alloc (.cells #[.int .i64 c', .bool g', .string S', .int .i64 y] 23))).mono ?_); rintro e w1 ⟨rfl, b1⟩; have t1 := HT.out.below b1; have q1 := t1.keep)
        | ((with_reducible refine (G2.out w1).mono ?_); rintro e w2 ⟨rfl, b2⟩; have t2 := t1.below b2))
      have z0 := t2.drew
      clear q1
      go_region_held3 (fun w' => w'.cell? ⟨w.heap.size, 0, none⟩ = some (.int .i64 c) ∧ w'.cell? ⟨w.heap.size, 1, none⟩ = some (.bool g) ∧ w'.cell? ⟨w.heap.size, 2, none⟩ = some (.string S) ∧ w'.cell? ⟨w.heap.size, 3, none⟩ = some (.int .i64 x) ∧ w'.cell? ⟨w.heap.size + 1, 0, none⟩ = some (.int .i64 c') ∧ w'.cell? ⟨w.heap.size + 1, 1, none⟩ = some (.bool g') ∧ w'.cell? ⟨w.heap.size + 1, 2, none⟩ = some (.string S') ∧ w'.cell? ⟨w.heap.size + 1, 3, none⟩ = some (.int .i64 y))
        (first
          | (with_reducible exact z0.keep)
          | (with_reducible exact z12.keep)
          | (with_reducible exact z1.keep)
          | (with_reducible exact z2.keep))
        (first
          | (go_at_call 41; first
            | ((with_reducible refine (L1.out w2.drew).mono ?_); rintro e w3 ⟨rfl, b3⟩; have z1 := z0.below b3)
            | ((with_reducible refine (L2.out w2.drew).mono ?_); rintro e w4 ⟨rfl, b4⟩; have z2 := z0.below b4)
            | ((with_reducible refine (L1.out w4).mono ?_); rintro e w3 ⟨rfl, b3⟩; have z12 := z2.below b3)
            | ((with_reducible refine (L2.out w3).mono ?_); rintro e w4 ⟨rfl, b4⟩; have z12 := z1.below b4))
          | (go_at_call 40; (with_reducible refine (LC.out _).mono ?_); rintro e w5 ⟨rfl, rfl⟩))
      all_goals
        have k12 := z12.keep
        go_wp2
        go_ret2
        exact ⟨rfl, z12.bl⟩
set_option maxHeartbeats 8000000 in
set_option maxRecDepth 100000 in
theorem cmp_zero (g g' : Bool) (S S' : ByteArray) (x y k1 k2 : Int) (w : World) (e1 : S.toList.isEmpty = true) (e2 : (S.toList == []) = true) (i1 : S'.toList.isEmpty = true) (i2 : (S'.toList == []) = true)
    (M1 : ∀ w1, Calls Tryz.prog 14 #[.agg #[.int .i64 0, .bool g, .string S, .int .i64 x]] w1 fun e w' => e = .returned (.bool true) ∧ Below w1.heap.size w1 w')
    (M2 : ∀ w1, Calls Tryz.prog 14 #[.agg #[.int .i64 0, .bool g', .string S', .int .i64 y]] w1 fun e w' => e = .returned (.bool true) ∧ Below w1.heap.size w1 w')
    (K1 : ∀ w1, Calls Tryz.prog 41 #[.agg #[.int .i64 0, .bool g, .string S, .int .i64 x]] w1 fun e w' => e = .returned (.int .i64 k1) ∧ Below w1.heap.size w1 w')
    (K2 : ∀ w1, Calls Tryz.prog 41 #[.agg #[.int .i64 0, .bool g', .string S', .int .i64 y]] w1 fun e w' => e = .returned (.int .i64 k2) ∧ Below w1.heap.size w1 w')
    (KC : ∀ w1, Calls Tryz.prog 40 #[.int .i64 k1, .int .i64 k2] w1 fun e w' => e = .returned (.int .i64 0) ∧ w' = w1) :
    Calls Tryz.prog 22 #[.agg #[.int .i64 0, .bool g, .string S, .int .i64 x], .agg #[.int .i64 0, .bool g', .string S', .int .i64 y]] w fun e w' => e = .returned (.tuple #[.int .i64 0, .int .i64 0]) ∧ Below w.heap.size w w' := by
  have T := T8.start w #[.int .i64 0, .bool g, .string S, .int .i64 x] #[.int .i64 0, .bool g', .string S', .int .i64 y]
  have G1 := Lib.hid M1
  have G2 := Lib.hid M2
  have L1 := Lib.hid K1
  have L2 := Lib.hid K2
  have LC := Lib.hid KC
  have HT := Lib.hid T
  clear M1 M2 K1 K2 KC T
  go_enter Tryz.func22, Tryz.ntmps22
  go_wp2_with (go_at_call 14; first
    | ((with_reducible refine (G1.out ((w.alloc (.cells #[.int .i64 0, .bool g, .string S, .int .i64 x] 23)).alloc (.cells #[.int .i64 0, .bool g', .string S', .int .i64 y] 23))).mono ?_); rintro e w1 ⟨rfl, b1⟩; have t1 := HT.out.below b1; have q1 := t1.keep)
    | ((with_reducible refine (G2.out w1).mono ?_); rintro e w2 ⟨rfl, b2⟩; have t2 := t1.below b2))
  have z0 := t2.drew
  clear q1
  go_region_held3 (fun w' => w'.cell? ⟨w.heap.size, 0, none⟩ = some (.int .i64 0) ∧ w'.cell? ⟨w.heap.size, 1, none⟩ = some (.bool g) ∧ w'.cell? ⟨w.heap.size, 2, none⟩ = some (.string S) ∧ w'.cell? ⟨w.heap.size, 3, none⟩ = some (.int .i64 x) ∧ w'.cell? ⟨w.heap.size + 1, 0, none⟩ = some (.int .i64 0) ∧ w'.cell? ⟨w.heap.size + 1, 1, none⟩ = some (.bool g') ∧ w'.cell? ⟨w.heap.size + 1, 2, none⟩ = some (.string S') ∧ w'.cell? ⟨w.heap.size + 1, 3, none⟩ = some (.int .i64 y))
    (first
      | (with_reducible exact z0.keep)
      | (with_reducible exact z12.keep)
      | (with_reducible exact z1.keep)
      | (with_reducible exact z2.keep))
    (first
      | (go_at_call 41; first
        | ((with_reducible refine (L1.out w2.drew).mono ?_); rintro e w3 ⟨rfl, b3⟩; have z1 := z0.below b3)
        | ((with_reducible refine (L2.out w2.drew).mono ?_); rintro e w4 ⟨rfl, b4⟩; have z2 := z0.below b4)
        | ((with_reducible refine (L1.out w4).mono ?_); rintro e w3 ⟨rfl, b3⟩; have z12 := z2.below b3)
        | ((with_reducible refine (L2.out w3).mono ?_); rintro e w4 ⟨rfl, b4⟩; have z12 := z1.below b4))
      | (go_at_call 40; (with_reducible refine (LC.out _).mono ?_); rintro e w5 ⟨rfl, rfl⟩))
  all_goals
    have k12 := z12.keep
    go_wp2
    go_ret2
    exact ⟨rfl, z12.bl⟩
set_option maxHeartbeats 8000000 in
set_option maxRecDepth 100000 in
theorem cmp_nn  (S S' : ByteArray) (x y k1 k2 : Int) (w : World) (s1 s2 : Bool) (hs : (s1 && s2) = false) (e1 : S.toList.isEmpty = s1) (e2 : (S.toList == []) = s1) (i1 : S'.toList.isEmpty = s2) (i2 : (S'.toList == []) = s2) (r : Int) (HA : ∀ w1, Calls Tryz.prog 42 #[.agg #[.int .i64 0, .bool true, .string S', .int .i64 y], .agg #[.int .i64 0, .bool true, .string S, .int .i64 x]] w1 fun e w' => e = .returned (.int .i64 r) ∧ Below w1.heap.size w1 w')
    (M1 : ∀ w1, Calls Tryz.prog 14 #[.agg #[.int .i64 0, .bool true, .string S, .int .i64 x]] w1 fun e w' => e = .returned (.bool true) ∧ Below w1.heap.size w1 w')
    (M2 : ∀ w1, Calls Tryz.prog 14 #[.agg #[.int .i64 0, .bool true, .string S', .int .i64 y]] w1 fun e w' => e = .returned (.bool true) ∧ Below w1.heap.size w1 w')
    (K1 : ∀ w1, Calls Tryz.prog 41 #[.agg #[.int .i64 0, .bool true, .string S, .int .i64 x]] w1 fun e w' => e = .returned (.int .i64 k1) ∧ Below w1.heap.size w1 w')
    (K2 : ∀ w1, Calls Tryz.prog 41 #[.agg #[.int .i64 0, .bool true, .string S', .int .i64 y]] w1 fun e w' => e = .returned (.int .i64 k2) ∧ Below w1.heap.size w1 w')
    (KC : ∀ w1, Calls Tryz.prog 40 #[.int .i64 k1, .int .i64 k2] w1 fun e w' => e = .returned (.int .i64 0) ∧ w' = w1) :
    Calls Tryz.prog 22 #[.agg #[.int .i64 0, .bool true, .string S, .int .i64 x], .agg #[.int .i64 0, .bool true, .string S', .int .i64 y]] w fun e w' => e = .returned (.tuple #[.int .i64 r, .int .i64 0]) ∧ Below w.heap.size w w' := by
  have T := T8.start w #[.int .i64 0, .bool true, .string S, .int .i64 x] #[.int .i64 0, .bool true, .string S', .int .i64 y]
  have G1 := Lib.hid M1
  have G2 := Lib.hid M2
  have L1 := Lib.hid K1
  have L2 := Lib.hid K2
  have LC := Lib.hid KC
  have HT := Lib.hid T
  clear M1 M2 K1 K2 KC T
  have LA := Lib.hid HA
  clear HA
  cases s1 <;> cases s2
  · skip
    go_enter Tryz.func22, Tryz.ntmps22
    go_wp2_with (go_at_call 14; first
      | ((with_reducible refine (G1.out ((w.alloc (.cells #[.int .i64 0, .bool true, .string S, .int .i64 x] 23)).alloc (.cells #[.int .i64 0, .bool true, .string S', .int .i64 y] 23))).mono ?_); rintro e w1 ⟨rfl, b1⟩; have t1 := HT.out.below b1; have q1 := t1.keep)
      | ((with_reducible refine (G2.out w1).mono ?_); rintro e w2 ⟨rfl, b2⟩; have t2 := t1.below b2))
    have z0 := t2.drew
    clear q1
    go_region_held3 (fun w' => w'.cell? ⟨w.heap.size, 0, none⟩ = some (.int .i64 0) ∧ w'.cell? ⟨w.heap.size, 1, none⟩ = some (.bool true) ∧ w'.cell? ⟨w.heap.size, 2, none⟩ = some (.string S) ∧ w'.cell? ⟨w.heap.size, 3, none⟩ = some (.int .i64 x) ∧ w'.cell? ⟨w.heap.size + 1, 0, none⟩ = some (.int .i64 0) ∧ w'.cell? ⟨w.heap.size + 1, 1, none⟩ = some (.bool true) ∧ w'.cell? ⟨w.heap.size + 1, 2, none⟩ = some (.string S') ∧ w'.cell? ⟨w.heap.size + 1, 3, none⟩ = some (.int .i64 y))
      (first
        | (with_reducible exact z0.keep)
        | (with_reducible exact z12.keep)
        | (with_reducible exact z1.keep)
        | (with_reducible exact z2.keep))
      (first
        | (go_at_call 41; first
          | ((with_reducible refine (L1.out w2.drew).mono ?_); rintro e w3 ⟨rfl, b3⟩; have z1 := z0.below b3)
          | ((with_reducible refine (L2.out w2.drew).mono ?_); rintro e w4 ⟨rfl, b4⟩; have z2 := z0.below b4)
          | ((with_reducible refine (L1.out w4).mono ?_); rintro e w3 ⟨rfl, b3⟩; have z12 := z2.below b3)
          | ((with_reducible refine (L2.out w3).mono ?_); rintro e w4 ⟨rfl, b4⟩; have z12 := z1.below b4))
        | (go_at_call 40; (with_reducible refine (LC.out _).mono ?_); rintro e w5 ⟨rfl, rfl⟩))
    all_goals
      have k12 := z12.keep
      go_wp2_with (go_at_call 42; (with_reducible refine (LA.out _).mono ?_); rintro e w6 ⟨rfl, b6⟩)
      go_ret2
      exact ⟨rfl, on z12.bl b6⟩
  · skip
    go_enter Tryz.func22, Tryz.ntmps22
    go_wp2_with (go_at_call 14; first
      | ((with_reducible refine (G1.out ((w.alloc (.cells #[.int .i64 0, .bool true, .string S, .int .i64 x] 23)).alloc (.cells #[.int .i64 0, .bool true, .string S', .int .i64 y] 23))).mono ?_); rintro e w1 ⟨rfl, b1⟩; have t1 := HT.out.below b1; have q1 := t1.keep)
      | ((with_reducible refine (G2.out w1).mono ?_); rintro e w2 ⟨rfl, b2⟩; have t2 := t1.below b2))
    have z0 := t2.drew
    clear q1
    go_region_held3 (fun w' => w'.cell? ⟨w.heap.size, 0, none⟩ = some (.int .i64 0) ∧ w'.cell? ⟨w.heap.size, 1, none⟩ = some (.bool true) ∧ w'.cell? ⟨w.heap.size, 2, none⟩ = some (.string S) ∧ w'.cell? ⟨w.heap.size, 3, none⟩ = some (.int .i64 x) ∧ w'.cell? ⟨w.heap.size + 1, 0, none⟩ = some (.int .i64 0) ∧ w'.cell? ⟨w.heap.size + 1, 1, none⟩ = some (.bool true) ∧ w'.cell? ⟨w.heap.size + 1, 2, none⟩ = some (.string S') ∧ w'.cell? ⟨w.heap.size + 1, 3, none⟩ = some (.int .i64 y))
      (first
        | (with_reducible exact z0.keep)
        | (with_reducible exact z12.keep)
        | (with_reducible exact z1.keep)
        | (with_reducible exact z2.keep))
      (first
        | (go_at_call 41; first
          | ((with_reducible refine (L1.out w2.drew).mono ?_); rintro e w3 ⟨rfl, b3⟩; have z1 := z0.below b3)
          | ((with_reducible refine (L2.out w2.drew).mono ?_); rintro e w4 ⟨rfl, b4⟩; have z2 := z0.below b4)
          | ((with_reducible refine (L1.out w4).mono ?_); rintro e w3 ⟨rfl, b3⟩; have z12 := z2.below b3)
          | ((with_reducible refine (L2.out w3).mono ?_); rintro e w4 ⟨rfl, b4⟩; have z12 := z1.below b4))
        | (go_at_call 40; (with_reducible refine (LC.out _).mono ?_); rintro e w5 ⟨rfl, rfl⟩))
    all_goals
      have k12 := z12.keep
      go_wp2_with (go_at_call 42; (with_reducible refine (LA.out _).mono ?_); rintro e w6 ⟨rfl, b6⟩)
      go_ret2
      exact ⟨rfl, on z12.bl b6⟩
  · skip
    go_enter Tryz.func22, Tryz.ntmps22
    go_wp2_with (go_at_call 14; first
      | ((with_reducible refine (G1.out ((w.alloc (.cells #[.int .i64 0, .bool true, .string S, .int .i64 x] 23)).alloc (.cells #[.int .i64 0, .bool true, .string S', .int .i64 y] 23))).mono ?_); rintro e w1 ⟨rfl, b1⟩; have t1 := HT.out.below b1; have q1 := t1.keep)
      | ((with_reducible refine (G2.out w1).mono ?_); rintro e w2 ⟨rfl, b2⟩; have t2 := t1.below b2))
    have z0 := t2.drew
    clear q1
    go_region_held3 (fun w' => w'.cell? ⟨w.heap.size, 0, none⟩ = some (.int .i64 0) ∧ w'.cell? ⟨w.heap.size, 1, none⟩ = some (.bool true) ∧ w'.cell? ⟨w.heap.size, 2, none⟩ = some (.string S) ∧ w'.cell? ⟨w.heap.size, 3, none⟩ = some (.int .i64 x) ∧ w'.cell? ⟨w.heap.size + 1, 0, none⟩ = some (.int .i64 0) ∧ w'.cell? ⟨w.heap.size + 1, 1, none⟩ = some (.bool true) ∧ w'.cell? ⟨w.heap.size + 1, 2, none⟩ = some (.string S') ∧ w'.cell? ⟨w.heap.size + 1, 3, none⟩ = some (.int .i64 y))
      (first
        | (with_reducible exact z0.keep)
        | (with_reducible exact z12.keep)
        | (with_reducible exact z1.keep)
        | (with_reducible exact z2.keep))
      (first
        | (go_at_call 41; first
          | ((with_reducible refine (L1.out w2.drew).mono ?_); rintro e w3 ⟨rfl, b3⟩; have z1 := z0.below b3)
          | ((with_reducible refine (L2.out w2.drew).mono ?_); rintro e w4 ⟨rfl, b4⟩; have z2 := z0.below b4)
          | ((with_reducible refine (L1.out w4).mono ?_); rintro e w3 ⟨rfl, b3⟩; have z12 := z2.below b3)
          | ((with_reducible refine (L2.out w3).mono ?_); rintro e w4 ⟨rfl, b4⟩; have z12 := z1.below b4))
        | (go_at_call 40; (with_reducible refine (LC.out _).mono ?_); rintro e w5 ⟨rfl, rfl⟩))
    all_goals
      have k12 := z12.keep
      go_wp2_with (go_at_call 42; (with_reducible refine (LA.out _).mono ?_); rintro e w6 ⟨rfl, b6⟩)
      go_ret2
      exact ⟨rfl, on z12.bl b6⟩
  · cases hs
set_option maxHeartbeats 8000000 in
set_option maxRecDepth 100000 in
theorem cmp_pp  (S S' : ByteArray) (x y k1 k2 : Int) (w : World) (s1 s2 : Bool) (hs : (s1 && s2) = false) (e1 : S.toList.isEmpty = s1) (e2 : (S.toList == []) = s1) (i1 : S'.toList.isEmpty = s2) (i2 : (S'.toList == []) = s2) (r : Int) (HA : ∀ w1, Calls Tryz.prog 42 #[.agg #[.int .i64 0, .bool false, .string S, .int .i64 x], .agg #[.int .i64 0, .bool false, .string S', .int .i64 y]] w1 fun e w' => e = .returned (.int .i64 r) ∧ Below w1.heap.size w1 w')
    (M1 : ∀ w1, Calls Tryz.prog 14 #[.agg #[.int .i64 0, .bool false, .string S, .int .i64 x]] w1 fun e w' => e = .returned (.bool true) ∧ Below w1.heap.size w1 w')
    (M2 : ∀ w1, Calls Tryz.prog 14 #[.agg #[.int .i64 0, .bool false, .string S', .int .i64 y]] w1 fun e w' => e = .returned (.bool true) ∧ Below w1.heap.size w1 w')
    (K1 : ∀ w1, Calls Tryz.prog 41 #[.agg #[.int .i64 0, .bool false, .string S, .int .i64 x]] w1 fun e w' => e = .returned (.int .i64 k1) ∧ Below w1.heap.size w1 w')
    (K2 : ∀ w1, Calls Tryz.prog 41 #[.agg #[.int .i64 0, .bool false, .string S', .int .i64 y]] w1 fun e w' => e = .returned (.int .i64 k2) ∧ Below w1.heap.size w1 w')
    (KC : ∀ w1, Calls Tryz.prog 40 #[.int .i64 k1, .int .i64 k2] w1 fun e w' => e = .returned (.int .i64 0) ∧ w' = w1) :
    Calls Tryz.prog 22 #[.agg #[.int .i64 0, .bool false, .string S, .int .i64 x], .agg #[.int .i64 0, .bool false, .string S', .int .i64 y]] w fun e w' => e = .returned (.tuple #[.int .i64 r, .int .i64 0]) ∧ Below w.heap.size w w' := by
  have T := T8.start w #[.int .i64 0, .bool false, .string S, .int .i64 x] #[.int .i64 0, .bool false, .string S', .int .i64 y]
  have G1 := Lib.hid M1
  have G2 := Lib.hid M2
  have L1 := Lib.hid K1
  have L2 := Lib.hid K2
  have LC := Lib.hid KC
  have HT := Lib.hid T
  clear M1 M2 K1 K2 KC T
  have LA := Lib.hid HA
  clear HA
  cases s1 <;> cases s2
  · skip
    go_enter Tryz.func22, Tryz.ntmps22
    go_wp2_with (go_at_call 14; first
      | ((with_reducible refine (G1.out ((w.alloc (.cells #[.int .i64 0, .bool false, .string S, .int .i64 x] 23)).alloc (.cells #[.int .i64 0, .bool false, .string S', .int .i64 y] 23))).mono ?_); rintro e w1 ⟨rfl, b1⟩; have t1 := HT.out.below b1; have q1 := t1.keep)
      | ((with_reducible refine (G2.out w1).mono ?_); rintro e w2 ⟨rfl, b2⟩; have t2 := t1.below b2))
    have z0 := t2.drew
    clear q1
    go_region_held3 (fun w' => w'.cell? ⟨w.heap.size, 0, none⟩ = some (.int .i64 0) ∧ w'.cell? ⟨w.heap.size, 1, none⟩ = some (.bool false) ∧ w'.cell? ⟨w.heap.size, 2, none⟩ = some (.string S) ∧ w'.cell? ⟨w.heap.size, 3, none⟩ = some (.int .i64 x) ∧ w'.cell? ⟨w.heap.size + 1, 0, none⟩ = some (.int .i64 0) ∧ w'.cell? ⟨w.heap.size + 1, 1, none⟩ = some (.bool false) ∧ w'.cell? ⟨w.heap.size + 1, 2, none⟩ = some (.string S') ∧ w'.cell? ⟨w.heap.size + 1, 3, none⟩ = some (.int .i64 y))
      (first
        | (with_reducible exact z0.keep)
        | (with_reducible exact z12.keep)
        | (with_reducible exact z1.keep)
        | (with_reducible exact z2.keep))
      (first
        | (go_at_call 41; first
          | ((with_reducible refine (L1.out w2.drew).mono ?_); rintro e w3 ⟨rfl, b3⟩; have z1 := z0.below b3)
          | ((with_reducible refine (L2.out w2.drew).mono ?_); rintro e w4 ⟨rfl, b4⟩; have z2 := z0.below b4)
          | ((with_reducible refine (L1.out w4).mono ?_); rintro e w3 ⟨rfl, b3⟩; have z12 := z2.below b3)
          | ((with_reducible refine (L2.out w3).mono ?_); rintro e w4 ⟨rfl, b4⟩; have z12 := z1.below b4))
        | (go_at_call 40; (with_reducible refine (LC.out _).mono ?_); rintro e w5 ⟨rfl, rfl⟩))
    all_goals
      have k12 := z12.keep
      go_wp2_with (go_at_call 42; (with_reducible refine (LA.out _).mono ?_); rintro e w6 ⟨rfl, b6⟩)
      go_ret2
      exact ⟨rfl, on z12.bl b6⟩
  · skip
    go_enter Tryz.func22, Tryz.ntmps22
    go_wp2_with (go_at_call 14; first
      | ((with_reducible refine (G1.out ((w.alloc (.cells #[.int .i64 0, .bool false, .string S, .int .i64 x] 23)).alloc (.cells #[.int .i64 0, .bool false, .string S', .int .i64 y] 23))).mono ?_); rintro e w1 ⟨rfl, b1⟩; have t1 := HT.out.below b1; have q1 := t1.keep)
      | ((with_reducible refine (G2.out w1).mono ?_); rintro e w2 ⟨rfl, b2⟩; have t2 := t1.below b2))
    have z0 := t2.drew
    clear q1
    go_region_held3 (fun w' => w'.cell? ⟨w.heap.size, 0, none⟩ = some (.int .i64 0) ∧ w'.cell? ⟨w.heap.size, 1, none⟩ = some (.bool false) ∧ w'.cell? ⟨w.heap.size, 2, none⟩ = some (.string S) ∧ w'.cell? ⟨w.heap.size, 3, none⟩ = some (.int .i64 x) ∧ w'.cell? ⟨w.heap.size + 1, 0, none⟩ = some (.int .i64 0) ∧ w'.cell? ⟨w.heap.size + 1, 1, none⟩ = some (.bool false) ∧ w'.cell? ⟨w.heap.size + 1, 2, none⟩ = some (.string S') ∧ w'.cell? ⟨w.heap.size + 1, 3, none⟩ = some (.int .i64 y))
      (first
        | (with_reducible exact z0.keep)
        | (with_reducible exact z12.keep)
        | (with_reducible exact z1.keep)
        | (with_reducible exact z2.keep))
      (first
        | (go_at_call 41; first
          | ((with_reducible refine (L1.out w2.drew).mono ?_); rintro e w3 ⟨rfl, b3⟩; have z1 := z0.below b3)
          | ((with_reducible refine (L2.out w2.drew).mono ?_); rintro e w4 ⟨rfl, b4⟩; have z2 := z0.below b4)
          | ((with_reducible refine (L1.out w4).mono ?_); rintro e w3 ⟨rfl, b3⟩; have z12 := z2.below b3)
          | ((with_reducible refine (L2.out w3).mono ?_); rintro e w4 ⟨rfl, b4⟩; have z12 := z1.below b4))
        | (go_at_call 40; (with_reducible refine (LC.out _).mono ?_); rintro e w5 ⟨rfl, rfl⟩))
    all_goals
      have k12 := z12.keep
      go_wp2_with (go_at_call 42; (with_reducible refine (LA.out _).mono ?_); rintro e w6 ⟨rfl, b6⟩)
      go_ret2
      exact ⟨rfl, on z12.bl b6⟩
  · skip
    go_enter Tryz.func22, Tryz.ntmps22
    go_wp2_with (go_at_call 14; first
      | ((with_reducible refine (G1.out ((w.alloc (.cells #[.int .i64 0, .bool false, .string S, .int .i64 x] 23)).alloc (.cells #[.int .i64 0, .bool false, .string S', .int .i64 y] 23))).mono ?_); rintro e w1 ⟨rfl, b1⟩; have t1 := HT.out.below b1; have q1 := t1.keep)
      | ((with_reducible refine (G2.out w1).mono ?_); rintro e w2 ⟨rfl, b2⟩; have t2 := t1.below b2))
    have z0 := t2.drew
    clear q1
    go_region_held3 (fun w' => w'.cell? ⟨w.heap.size, 0, none⟩ = some (.int .i64 0) ∧ w'.cell? ⟨w.heap.size, 1, none⟩ = some (.bool false) ∧ w'.cell? ⟨w.heap.size, 2, none⟩ = some (.string S) ∧ w'.cell? ⟨w.heap.size, 3, none⟩ = some (.int .i64 x) ∧ w'.cell? ⟨w.heap.size + 1, 0, none⟩ = some (.int .i64 0) ∧ w'.cell? ⟨w.heap.size + 1, 1, none⟩ = some (.bool false) ∧ w'.cell? ⟨w.heap.size + 1, 2, none⟩ = some (.string S') ∧ w'.cell? ⟨w.heap.size + 1, 3, none⟩ = some (.int .i64 y))
      (first
        | (with_reducible exact z0.keep)
        | (with_reducible exact z12.keep)
        | (with_reducible exact z1.keep)
        | (with_reducible exact z2.keep))
      (first
        | (go_at_call 41; first
          | ((with_reducible refine (L1.out w2.drew).mono ?_); rintro e w3 ⟨rfl, b3⟩; have z1 := z0.below b3)
          | ((with_reducible refine (L2.out w2.drew).mono ?_); rintro e w4 ⟨rfl, b4⟩; have z2 := z0.below b4)
          | ((with_reducible refine (L1.out w4).mono ?_); rintro e w3 ⟨rfl, b3⟩; have z12 := z2.below b3)
          | ((with_reducible refine (L2.out w3).mono ?_); rintro e w4 ⟨rfl, b4⟩; have z12 := z1.below b4))
        | (go_at_call 40; (with_reducible refine (LC.out _).mono ?_); rintro e w5 ⟨rfl, rfl⟩))
    all_goals
      have k12 := z12.keep
      go_wp2_with (go_at_call 42; (with_reducible refine (LA.out _).mono ?_); rintro e w6 ⟨rfl, b6⟩)
      go_ret2
      exact ⟨rfl, on z12.bl b6⟩
  · cases hs
set_option maxHeartbeats 8000000 in
set_option maxRecDepth 100000 in
theorem cmp_np  (S S' : ByteArray) (x y k1 k2 : Int) (w : World) (s1 s2 : Bool) (hs : (s1 && s2) = false) (e1 : S.toList.isEmpty = s1) (e2 : (S.toList == []) = s1) (i1 : S'.toList.isEmpty = s2) (i2 : (S'.toList == []) = s2)
    (M1 : ∀ w1, Calls Tryz.prog 14 #[.agg #[.int .i64 0, .bool true, .string S, .int .i64 x]] w1 fun e w' => e = .returned (.bool true) ∧ Below w1.heap.size w1 w')
    (M2 : ∀ w1, Calls Tryz.prog 14 #[.agg #[.int .i64 0, .bool false, .string S', .int .i64 y]] w1 fun e w' => e = .returned (.bool true) ∧ Below w1.heap.size w1 w')
    (K1 : ∀ w1, Calls Tryz.prog 41 #[.agg #[.int .i64 0, .bool true, .string S, .int .i64 x]] w1 fun e w' => e = .returned (.int .i64 k1) ∧ Below w1.heap.size w1 w')
    (K2 : ∀ w1, Calls Tryz.prog 41 #[.agg #[.int .i64 0, .bool false, .string S', .int .i64 y]] w1 fun e w' => e = .returned (.int .i64 k2) ∧ Below w1.heap.size w1 w')
    (KC : ∀ w1, Calls Tryz.prog 40 #[.int .i64 k1, .int .i64 k2] w1 fun e w' => e = .returned (.int .i64 0) ∧ w' = w1) :
    Calls Tryz.prog 22 #[.agg #[.int .i64 0, .bool true, .string S, .int .i64 x], .agg #[.int .i64 0, .bool false, .string S', .int .i64 y]] w fun e w' => e = .returned (.tuple #[.int .i64 (-1), .int .i64 0]) ∧ Below w.heap.size w w' := by
  have T := T8.start w #[.int .i64 0, .bool true, .string S, .int .i64 x] #[.int .i64 0, .bool false, .string S', .int .i64 y]
  have G1 := Lib.hid M1
  have G2 := Lib.hid M2
  have L1 := Lib.hid K1
  have L2 := Lib.hid K2
  have LC := Lib.hid KC
  have HT := Lib.hid T
  clear M1 M2 K1 K2 KC T
  cases s1 <;> cases s2
  · skip
    go_enter Tryz.func22, Tryz.ntmps22
    go_wp2_with (go_at_call 14; first
      | ((with_reducible refine (G1.out ((w.alloc (.cells #[.int .i64 0, .bool true, .string S, .int .i64 x] 23)).alloc (.cells #[.int .i64 0, .bool false, .string S', .int .i64 y] 23))).mono ?_); rintro e w1 ⟨rfl, b1⟩; have t1 := HT.out.below b1; have q1 := t1.keep)
      | ((with_reducible refine (G2.out w1).mono ?_); rintro e w2 ⟨rfl, b2⟩; have t2 := t1.below b2))
    have z0 := t2.drew
    clear q1
    go_region_held3 (fun w' => w'.cell? ⟨w.heap.size, 0, none⟩ = some (.int .i64 0) ∧ w'.cell? ⟨w.heap.size, 1, none⟩ = some (.bool true) ∧ w'.cell? ⟨w.heap.size, 2, none⟩ = some (.string S) ∧ w'.cell? ⟨w.heap.size, 3, none⟩ = some (.int .i64 x) ∧ w'.cell? ⟨w.heap.size + 1, 0, none⟩ = some (.int .i64 0) ∧ w'.cell? ⟨w.heap.size + 1, 1, none⟩ = some (.bool false) ∧ w'.cell? ⟨w.heap.size + 1, 2, none⟩ = some (.string S') ∧ w'.cell? ⟨w.heap.size + 1, 3, none⟩ = some (.int .i64 y))
      (first
        | (with_reducible exact z0.keep)
        | (with_reducible exact z12.keep)
        | (with_reducible exact z1.keep)
        | (with_reducible exact z2.keep))
      (first
        | (go_at_call 41; first
          | ((with_reducible refine (L1.out w2.drew).mono ?_); rintro e w3 ⟨rfl, b3⟩; have z1 := z0.below b3)
          | ((with_reducible refine (L2.out w2.drew).mono ?_); rintro e w4 ⟨rfl, b4⟩; have z2 := z0.below b4)
          | ((with_reducible refine (L1.out w4).mono ?_); rintro e w3 ⟨rfl, b3⟩; have z12 := z2.below b3)
          | ((with_reducible refine (L2.out w3).mono ?_); rintro e w4 ⟨rfl, b4⟩; have z12 := z1.below b4))
        | (go_at_call 40; (with_reducible refine (LC.out _).mono ?_); rintro e w5 ⟨rfl, rfl⟩))
    all_goals
      have k12 := z12.keep
      go_wp2
      go_ret2
      exact ⟨rfl, z12.bl⟩
  · skip
    go_enter Tryz.func22, Tryz.ntmps22
    go_wp2_with (go_at_call 14; first
      | ((with_reducible refine (G1.out ((w.alloc (.cells #[.int .i64 0, .bool true, .string S, .int .i64 x] 23)).alloc (.cells #[.int .i64 0, .bool false, .string S', .int .i64 y] 23))).mono ?_); rintro e w1 ⟨rfl, b1⟩; have t1 := HT.out.below b1; have q1 := t1.keep)
      | ((with_reducible refine (G2.out w1).mono ?_); rintro e w2 ⟨rfl, b2⟩; have t2 := t1.below b2))
    have z0 := t2.drew
    clear q1
    go_region_held3 (fun w' => w'.cell? ⟨w.heap.size, 0, none⟩ = some (.int .i64 0) ∧ w'.cell? ⟨w.heap.size, 1, none⟩ = some (.bool true) ∧ w'.cell? ⟨w.heap.size, 2, none⟩ = some (.string S) ∧ w'.cell? ⟨w.heap.size, 3, none⟩ = some (.int .i64 x) ∧ w'.cell? ⟨w.heap.size + 1, 0, none⟩ = some (.int .i64 0) ∧ w'.cell? ⟨w.heap.size + 1, 1, none⟩ = some (.bool false) ∧ w'.cell? ⟨w.heap.size + 1, 2, none⟩ = some (.string S') ∧ w'.cell? ⟨w.heap.size + 1, 3, none⟩ = some (.int .i64 y))
      (first
        | (with_reducible exact z0.keep)
        | (with_reducible exact z12.keep)
        | (with_reducible exact z1.keep)
        | (with_reducible exact z2.keep))
      (first
        | (go_at_call 41; first
          | ((with_reducible refine (L1.out w2.drew).mono ?_); rintro e w3 ⟨rfl, b3⟩; have z1 := z0.below b3)
          | ((with_reducible refine (L2.out w2.drew).mono ?_); rintro e w4 ⟨rfl, b4⟩; have z2 := z0.below b4)
          | ((with_reducible refine (L1.out w4).mono ?_); rintro e w3 ⟨rfl, b3⟩; have z12 := z2.below b3)
          | ((with_reducible refine (L2.out w3).mono ?_); rintro e w4 ⟨rfl, b4⟩; have z12 := z1.below b4))
        | (go_at_call 40; (with_reducible refine (LC.out _).mono ?_); rintro e w5 ⟨rfl, rfl⟩))
    all_goals
      have k12 := z12.keep
      go_wp2
      go_ret2
      exact ⟨rfl, z12.bl⟩
  · skip
    go_enter Tryz.func22, Tryz.ntmps22
    go_wp2_with (go_at_call 14; first
      | ((with_reducible refine (G1.out ((w.alloc (.cells #[.int .i64 0, .bool true, .string S, .int .i64 x] 23)).alloc (.cells #[.int .i64 0, .bool false, .string S', .int .i64 y] 23))).mono ?_); rintro e w1 ⟨rfl, b1⟩; have t1 := HT.out.below b1; have q1 := t1.keep)
      | ((with_reducible refine (G2.out w1).mono ?_); rintro e w2 ⟨rfl, b2⟩; have t2 := t1.below b2))
    have z0 := t2.drew
    clear q1
    go_region_held3 (fun w' => w'.cell? ⟨w.heap.size, 0, none⟩ = some (.int .i64 0) ∧ w'.cell? ⟨w.heap.size, 1, none⟩ = some (.bool true) ∧ w'.cell? ⟨w.heap.size, 2, none⟩ = some (.string S) ∧ w'.cell? ⟨w.heap.size, 3, none⟩ = some (.int .i64 x) ∧ w'.cell? ⟨w.heap.size + 1, 0, none⟩ = some (.int .i64 0) ∧ w'.cell? ⟨w.heap.size + 1, 1, none⟩ = some (.bool false) ∧ w'.cell? ⟨w.heap.size + 1, 2, none⟩ = some (.string S') ∧ w'.cell? ⟨w.heap.size + 1, 3, none⟩ = some (.int .i64 y))
      (first
        | (with_reducible exact z0.keep)
        | (with_reducible exact z12.keep)
        | (with_reducible exact z1.keep)
        | (with_reducible exact z2.keep))
      (first
        | (go_at_call 41; first
          | ((with_reducible refine (L1.out w2.drew).mono ?_); rintro e w3 ⟨rfl, b3⟩; have z1 := z0.below b3)
          | ((with_reducible refine (L2.out w2.drew).mono ?_); rintro e w4 ⟨rfl, b4⟩; have z2 := z0.below b4)
          | ((with_reducible refine (L1.out w4).mono ?_); rintro e w3 ⟨rfl, b3⟩; have z12 := z2.below b3)
          | ((with_reducible refine (L2.out w3).mono ?_); rintro e w4 ⟨rfl, b4⟩; have z12 := z1.below b4))
        | (go_at_call 40; (with_reducible refine (LC.out _).mono ?_); rintro e w5 ⟨rfl, rfl⟩))
    all_goals
      have k12 := z12.keep
      go_wp2
      go_ret2
      exact ⟨rfl, z12.bl⟩
  · cases hs
set_option maxHeartbeats 8000000 in
set_option maxRecDepth 100000 in
theorem cmp_pn  (S S' : ByteArray) (x y k1 k2 : Int) (w : World) (s1 s2 : Bool) (hs : (s1 && s2) = false) (e1 : S.toList.isEmpty = s1) (e2 : (S.toList == []) = s1) (i1 : S'.toList.isEmpty = s2) (i2 : (S'.toList == []) = s2)
    (M1 : ∀ w1, Calls Tryz.prog 14 #[.agg #[.int .i64 0, .bool false, .string S, .int .i64 x]] w1 fun e w' => e = .returned (.bool true) ∧ Below w1.heap.size w1 w')
    (M2 : ∀ w1, Calls Tryz.prog 14 #[.agg #[.int .i64 0, .bool true, .string S', .int .i64 y]] w1 fun e w' => e = .returned (.bool true) ∧ Below w1.heap.size w1 w')
    (K1 : ∀ w1, Calls Tryz.prog 41 #[.agg #[.int .i64 0, .bool false, .string S, .int .i64 x]] w1 fun e w' => e = .returned (.int .i64 k1) ∧ Below w1.heap.size w1 w')
    (K2 : ∀ w1, Calls Tryz.prog 41 #[.agg #[.int .i64 0, .bool true, .string S', .int .i64 y]] w1 fun e w' => e = .returned (.int .i64 k2) ∧ Below w1.heap.size w1 w')
    (KC : ∀ w1, Calls Tryz.prog 40 #[.int .i64 k1, .int .i64 k2] w1 fun e w' => e = .returned (.int .i64 0) ∧ w' = w1) :
    Calls Tryz.prog 22 #[.agg #[.int .i64 0, .bool false, .string S, .int .i64 x], .agg #[.int .i64 0, .bool true, .string S', .int .i64 y]] w fun e w' => e = .returned (.tuple #[.int .i64 1, .int .i64 0]) ∧ Below w.heap.size w w' := by
  have T := T8.start w #[.int .i64 0, .bool false, .string S, .int .i64 x] #[.int .i64 0, .bool true, .string S', .int .i64 y]
  have G1 := Lib.hid M1
  have G2 := Lib.hid M2
  have L1 := Lib.hid K1
  have L2 := Lib.hid K2
  have LC := Lib.hid KC
  have HT := Lib.hid T
  clear M1 M2 K1 K2 KC T
  cases s1 <;> cases s2
  · skip
    go_enter Tryz.func22, Tryz.ntmps22
    go_wp2_with (go_at_call 14; first
      | ((with_reducible refine (G1.out ((w.alloc (.cells #[.int .i64 0, .bool false, .string S, .int .i64 x] 23)).alloc (.cells #[.int .i64 0, .bool true, .string S', .int .i64 y] 23))).mono ?_); rintro e w1 ⟨rfl, b1⟩; have t1 := HT.out.below b1; have q1 := t1.keep)
      | ((with_reducible refine (G2.out w1).mono ?_); rintro e w2 ⟨rfl, b2⟩; have t2 := t1.below b2))
    have z0 := t2.drew
    clear q1
    go_region_held3 (fun w' => w'.cell? ⟨w.heap.size, 0, none⟩ = some (.int .i64 0) ∧ w'.cell? ⟨w.heap.size, 1, none⟩ = some (.bool false) ∧ w'.cell? ⟨w.heap.size, 2, none⟩ = some (.string S) ∧ w'.cell? ⟨w.heap.size, 3, none⟩ = some (.int .i64 x) ∧ w'.cell? ⟨w.heap.size + 1, 0, none⟩ = some (.int .i64 0) ∧ w'.cell? ⟨w.heap.size + 1, 1, none⟩ = some (.bool true) ∧ w'.cell? ⟨w.heap.size + 1, 2, none⟩ = some (.string S') ∧ w'.cell? ⟨w.heap.size + 1, 3, none⟩ = some (.int .i64 y))
      (first
        | (with_reducible exact z0.keep)
        | (with_reducible exact z12.keep)
        | (with_reducible exact z1.keep)
        | (with_reducible exact z2.keep))
      (first
        | (go_at_call 41; first
          | ((with_reducible refine (L1.out w2.drew).mono ?_); rintro e w3 ⟨rfl, b3⟩; have z1 := z0.below b3)
          | ((with_reducible refine (L2.out w2.drew).mono ?_); rintro e w4 ⟨rfl, b4⟩; have z2 := z0.below b4)
          | ((with_reducible refine (L1.out w4).mono ?_); rintro e w3 ⟨rfl, b3⟩; have z12 := z2.below b3)
          | ((with_reducible refine (L2.out w3).mono ?_); rintro e w4 ⟨rfl, b4⟩; have z12 := z1.below b4))
        | (go_at_call 40; (with_reducible refine (LC.out _).mono ?_); rintro e w5 ⟨rfl, rfl⟩))
    all_goals
      have k12 := z12.keep
      go_wp2
      go_ret2
      exact ⟨rfl, z12.bl⟩
  · skip
    go_enter Tryz.func22, Tryz.ntmps22
    go_wp2_with (go_at_call 14; first
      | ((with_reducible refine (G1.out ((w.alloc (.cells #[.int .i64 0, .bool false, .string S, .int .i64 x] 23)).alloc (.cells #[.int .i64 0, .bool true, .string S', .int .i64 y] 23))).mono ?_); rintro e w1 ⟨rfl, b1⟩; have t1 := HT.out.below b1; have q1 := t1.keep)
      | ((with_reducible refine (G2.out w1).mono ?_); rintro e w2 ⟨rfl, b2⟩; have t2 := t1.below b2))
    have z0 := t2.drew
    clear q1
    go_region_held3 (fun w' => w'.cell? ⟨w.heap.size, 0, none⟩ = some (.int .i64 0) ∧ w'.cell? ⟨w.heap.size, 1, none⟩ = some (.bool false) ∧ w'.cell? ⟨w.heap.size, 2, none⟩ = some (.string S) ∧ w'.cell? ⟨w.heap.size, 3, none⟩ = some (.int .i64 x) ∧ w'.cell? ⟨w.heap.size + 1, 0, none⟩ = some (.int .i64 0) ∧ w'.cell? ⟨w.heap.size + 1, 1, none⟩ = some (.bool true) ∧ w'.cell? ⟨w.heap.size + 1, 2, none⟩ = some (.string S') ∧ w'.cell? ⟨w.heap.size + 1, 3, none⟩ = some (.int .i64 y))
      (first
        | (with_reducible exact z0.keep)
        | (with_reducible exact z12.keep)
        | (with_reducible exact z1.keep)
        | (with_reducible exact z2.keep))
      (first
        | (go_at_call 41; first
          | ((with_reducible refine (L1.out w2.drew).mono ?_); rintro e w3 ⟨rfl, b3⟩; have z1 := z0.below b3)
          | ((with_reducible refine (L2.out w2.drew).mono ?_); rintro e w4 ⟨rfl, b4⟩; have z2 := z0.below b4)
          | ((with_reducible refine (L1.out w4).mono ?_); rintro e w3 ⟨rfl, b3⟩; have z12 := z2.below b3)
          | ((with_reducible refine (L2.out w3).mono ?_); rintro e w4 ⟨rfl, b4⟩; have z12 := z1.below b4))
        | (go_at_call 40; (with_reducible refine (LC.out _).mono ?_); rintro e w5 ⟨rfl, rfl⟩))
    all_goals
      have k12 := z12.keep
      go_wp2
      go_ret2
      exact ⟨rfl, z12.bl⟩
  · skip
    go_enter Tryz.func22, Tryz.ntmps22
    go_wp2_with (go_at_call 14; first
      | ((with_reducible refine (G1.out ((w.alloc (.cells #[.int .i64 0, .bool false, .string S, .int .i64 x] 23)).alloc (.cells #[.int .i64 0, .bool true, .string S', .int .i64 y] 23))).mono ?_); rintro e w1 ⟨rfl, b1⟩; have t1 := HT.out.below b1; have q1 := t1.keep)
      | ((with_reducible refine (G2.out w1).mono ?_); rintro e w2 ⟨rfl, b2⟩; have t2 := t1.below b2))
    have z0 := t2.drew
    clear q1
    go_region_held3 (fun w' => w'.cell? ⟨w.heap.size, 0, none⟩ = some (.int .i64 0) ∧ w'.cell? ⟨w.heap.size, 1, none⟩ = some (.bool false) ∧ w'.cell? ⟨w.heap.size, 2, none⟩ = some (.string S) ∧ w'.cell? ⟨w.heap.size, 3, none⟩ = some (.int .i64 x) ∧ w'.cell? ⟨w.heap.size + 1, 0, none⟩ = some (.int .i64 0) ∧ w'.cell? ⟨w.heap.size + 1, 1, none⟩ = some (.bool true) ∧ w'.cell? ⟨w.heap.size + 1, 2, none⟩ = some (.string S') ∧ w'.cell? ⟨w.heap.size + 1, 3, none⟩ = some (.int .i64 y))
      (first
        | (with_reducible exact z0.keep)
        | (with_reducible exact z12.keep)
        | (with_reducible exact z1.keep)
        | (with_reducible exact z2.keep))
      (first
        | (go_at_call 41; first
          | ((with_reducible refine (L1.out w2.drew).mono ?_); rintro e w3 ⟨rfl, b3⟩; have z1 := z0.below b3)
          | ((with_reducible refine (L2.out w2.drew).mono ?_); rintro e w4 ⟨rfl, b4⟩; have z2 := z0.below b4)
          | ((with_reducible refine (L1.out w4).mono ?_); rintro e w3 ⟨rfl, b3⟩; have z12 := z2.below b3)
          | ((with_reducible refine (L2.out w3).mono ?_); rintro e w4 ⟨rfl, b4⟩; have z12 := z1.below b4))
        | (go_at_call 40; (with_reducible refine (LC.out _).mono ?_); rintro e w5 ⟨rfl, rfl⟩))
    all_goals
      have k12 := z12.keep
      go_wp2
      go_ret2
      exact ⟨rfl, z12.bl⟩
  · cases hs
end Go.Proofs.YtkanddmihmdagaaGreatDoor.Dc

/- Layer 5: dec.Cmp, joined: how two finite ones stand; two of a class. -/
set_option linter.unusedSimpArgs false
set_option linter.unusedVariables false
namespace Go.Proofs.YtkanddmihmdagaaGreatDoor.Dc
open Go.RowKit Go.Proofs.YtkanddmihmdagaaGreatDoor.Dig Go.Proofs.YtkanddmihmdagaaGreatDoor.W Go.Proofs.YtkanddmihmdagaaGreatDoor.Nat Go.Proofs.YtkanddmihmdagaaGreatDoor.Wh Go.Proofs.YtkanddmihmdagaaGreatDoor.Td Go.Proofs.YtkanddmihmdagaaGreatDoor.Bu Go.Proofs.YtkanddmihmdagaaGreatDoor.Tx Go.Proofs.YtkanddmihmdagaaGreatDoor.Sp Go.Proofs.YtkanddmihmdagaaGreatDoor.Rd

theorem may_ok {g : Bool} {l : List UInt8} {x : Int} (h : mayB 0 g l x = true) (e : Int) (he : l ≠ [] → e ≤ x) : Ok l x e := by
  by_cases hl : l = []
  · exact .inl hl
  · obtain ⟨_, hF, hf⟩ := may_str h hl
    exact .inr ⟨hF, hf, he hl⟩
theorem emp_iff (l : List UInt8) : (⟨l.toArray⟩ : ByteArray).toList.isEmpty = decide (l = []) ∧ ((⟨l.toArray⟩ : ByteArray).toList == []) = decide (l = []) := by
  rw [toL]
  cases l with
  | nil => exact ⟨rfl, rfl⟩
  | cons a r => exact ⟨rfl, rfl⟩
theorem amt_zero {l : List UInt8} {x e : Int} (h : Ok l x e) : amt l x e = 0 ↔ l = [] := by
  rcases h with rfl | ⟨hF, _, _⟩
  · simp [amt_nil]
  · have := amt_pos (x := x) (e := e) hF
    have := hF.ne
    constructor
    · intro k; omega
    · intro k; exact absurd k this
/-- how two finite ones stand -/
theorem cmp_fin (g g' : Bool) (l m : List UInt8) (x y e : Int) (w : World) (h1 : mayB 0 g l x = true) (h2 : mayB 0 g' m y = true) (hx : l ≠ [] → e ≤ x) (hy : m ≠ [] → e ≤ y) :
    Calls Tryz.prog 22 #[.agg (dec 0 g l x), .agg (dec 0 g' m y)] w fun z w' => z = .returned (.tuple #[.int .i64 (order (sv g (amt l x e)) (sv g' (amt m y e))), .int .i64 0]) ∧ Below w.heap.size w w' := by
  have o1 := may_ok h1 e hx
  have o2 := may_ok h2 e hy
  have M1 := fun w1 => dmay_calls 0 g l x w1 (by have := o1.len; omega)
  have M2 := fun w1 => dmay_calls 0 g' m y w1 (by have := o2.len; omega)
  rw [h1] at M1
  rw [h2] at M2
  have K1 := fun w1 => key_calls 0 g ⟨l.toArray⟩ x w1
  have K2 := fun w1 => key_calls 0 g' ⟨m.toArray⟩ y w1
  rw [show keyV 0 g = 0 from rfl] at K1
  rw [show keyV 0 g' = 0 from rfl] at K2
  have KC := fun w1 => comp_int 0 0 w1
  rw [show Lib.compareInt 0 0 = 0 from rfl] at KC
  obtain ⟨e1, e2⟩ := emp_iff l
  obtain ⟨i1, i2⟩ := emp_iff m
  by_cases hl : l = []
  · by_cases hm : m = []
    · have er : order (sv g (amt l x e)) (sv g' (amt m y e)) = 0 := by
        rw [(amt_zero o1).2 hl, (amt_zero o2).2 hm]
        cases g <;> cases g' <;> rfl
      rw [er]
      rw [decide_eq_true hl] at e1 e2
      rw [decide_eq_true hm] at i1 i2
      exact cmp_zero g g' ⟨l.toArray⟩ ⟨m.toArray⟩ x y 0 0 w e1 e2 i1 i2 M1 M2 K1 K2 KC
    · exact main o1 o2 M1 M2 K1 K2 KC e1 e2 i1 i2 (by rw [decide_eq_false hm, Bool.and_false])
  · exact main o1 o2 M1 M2 K1 K2 KC e1 e2 i1 i2 (by rw [decide_eq_false hl, Bool.false_and])
where
  main {g g' : Bool} {l m : List UInt8} {x y e : Int} {w : World} (o1 : Ok l x e) (o2 : Ok m y e)
      (M1 : ∀ w1, Calls Tryz.prog 14 #[.agg (dec 0 g l x)] w1 fun e w' => e = .returned (.bool true) ∧ Below w1.heap.size w1 w')
      (M2 : ∀ w1, Calls Tryz.prog 14 #[.agg (dec 0 g' m y)] w1 fun e w' => e = .returned (.bool true) ∧ Below w1.heap.size w1 w')
      (K1 : ∀ w1, Calls Tryz.prog 41 #[.agg (dec 0 g l x)] w1 fun e w' => e = .returned (.int .i64 0) ∧ Below w1.heap.size w1 w')
      (K2 : ∀ w1, Calls Tryz.prog 41 #[.agg (dec 0 g' m y)] w1 fun e w' => e = .returned (.int .i64 0) ∧ Below w1.heap.size w1 w')
      (KC : ∀ w1, Calls Tryz.prog 40 #[.int .i64 0, .int .i64 0] w1 fun e w' => e = .returned (.int .i64 0) ∧ w' = w1)
      (e1 : (⟨l.toArray⟩ : ByteArray).toList.isEmpty = decide (l = [])) (e2 : ((⟨l.toArray⟩ : ByteArray).toList == []) = decide (l = []))
      (i1 : (⟨m.toArray⟩ : ByteArray).toList.isEmpty = decide (m = [])) (i2 : ((⟨m.toArray⟩ : ByteArray).toList == []) = decide (m = [])) (hs : (decide (l = []) && decide (m = [])) = false) :
      Calls Tryz.prog 22 #[.agg (dec 0 g l x), .agg (dec 0 g' m y)] w fun z w' => z = .returned (.tuple #[.int .i64 (order (sv g (amt l x e)) (sv g' (amt m y e))), .int .i64 0]) ∧ Below w.heap.size w w' := by
    have hpos : amt l x e ≠ 0 ∨ amt m y e ≠ 0 := by
      by_cases hl : l = []
      · right
        intro k
        rw [decide_eq_true hl, decide_eq_true ((amt_zero o2).1 k)] at hs
        cases hs
      · left
        intro k
        exact hl ((amt_zero o1).1 k)
    cases g <;> cases g'
    · rw [order_pos]
      exact cmp_pp ⟨l.toArray⟩ ⟨m.toArray⟩ x y 0 0 w _ _ hs e1 e2 i1 i2 _ (fun w1 => amounts_calls false false l m x y e w1 o1 o2) M1 M2 K1 K2 KC
    · have er : order (sv false (amt l x e)) (sv true (amt m y e)) = 1 := by
        unfold order sv
        simp only [Bool.false_eq_true, if_false, if_true]
        rw [if_neg (by omega), if_neg (by omega)]
      rw [er]
      exact cmp_pn ⟨l.toArray⟩ ⟨m.toArray⟩ x y 0 0 w _ _ hs e1 e2 i1 i2 M1 M2 K1 K2 KC
    · have er : order (sv true (amt l x e)) (sv false (amt m y e)) = -1 := by
        unfold order sv
        simp only [Bool.false_eq_true, if_false, if_true]
        rw [if_pos (by omega)]
      rw [er]
      exact cmp_np ⟨l.toArray⟩ ⟨m.toArray⟩ x y 0 0 w _ _ hs e1 e2 i1 i2 M1 M2 K1 K2 KC
    · rw [order_neg]
      exact cmp_nn ⟨l.toArray⟩ ⟨m.toArray⟩ x y 0 0 w _ _ hs e1 e2 i1 i2 _ (fun w1 => amounts_calls true true m l y x e w1 o2 o1) M1 M2 K1 K2 KC
/-- two that are not both finite: by their classes alone -/
theorem cmp_cls (c c' : Int) (g g' : Bool) (l m : List UInt8) (x y : Int) (w : World) (h1 : mayB c g l x = true) (h2 : mayB c' g' m y = true) (hl : l.length ≤ 100000) (hm : m.length ≤ 100000) (hc : Lib.compareInt (keyV c g) (keyV c' g') ≠ 0 ∨ c ≠ 0) :
    Calls Tryz.prog 22 #[.agg (dec c g l x), .agg (dec c' g' m y)] w fun z w' => z = .returned (.tuple #[.int .i64 (Lib.compareInt (keyV c g) (keyV c' g')), .int .i64 0]) ∧ Below w.heap.size w w' := by
  have M1 := fun w1 => dmay_calls c g l x w1 (by omega)
  have M2 := fun w1 => dmay_calls c' g' m y w1 (by omega)
  rw [h1] at M1
  rw [h2] at M2
  exact cmp_key c c' g g' ⟨l.toArray⟩ ⟨m.toArray⟩ x y (keyV c g) (keyV c' g') _ w hc M1 M2 (fun w1 => key_calls c g _ x w1) (fun w1 => key_calls c' g' _ y w1) (fun w1 => comp_int _ _ w1)
end Go.Proofs.YtkanddmihmdagaaGreatDoor.Dc

/- Layer 5: dec.Neg. -/
set_option linter.unusedSimpArgs false
set_option linter.unusedVariables false
namespace Go.Proofs.YtkanddmihmdagaaGreatDoor.Dc
open Go.RowKit Go.Proofs.YtkanddmihmdagaaGreatDoor.Dig Go.Proofs.YtkanddmihmdagaaGreatDoor.W Go.Proofs.YtkanddmihmdagaaGreatDoor.Nat Go.Proofs.YtkanddmihmdagaaGreatDoor.Wh Go.Proofs.YtkanddmihmdagaaGreatDoor.Td Go.Proofs.YtkanddmihmdagaaGreatDoor.Bu Go.Proofs.YtkanddmihmdagaaGreatDoor.Tx Go.Proofs.YtkanddmihmdagaaGreatDoor.Sp Go.Proofs.YtkanddmihmdagaaGreatDoor.Rd

/-- the other sign -/
def ngG (c : Int) (g : Bool) : Bool := !g && !(c == 2)
def ngV (c : Int) (g : Bool) (l : List UInt8) (x : Int) : Array Value × Int := if mayB c g l x = false then (dec 0 false [] 0, 52) else (dec c (ngG c g) l x, 0)
theorem TV.setA {w W : World} {a0 a1 a2 a3 : Value} (h : TV w W a0 a1 a2 a3) (v : Value) : TV w (W.setCell ⟨w.heap.size, 1, none⟩ v) a0 v a2 a3 :=
  ⟨(h.a.set 1 v).cast rfl, h.r.far v (by show w.heap.size + 1 ≠ w.heap.size; omega), h.bl.setCell (Nat.le_refl _) v⟩
set_option maxHeartbeats 8000000 in
set_option maxRecDepth 100000 in
theorem neg_calls (c : Int) (g : Bool) (l : List UInt8) (x : Int) (w : World) (hl : l.length ≤ 9223372036854775807) :
    Calls Tryz.prog 24 #[.agg (dec c g l x)] w (Res w (ngV c g l x)) := by
  have T := TV.start w (.int .i64 c) (.bool g) (.string ⟨l.toArray⟩) (.int .i64 x)
  have HT := Lib.hid T
  have HM := Lib.hid (fun w1 => dmay_calls c g l x w1 hl)
  unfold ngV Res
  cases hm : mayB c g l x
  · rw [if_pos rfl]
    rw [hm] at HM
    unfold dec str at *
    dsimp only
    generalize (⟨l.toArray⟩ : ByteArray) = S at *
    clear T
    go_enter Tryz.func24, Tryz.ntmps24
    go_wp2_with (go_at_call 14; (with_reducible refine (HM.out _).mono ?_); rintro e w1 ⟨rfl, b1⟩; have x1 := HT.out.below b1; have k1 := x1.keep; have q1 := x1.res)
    obtain ⟨z1, z2⟩ := x1.ret (.int .i64 0) (.bool false) (.string ⟨#[]⟩) (.int .i64 0)
    exact bodyPost_ret (res_bk_t rfl _ z1 rfl Tryz.underlying23 rfl (by kernel_rfl)) rfl ⟨rfl, z2⟩
  · rw [if_neg (by decide)]
    rw [hm] at HM
    unfold ngG
    unfold dec str at *
    dsimp only
    generalize (⟨l.toArray⟩ : ByteArray) = S at *
    clear T
    cases hc : (c == 2)
    · have hc' : ¬ c = 2 := beq_eq_false_iff_ne.1 hc
      have hcn : (c != 2) = true := by simp [bne, hc]
      cases g
      · go_enter Tryz.func24, Tryz.ntmps24
        go_wp2_with (go_at_call 14; (with_reducible refine (HM.out _).mono ?_); rintro e w1 ⟨rfl, b1⟩; have x1 := HT.out.below b1; have k1 := x1.keep; have fa := x1.a.fr 1; have x2 := x1.setA (.bool true); have k2 := x2.keep; have q2 := x2.res)
        obtain ⟨z1, z2⟩ := x2.ret (.int .i64 c) (.bool true) (.string S) (.int .i64 x)
        exact bodyPost_ret (res_bk_t rfl _ z1 rfl Tryz.underlying23 rfl (by kernel_rfl)) rfl ⟨rfl, z2⟩
      · go_enter Tryz.func24, Tryz.ntmps24
        go_wp2_with (go_at_call 14; (with_reducible refine (HM.out _).mono ?_); rintro e w1 ⟨rfl, b1⟩; have x1 := HT.out.below b1; have k1 := x1.keep; have fa := x1.a.fr 1; have x2 := x1.setA (.bool false); have k2 := x2.keep; have q2 := x2.res)
        obtain ⟨z1, z2⟩ := x2.ret (.int .i64 c) (.bool false) (.string S) (.int .i64 x)
        exact bodyPost_ret (res_bk_t rfl _ z1 rfl Tryz.underlying23 rfl (by kernel_rfl)) rfl ⟨rfl, z2⟩
    · have hc' : c = 2 := beq_iff_eq.1 hc
      subst hc'
      cases g
      · go_enter Tryz.func24, Tryz.ntmps24
        go_wp2_with (go_at_call 14; (with_reducible refine (HM.out _).mono ?_); rintro e w1 ⟨rfl, b1⟩; have x1 := HT.out.below b1; have k1 := x1.keep; have fa := x1.a.fr 1; have x2 := x1.setA (.bool false); have k2 := x2.keep; have q2 := x2.res)
        obtain ⟨z1, z2⟩ := x2.ret (.int .i64 2) (.bool false) (.string S) (.int .i64 x)
        exact bodyPost_ret (res_bk_t rfl _ z1 rfl Tryz.underlying23 rfl (by kernel_rfl)) rfl ⟨rfl, z2⟩
      · go_enter Tryz.func24, Tryz.ntmps24
        go_wp2_with (go_at_call 14; (with_reducible refine (HM.out _).mono ?_); rintro e w1 ⟨rfl, b1⟩; have x1 := HT.out.below b1; have k1 := x1.keep; have fa := x1.a.fr 1; have x2 := x1.setA (.bool false); have k2 := x2.keep; have q2 := x2.res)
        obtain ⟨z1, z2⟩ := x2.ret (.int .i64 2) (.bool false) (.string S) (.int .i64 x)
        exact bodyPost_ret (res_bk_t rfl _ z1 rfl Tryz.underlying23 rfl (by kernel_rfl)) rfl ⟨rfl, z2⟩
theorem ngV_four (c : Int) (g : Bool) (l : List UInt8) (x : Int) : ∃ c4 g4 l4 x4, (ngV c g l x).1 = #[.int .i64 c4, .bool g4, .string l4, .int .i64 x4] := by
  unfold ngV
  split
  · exact ⟨_, _, _, _, rfl⟩
  · exact ⟨_, _, _, _, rfl⟩
/-- the mode that changes places -/
def oth (mode : Int) : Int := if mode = 0 then 1 else if mode = 1 then 0 else mode
theorem may_ng {c : Int} {g : Bool} {l : List UInt8} {x : Int} (h : mayB c g l x = true) : mayB c (ngG c g) l x = true := by
  rw [mayB_iff] at h ⊢
  unfold ngG
  rcases h with ⟨h1, h2, h3⟩ | ⟨h1, h2, h3⟩
  · refine .inl ⟨h1, h2, ?_⟩
    rcases h3 with rfl | rfl | ⟨rfl, rfl⟩
    · exact .inl rfl
    · exact .inr (.inl rfl)
    · exact .inr (.inr ⟨rfl, rfl⟩)
  · exact .inr ⟨h1, h2, h3⟩
theorem oc_err {g g' : Bool} {o : Option (List UInt8 × Int)} (h : oe o ≠ 0) : oc g o = oc g' o := by
  cases o with
  | none => rfl
  | some p => exact absurd rfl h
/-- what RoundSigns asks -/
theorem signs_plain {c : Int} {g : Bool} {l : List UInt8} {x place mode : Int} (h : mayB c g l x = true) :
    (atV c (ngG c g) l x place (oth mode)).2 = (atV c g l x place mode).2 ∧
    ((atV c g l x place mode).2 = 0 → ∃ c1 g1 l1 x1, (atV c g l x place mode).1 = dec c1 g1 l1 x1 ∧ mayB c1 g1 l1 x1 = true ∧ (atV c (ngG c g) l x place (oth mode)).1 = dec c1 (ngG c1 g1) l1 x1) := by
  have h' := may_ng h
  have ho : (oth mode < 0 ∨ 8 ≤ oth mode) ↔ (mode < 0 ∨ 8 ≤ mode) := by unfold oth; split; omega; split <;> omega
  have ka : ∀ m, askE true m = if m < 0 ∨ 8 ≤ m then 60 else 0 := fun m => by unfold askE; rw [if_neg (by decide)]
  have ha : askE true (oth mode) = askE true mode := by rw [ka, ka]; simp only [ho]
  unfold atV
  rw [h, h', ha]
  by_cases e0 : askE true mode ≠ 0
  · rw [if_pos e0, if_pos e0]
    exact ⟨rfl, fun k => absurd k e0⟩
  · rw [if_neg e0, if_neg e0]
    by_cases hp : place < -4000 ∨ 4000 < place
    · rw [if_pos hp, if_pos hp]
      exact ⟨rfl, fun k => by cases k⟩
    · rw [if_neg hp, if_neg hp]
      unfold fin
      by_cases hl : l = []
      · rw [if_pos hl, if_pos hl]
        exact ⟨rfl, fun _ => ⟨c, g, l, x, rfl, h, rfl⟩⟩
      · rw [if_neg hl, if_neg hl]
        obtain ⟨rfl, hF, hf⟩ := may_str h hl
        have hm : ¬ (mode < 0 ∨ 8 ≤ mode) := by
          intro k
          apply e0
          unfold askE
          rw [if_neg (by decide), if_pos k]
          decide
        have e1 : (oth mode).toNat = if mode.toNat = 0 then 1 else if mode.toNat = 1 then 0 else mode.toNat := by
          unfold oth
          by_cases m0 : mode = 0
          · rw [if_pos m0, if_pos (by omega)]; rfl
          · by_cases m1 : mode = 1
            · rw [if_neg m0, if_pos m1, if_neg (by omega), if_pos (by omega)]; rfl
            · rw [if_neg m0, if_neg m1, if_neg (by omega), if_neg (by omega)]
        have e2 : ngG 0 g = !g := by cases g <;> rfl
        have e3 : pw (oth mode).toNat (!g) l x place = pw mode.toNat g l x place := by
          unfold pw
          rw [e1, rto_turn (by omega)]
          rfl
        rw [e2, e3]
        refine ⟨rfl, fun k => ?_⟩
        cases ho' : pw mode.toNat g l x place with
        | none => rw [ho'] at k; cases k
        | some p =>
          have hmy := told_may (g := g) (l := p.1) (x := p.2) (show told g (rto mode.toNat g (nv 0 l) x 1 place) place = some (p.1, p.2) from ho')
          exact ⟨0, g, p.1, p.2, rfl, (mayB_iff ..).2 hmy, by rw [e2]; rfl⟩
end Go.Proofs.YtkanddmihmdagaaGreatDoor.Dc
