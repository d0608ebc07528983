/- Texts of one layer, joined: Ep, Em, Eq, Er, Eg, En, Ej, Ek, El, Eu, Ev, Ex, Ei. -/
import Derived.Test.YtfddokfnplehkaaGreatDoorGP
import Derived.WalkLawsBesides
import Derived.Test.YtfddokfnplehkaaGreatDoorGM
import Derived.Test.YtfddokfnplehkaaGreatDoorGO
import Derived.Test.YtfddokfnplehkaaGreatDoorGD
set_option linter.unusedVariables false
set_option linter.unusedSimpArgs false
set_option linter.unusedSectionVars false
/- Layer 5: how two stand: cmp.Compare, cmp.Or; dec.key, amounts. -/
set_option linter.unusedSimpArgs false
set_option linter.unusedVariables false
namespace Go.Proofs.YtfddokfnplehkaaGreatDoor.Dc
open Go.RowKit Go.Proofs.YtfddokfnplehkaaGreatDoor.Dig Go.Proofs.YtfddokfnplehkaaGreatDoor.W Go.Proofs.YtfddokfnplehkaaGreatDoor.Nat Go.Proofs.YtfddokfnplehkaaGreatDoor.Wh Go.Proofs.YtfddokfnplehkaaGreatDoor.Td Go.Proofs.YtfddokfnplehkaaGreatDoor.Bu Go.Proofs.YtfddokfnplehkaaGreatDoor.Tx Go.Proofs.YtfddokfnplehkaaGreatDoor.Sp Go.Proofs.YtfddokfnplehkaaGreatDoor.Rd

theorem isnan_str (s : ByteArray) (w : World) : Calls Tryz.prog 158 #[.string s] w fun e w' => e = .returned (.bool false) ∧ w = w' := by
  go_enter Tryz.func158, Tryz.ntmps158
  go_wp2
  go_ret
  exact ⟨rfl, rfl⟩
/-- how two texts stand -/
def cmpS (s t : List UInt8) : Int := if Go.Op.bytesLess s t then -1 else if s == t then 0 else 1
theorem comp_str (s t : List UInt8) (w : World) :
    Calls Tryz.prog 127 #[.string ⟨s.toArray⟩, .string ⟨t.toArray⟩] w fun e w' => e = .returned (.int .i64 (cmpS s t)) ∧ w' = w := by
  unfold cmpS
  cases h1 : Go.Op.bytesLess s t <;> cases h2 : s == t
  all_goals
    go_enter Tryz.func127, Tryz.ntmps127
    go_wp2_with (go_at_call 158; (with_reducible refine (isnan_str _ _).mono ?_); rintro e w1 ⟨rfl, rfl⟩)
    go_ret
    exact ⟨rfl, rfl⟩
theorem comp_int (x y : Int) (w : World) : Calls Tryz.prog 103 #[.int .i64 x, .int .i64 y] w fun e w' => e = .returned (.int .i64 (Lib.compareInt x y)) ∧ w' = w := Tryz.cmp_Compare_int x y w
/-- the first that is not nought -/
theorem or_calls (b : Nat) (c1 c2 r : Int) (hr : (c1 ≠ 0 ∧ r = c1) ∨ (c1 = 0 ∧ r = c2)) (w : World) (h1 : w.cell? ⟨b, 0, none⟩ = some (.int .i64 c1)) (h2 : w.cell? ⟨b, 1, none⟩ = some (.int .i64 c2)) :
    Calls Tryz.prog 150 #[.slice (some ⟨b, 0, none⟩) 2 2] w fun e w' => e = .returned (.int .i64 r) ∧ w' = w := by
  rcases hr with ⟨k, rfl⟩ | ⟨rfl, rfl⟩
  · have kb := eqB k
    go_enter Tryz.func150, Tryz.ntmps150
    go_wp2
    go_loop [5, 8] (fun v z => z = .int .i64 0) (fun _ z => 2 - (intOf z).toNat)
    case atStart => exact rfl
    case round =>
      subst hrel
      go_wp2
      go_ret
      exact ⟨rfl, rfl⟩
  · go_enter Tryz.func150, Tryz.ntmps150
    go_wp2
    go_loop [5, 8] (fun v z => z = .int .i64 0 ∨ z = .int .i64 1 ∨ (z = .int .i64 2 ∧ Hid (r = 0))) (fun _ z => 2 - (intOf z).toNat)
    case atStart => exact .inl rfl
    case round =>
      rcases hrel with rfl | rfl | ⟨rfl, hr⟩
      · go_wp2
        go_round
        case rel => exact .inr (.inl rfl)
        case measure => decide
      · by_cases k : r = 0
        · have K := Lib.hid k
          have kb : (r == 0) = true := beq_iff_eq.2 k
          go_wp2
          go_round
          case rel => exact .inr (.inr ⟨rfl, K⟩)
          case measure => decide
        · have kb := eqB k
          go_wp2
          go_ret
          exact ⟨rfl, rfl⟩
      · go_wp2
        go_ret
        exact ⟨by rw [hr.out]; rfl, rfl⟩
/-- of a class in the order -/
def keyV (c : Int) (g : Bool) : Int := if c = 2 then 2 else if c = 0 then 0 else if g then -1 else 1
theorem key_calls (c : Int) (g : Bool) (S : ByteArray) (x : Int) (w : World) :
    Calls Tryz.prog 104 #[.agg #[.int .i64 c, .bool g, .string S, .int .i64 x]] w fun e w' => e = .returned (.int .i64 (keyV c g)) ∧ Below w.heap.size w w' := by
  have HB := Lib.hid (alloc_below w (.cells #[.int .i64 c, .bool g, .string S, .int .i64 x] 23))
  unfold keyV
  by_cases h1 : c = 2
  · subst h1
    rw [if_pos rfl]
    go_enter Tryz.func104, Tryz.ntmps104
    go_wp2
    go_ret
    exact ⟨rfl, HB.out⟩
  · rw [if_neg h1]
    have e1 := eqB h1
    by_cases h2 : c = 0
    · subst h2
      rw [if_pos rfl]
      go_enter Tryz.func104, Tryz.ntmps104
      go_wp2
      go_ret
      exact ⟨rfl, HB.out⟩
    · rw [if_neg h2]
      have e2 := eqB h2
      cases g
      · go_enter Tryz.func104, Tryz.ntmps104
        go_wp2
        go_ret
        exact ⟨rfl, HB.out⟩
      · go_enter Tryz.func104, Tryz.ntmps104
        go_wp2
        go_ret
        exact ⟨rfl, HB.out⟩
/-- two boxes of a Dec each -/
structure T8 (w W : World) (cs ds : Array Value) : Prop where
  a : Bk W w.heap.size 23 cs
  b : Bk W (w.heap.size + 1) 23 ds
  bl : Below w.heap.size w W
section
variable {w W W' : World} {cs ds : Array Value} {a0 a1 a2 a3 b0 b1 b2 b3 : Value}
theorem T8.start (w : World) (cs ds : Array Value) : T8 w ((w.alloc (.cells cs 23)).alloc (.cells ds 23)) cs ds := by
  obtain ⟨h1, h2, h3⟩ := bk_two w cs ds 23 23
  exact ⟨h1, h2, h3⟩
theorem T8.below (h : T8 w W cs ds) (hb : Below W.heap.size W W') : T8 w W' cs ds := ⟨h.a.below hb, h.b.below hb, on h.bl hb⟩
theorem T8.drew (h : T8 w W cs ds) : T8 w W.drew cs ds := ⟨h.a.drew, h.b.drew, h.bl.drew⟩
theorem T8.alloc (h : T8 w W cs ds) (o : Obj) : T8 w (W.alloc o) cs ds := h.below (alloc_below _ _)
theorem T8.keep (h : T8 w W #[a0, a1, a2, a3] #[b0, b1, b2, b3]) : W.cell? ⟨w.heap.size, 0, none⟩ = some a0 ∧ W.cell? ⟨w.heap.size, 1, none⟩ = some a1 ∧ W.cell? ⟨w.heap.size, 2, none⟩ = some a2 ∧ W.cell? ⟨w.heap.size, 3, none⟩ = some a3 ∧
  W.cell? ⟨w.heap.size + 1, 0, none⟩ = some b0 ∧ W.cell? ⟨w.heap.size + 1, 1, none⟩ = some b1 ∧ W.cell? ⟨w.heap.size + 1, 2, none⟩ = some b2 ∧ W.cell? ⟨w.heap.size + 1, 3, none⟩ = some b3 := ⟨h.a.at_ 0 rfl, h.a.at_ 1 rfl, h.a.at_ 2 rfl, h.a.at_ 3 rfl, h.b.at_ 0 rfl, h.b.at_ 1 rfl, h.b.at_ 2 rfl, h.b.at_ 3 rfl⟩
end
set_option maxHeartbeats 16000000 in
set_option maxRecDepth 100000 in
theorem amounts_some (c c' : Int) (g g' : Bool) (l m : List UInt8) (x y px py r : Int) (hr : (Lib.compareInt px py ≠ 0 ∧ r = Lib.compareInt px py) ∨ (Lib.compareInt px py = 0 ∧ r = cmpS l m)) (w : World) (hl : 0 < l.length) (hm : 0 < m.length)
    (H1 : ∀ w1, Calls Tryz.prog 93 #[.agg (dec c g l x)] w1 fun e w' => e = .returned (.int .i64 px) ∧ Below w1.heap.size w1 w')
    (H2 : ∀ w1, Calls Tryz.prog 93 #[.agg (dec c' g' m y)] w1 fun e w' => e = .returned (.int .i64 py) ∧ Below w1.heap.size w1 w') :
    Calls Tryz.prog 105 #[.agg (dec c g l x), .agg (dec c' g' m y)] w fun e w' => e = .returned (.int .i64 r) ∧ Below w.heap.size w w' := by
  have T := T8.start w #[.int .i64 c, .bool g, .string ⟨l.toArray⟩, .int .i64 x] #[.int .i64 c', .bool g', .string ⟨m.toArray⟩, .int .i64 y]
  have HS := Lib.hid (fun w1 => comp_str l m w1)
  rw [← size_of l] at hl
  rw [← size_of m] at hm
  obtain ⟨e1, e2⟩ := emp hl
  obtain ⟨i1, i2⟩ := emp hm
  have HI := Lib.hid (fun w1 => comp_int px py w1)
  unfold dec str at *
  have G1 := Lib.hid H1
  have G2 := Lib.hid H2
  generalize cmpS l m = c2 at *
  generalize Lib.compareInt px py = c1 at *
  generalize (⟨l.toArray⟩ : ByteArray) = S at *
  generalize (⟨m.toArray⟩ : ByteArray) = S' at *
  obtain ⟨V, hV⟩ : ∃ V, V = ((w.alloc (.cells #[.int .i64 c, .bool g, .string S, .int .i64 x] 23)).alloc (.cells #[.int .i64 c', .bool g', .string S', .int .i64 y] 23)) := ⟨_, rfl⟩
  rw [← hV] at T
  have HV := Lib.hid hV
  have z0 := T.drew
  have HR := Lib.hid hr
  clear H1 H2 hV hl hm T hr
  go_enter Tryz.func105, Tryz.ntmps105
  go_wp2
  rw [← HV.out]
  go_region_held3 (fun w' => w'.cell? ⟨w.heap.size, 0, none⟩ = some (.int .i64 c) ∧ w'.cell? ⟨w.heap.size, 1, none⟩ = some (.bool g) ∧ w'.cell? ⟨w.heap.size, 2, none⟩ = some (.string S) ∧ w'.cell? ⟨w.heap.size, 3, none⟩ = some (.int .i64 x) ∧ w'.cell? ⟨w.heap.size + 1, 0, none⟩ = some (.int .i64 c') ∧ w'.cell? ⟨w.heap.size + 1, 1, none⟩ = some (.bool g') ∧ w'.cell? ⟨w.heap.size + 1, 2, none⟩ = some (.string S') ∧ w'.cell? ⟨w.heap.size + 1, 3, none⟩ = some (.int .i64 y))
    (first
      | (with_reducible exact z0.keep)
      | (with_reducible exact z12.keep)
      | (with_reducible exact z1.keep)
      | (with_reducible exact z2.keep)
      | (with_reducible exact zb.keep))
    (first
      | (go_at_call 93; first
        | ((with_reducible refine (G1.out V.drew).mono ?_); rintro e w1 ⟨rfl, b1⟩; have z1 := z0.below b1)
        | ((with_reducible refine (G2.out V.drew).mono ?_); rintro e w2 ⟨rfl, b2⟩; have z2 := z0.below b2)
        | ((with_reducible refine (G1.out w2).mono ?_); rintro e w1 ⟨rfl, b1⟩; have z12 := z2.below b1; have zb := z12.alloc (.cells #[.int .i64 c1, .int .i64 c2] 3); have sb := Bk.start w1 3 #[.int .i64 c1, .int .i64 c2]; have s0 := sb.at_ 0 rfl; have s1 := sb.at_ 1 rfl)
        | ((with_reducible refine (G2.out w1).mono ?_); rintro e w2 ⟨rfl, b2⟩; have z12 := z1.below b2; have zb := z12.alloc (.cells #[.int .i64 c1, .int .i64 c2] 3); have sb := Bk.start w2 3 #[.int .i64 c1, .int .i64 c2]; have s0 := sb.at_ 0 rfl; have s1 := sb.at_ 1 rfl))
      | (go_at_call 103; (with_reducible refine (HI.out _).mono ?_); rintro e w3 ⟨rfl, rfl⟩)
      | (go_at_call 127; (with_reducible refine (HS.out _).mono ?_); rintro e w3 ⟨rfl, rfl⟩)
      | (go_at_call 150; (with_reducible refine (or_calls _ c1 c2 r HR.out _ s0 s1).mono ?_); rintro e w3 ⟨rfl, rfl⟩))
  all_goals
    go_wp2
    go_ret
    exact ⟨rfl, zb.bl⟩
end Go.Proofs.YtfddokfnplehkaaGreatDoor.Dc

/- Layer 6's laws: where nothing is refused. -/
set_option linter.unusedSimpArgs false
set_option linter.unusedVariables false
namespace Go.Proofs.YtfddokfnplehkaaGreatDoor.Dc
open Go.RowKit Go.Proofs.YtfddokfnplehkaaGreatDoor.Dig Go.Proofs.YtfddokfnplehkaaGreatDoor.W Go.Proofs.YtfddokfnplehkaaGreatDoor.Nat Go.Proofs.YtfddokfnplehkaaGreatDoor.Wh Go.Proofs.YtfddokfnplehkaaGreatDoor.Td Go.Proofs.YtfddokfnplehkaaGreatDoor.Bu Go.Proofs.YtfddokfnplehkaaGreatDoor.Tx Go.Proofs.YtfddokfnplehkaaGreatDoor.Sp Go.Proofs.YtfddokfnplehkaaGreatDoor.Rd

theorem ask_ok {m : Bool} {mode : Int} (h : m = true) (h0 : 0 ≤ mode) (h1 : mode < 8) : askE m mode = 0 := by unfold askE; rw [h, if_neg (by decide), if_neg (by omega)]
theorem atV_ok {c : Int} {g : Bool} {l : List UInt8} {x place mode : Int} (hm : mayB c g l x = true) (h0 : 0 ≤ mode) (h1 : mode < 8) (hp : -4000 ≤ place ∧ place ≤ 4000) : atV c g l x place mode = fin mode c g l x place := by
  unfold atV; rw [ask_ok hm h0 h1, if_neg (by decide), if_neg (by omega)]
theorem dgV_ok {c : Int} {g : Bool} {l : List UInt8} {x n mode : Int} (hm : mayB c g l x = true) (h0 : 0 ≤ mode) (h1 : mode < 8) (hn : 1 ≤ n) (hn2 : n ≤ 1000) : dgV c g l x n mode = fin mode c g l x ((l.length : Int) + x - n) := by
  unfold dgV; rw [ask_ok hm h0 h1, if_neg (by decide), if_neg (by omega)]
theorem stV_ok {c : Int} {g : Bool} {l : List UInt8} {x place mode : Int} (hm : mayB c g l x = true) (h0 : 0 ≤ mode) (h1 : mode < 8) (hp : -1990 ≤ place ∧ place ≤ 1990) : stV c g l x 0 false [49] place mode = fin mode c g l x place := by
  have hF := formed_1
  have hms : mayB 0 false [49] place = true := by
    rw [may_form hF, decide_eq_true]
    refine ⟨by decide, ?_, ?_⟩
    · show -2000 ≤ (1 : Int) + place; omega
    · show (1 : Int) + place ≤ 2000; omega
  unfold stV fin
  rw [hms, if_neg (by decide), ask_ok hm h0 h1, if_neg (by decide), if_neg (by decide)]
  have e1 : nv 0 [49] = 1 := by decide
  rw [e1, Nat.mul_one]
  rfl
theorem fin_nil (mode c : Int) (g : Bool) (x place : Int) : fin mode c g [] x place = (dec c g [] x, 0) := by unfold fin; rw [if_pos rfl]
theorem fin_some {mode c : Int} {g : Bool} {l : List UInt8} {x place : Int} (h : l ≠ []) : fin mode c g l x place = (oc g (pw mode.toNat g l x place), oe (pw mode.toNat g l x place)) := by unfold fin; rw [if_neg h]
end Go.Proofs.YtfddokfnplehkaaGreatDoor.Dc

/- Layer 5: dec.Cmp. -/
set_option linter.unusedSimpArgs false
set_option linter.unusedVariables false
namespace Go.Proofs.YtfddokfnplehkaaGreatDoor.Dc
open Go.RowKit Go.Proofs.YtfddokfnplehkaaGreatDoor.Dig Go.Proofs.YtfddokfnplehkaaGreatDoor.W Go.Proofs.YtfddokfnplehkaaGreatDoor.Nat Go.Proofs.YtfddokfnplehkaaGreatDoor.Wh Go.Proofs.YtfddokfnplehkaaGreatDoor.Td Go.Proofs.YtfddokfnplehkaaGreatDoor.Bu Go.Proofs.YtfddokfnplehkaaGreatDoor.Tx Go.Proofs.YtfddokfnplehkaaGreatDoor.Sp Go.Proofs.YtfddokfnplehkaaGreatDoor.Rd

set_option maxHeartbeats 8000000 in
set_option maxRecDepth 100000 in
theorem amounts_none (c c' : Int) (g g' : Bool) (S S' : ByteArray) (x y : Int) (w : World) (hS : S.size ≤ 1000) (hS' : S'.size ≤ 1000) (h : S.size = 0 ∨ S'.size = 0) :
    Calls Tryz.prog 105 #[.agg #[.int .i64 c, .bool g, .string S, .int .i64 x], .agg #[.int .i64 c', .bool g', .string S', .int .i64 y]] w fun e w' => e = .returned (.int .i64 (Lib.compareInt S.size S'.size)) ∧ Below w.heap.size w w' := by
  have T := T8.start w #[.int .i64 c, .bool g, .string S, .int .i64 x] #[.int .i64 c', .bool g', .string S', .int .i64 y]
  have HI := Lib.hid (fun w1 => comp_int S.size S'.size w1)
  have HB := Lib.hid T.bl
  clear T
  obtain ⟨r, hr⟩ : ∃ r, Lib.compareInt S.size S'.size = r := ⟨_, rfl⟩
  rw [hr] at HI ⊢
  clear hr
  by_cases h1 : S.size = 0
  · have e1 := empty_of h1
    have e2 : (S.toList == []) = true := by
      have := nil_of h1
      rw [Lib.toList_data, this]; rfl
    clear h
    clear h1
    go_enter Tryz.func105, Tryz.ntmps105
    go_wp2_with (go_at_call 103; (with_reducible refine (HI.out _).mono ?_); rintro e w3 ⟨rfl, rfl⟩)
    go_ret
    exact ⟨rfl, HB.out⟩
  · have h2 : S'.size = 0 := h.resolve_left h1
    have e1 := emp (Nat.pos_of_ne_zero h1)
    obtain ⟨e1, e2⟩ := e1
    have i1 := empty_of h2
    have i2 : (S'.toList == []) = true := by
      have := nil_of h2
      rw [Lib.toList_data, this]; rfl
    clear h h1
    clear h2
    go_enter Tryz.func105, Tryz.ntmps105
    go_wp2_with (go_at_call 103; (with_reducible refine (HI.out _).mono ?_); rintro e w3 ⟨rfl, rfl⟩)
    go_ret
    exact ⟨rfl, HB.out⟩
/-- an amount, counted in 10^e -/
def amt (l : List UInt8) (x e : Int) : Nat := nv 0 l * 10 ^ (x - e).toNat
/-- digits that may be: none, or formed ones in their bounds -/
def Ok (l : List UInt8) (x e : Int) : Prop := l = [] ∨ (Formed l ∧ fits l x ∧ e ≤ x)
theorem Ok.len {l : List UInt8} {x e : Int} (h : Ok l x e) : l.length ≤ 1000 := by
  rcases h with rfl | ⟨_, hf, _⟩
  · decide
  · exact hf.1
theorem amt_nil (x e : Int) : amt [] x e = 0 := by unfold amt; rw [nv_nil, Nat.zero_mul]
theorem amt_pos {l : List UInt8} {x e : Int} (h : Formed l) : 0 < amt l x e := Nat.mul_pos h.pos (Nat.pow_pos (by omega))
theorem amounts_calls (g g' : Bool) (l m : List UInt8) (x y e : Int) (w : World) (hl : Ok l x e) (hm : Ok m y e) :
    Calls Tryz.prog 105 #[.agg (dec 0 g l x), .agg (dec 0 g' m y)] w fun z w' => z = .returned (.int .i64 (stand (amt l x e) (amt m y e))) ∧ Below w.heap.size w w' := by
  by_cases h : l = [] ∨ m = []
  · have e1 := amounts_none 0 0 g g' ⟨l.toArray⟩ ⟨m.toArray⟩ x y w (by rw [size_of]; exact hl.len) (by rw [size_of]; exact hm.len) (by
      rcases h with h | h
      · left; rw [size_of, h]; rfl
      · right; rw [size_of, h]; rfl)
    rw [size_of, size_of] at e1
    have e2 : Lib.compareInt l.length m.length = stand (amt l x e) (amt m y e) := by
      unfold Lib.compareInt stand
      rcases hl with rfl | ⟨hF, hf, hx⟩
      · rw [amt_nil]
        rcases hm with rfl | ⟨hF', hf', hy⟩
        · rw [amt_nil]; rfl
        · have k1 := hF'.len
          have k2 := amt_pos (x := y) (e := e) hF'
          rw [if_pos (show ((([] : List UInt8).length : Nat) : Int) < (m.length : Int) by simp; omega), if_pos k2]
      · rcases h with h | rfl
        · exact absurd h hF.ne
        · rw [amt_nil]
          have k1 := hF.len
          have k2 := amt_pos (x := x) (e := e) hF
          rw [if_neg (show ¬ (l.length : Int) < ((([] : List UInt8).length : Nat) : Int) by simp), if_pos (show (l.length : Int) > ((([] : List UInt8).length : Nat) : Int) by simp; omega), if_neg (by omega), if_neg (by omega)]
    rw [e2] at e1
    exact e1
  · have hl' := hl.resolve_left (fun k => h (.inl k))
    have hm' := hm.resolve_left (fun k => h (.inr k))
    obtain ⟨hF, hf, hx⟩ := hl'
    obtain ⟨hF', hf', hy⟩ := hm'
    have e1 := byPlace_stand hF hF' hx hy
    unfold amt
    rw [← e1]
    refine amounts_some 0 0 g g' l m x y ((l.length : Int) + x) ((m.length : Int) + y) _ ?_ w hF.len hF'.len (fun w1 => place_calls g l x w1 hF hf) (fun w1 => place_calls g' m y w1 hF' hf')
    unfold byPlace cmpS Lib.compareInt
    by_cases k1 : (l.length : Int) + x < (m.length : Int) + y
    · simp only [if_pos k1]; exact .inl (by simp)
    · simp only [if_neg k1]
      by_cases k2 : (m.length : Int) + y < (l.length : Int) + x
      · simp only [gt_iff_lt, if_pos k2]; exact .inl (by simp)
      · simp only [gt_iff_lt, if_neg k2]
        exact .inr (by simp)
set_option maxHeartbeats 8000000 in
set_option maxRecDepth 100000 in
theorem cmp_key (c c' : Int) (g g' : Bool) (S S' : ByteArray) (x y k1 k2 cc : Int) (w : World) (hc : cc ≠ 0 ∨ c ≠ 0)
    (M1 : ∀ w1, Calls Tryz.prog 54 #[.agg #[.int .i64 c, .bool g, .string S, .int .i64 x]] w1 fun e w' => e = .returned (.bool true) ∧ Below w1.heap.size w1 w')
    (M2 : ∀ w1, Calls Tryz.prog 54 #[.agg #[.int .i64 c', .bool g', .string S', .int .i64 y]] w1 fun e w' => e = .returned (.bool true) ∧ Below w1.heap.size w1 w')
    (K1 : ∀ w1, Calls Tryz.prog 104 #[.agg #[.int .i64 c, .bool g, .string S, .int .i64 x]] w1 fun e w' => e = .returned (.int .i64 k1) ∧ Below w1.heap.size w1 w')
    (K2 : ∀ w1, Calls Tryz.prog 104 #[.agg #[.int .i64 c', .bool g', .string S', .int .i64 y]] w1 fun e w' => e = .returned (.int .i64 k2) ∧ Below w1.heap.size w1 w')
    (KC : ∀ w1, Calls Tryz.prog 103 #[.int .i64 k1, .int .i64 k2] w1 fun e w' => e = .returned (.int .i64 cc) ∧ w' = w1) :
    Calls Tryz.prog 65 #[.agg #[.int .i64 c, .bool g, .string S, .int .i64 x], .agg #[.int .i64 c', .bool g', .string S', .int .i64 y]] w fun e w' => e = .returned (.tuple #[.int .i64 cc, .int .i64 0]) ∧ Below w.heap.size w w' := by
  have T := T8.start w #[.int .i64 c, .bool g, .string S, .int .i64 x] #[.int .i64 c', .bool g', .string S', .int .i64 y]
  have G1 := Lib.hid M1
  have G2 := Lib.hid M2
  have L1 := Lib.hid K1
  have L2 := Lib.hid K2
  have LC := Lib.hid KC
  have HT := Lib.hid T
  clear M1 M2 K1 K2 KC T
  rcases hc with hc | hc
  · have kc := eqB hc
    go_enter Tryz.func65, Tryz.ntmps65
    go_wp2_with (go_at_call 54; first
      | ((with_reducible refine (G1.out ((w.alloc (.cells #[.int .i64 c, .bool g, .string S, .int .i64 x] 23)).alloc (.cells #[.int .i64 c', .bool g', .string S', .int .i64 y] 23))).mono ?_); rintro e w1 ⟨rfl, b1⟩; have t1 := HT.out.below b1; have q1 := t1.keep)
      | ((with_reducible refine (G2.out w1).mono ?_); rintro e w2 ⟨rfl, b2⟩; have t2 := t1.below b2))
    have z0 := t2.drew
    clear q1
    go_region_held3 (fun w' => w'.cell? ⟨w.heap.size, 0, none⟩ = some (.int .i64 c) ∧ w'.cell? ⟨w.heap.size, 1, none⟩ = some (.bool g) ∧ w'.cell? ⟨w.heap.size, 2, none⟩ = some (.string S) ∧ w'.cell? ⟨w.heap.size, 3, none⟩ = some (.int .i64 x) ∧ w'.cell? ⟨w.heap.size + 1, 0, none⟩ = some (.int .i64 c') ∧ w'.cell? ⟨w.heap.size + 1, 1, none⟩ = some (.bool g') ∧ w'.cell? ⟨w.heap.size + 1, 2, none⟩ = some (.string S') ∧ w'.cell? ⟨w.heap.size + 1, 3, none⟩ = some (.int .i64 y))
      (first
        | (with_reducible exact z0.keep)
        | (with_reducible exact z12.keep)
        | (with_reducible exact z1.keep)
        | (with_reducible exact z2.keep))
      (first
        | (go_at_call 104; first
          | ((with_reducible refine (L1.out w2.drew).mono ?_); rintro e w3 ⟨rfl, b3⟩; have z1 := z0.below b3)
          | ((with_reducible refine (L2.out w2.drew).mono ?_); rintro e w4 ⟨rfl, b4⟩; have z2 := z0.below b4)
          | ((with_reducible refine (L1.out w4).mono ?_); rintro e w3 ⟨rfl, b3⟩; have z12 := z2.below b3)
          | ((with_reducible refine (L2.out w3).mono ?_); rintro e w4 ⟨rfl, b4⟩; have z12 := z1.below b4))
        | (go_at_call 103; (with_reducible refine (LC.out _).mono ?_); rintro e w5 ⟨rfl, rfl⟩))
    all_goals
      have k12 := z12.keep
      go_wp2
      go_ret2
      exact ⟨rfl, z12.bl⟩
  · by_cases hz : cc = 0
    · have kc := eqB hc
      subst hz
      go_enter Tryz.func65, Tryz.ntmps65
      go_wp2_with (go_at_call 54; first
        | ((with_reducible refine (G1.out ((w.alloc (.cells #[.int .i64 c, .bool g, .string S, .int .i64 x] 23)).alloc (.cells #[.int .i64 c', .bool g', .string S', .int .i64 y] 23))).mono ?_); rintro e w1 ⟨rfl, b1⟩; have t1 := HT.out.below b1; have q1 := t1.keep)
        | ((with_reducible refine (G2.out w1).mono ?_); rintro e w2 ⟨rfl, b2⟩; have t2 := t1.below b2))
      have z0 := t2.drew
      clear q1
      go_region_held3 (fun w' => w'.cell? ⟨w.heap.size, 0, none⟩ = some (.int .i64 c) ∧ w'.cell? ⟨w.heap.size, 1, none⟩ = some (.bool g) ∧ w'.cell? ⟨w.heap.size, 2, none⟩ = some (.string S) ∧ w'.cell? ⟨w.heap.size, 3, none⟩ = some (.int .i64 x) ∧ w'.cell? ⟨w.heap.size + 1, 0, none⟩ = some (.int .i64 c') ∧ w'.cell? ⟨w.heap.size + 1, 1, none⟩ = some (.bool g') ∧ w'.cell? ⟨w.heap.size + 1, 2, none⟩ = some (.string S') ∧ w'.cell? ⟨w.heap.size + 1, 3, none⟩ = some (.int .i64 y))
        (first
          | (with_reducible exact z0.keep)
          | (with_reducible exact z12.keep)
          | (with_reducible exact z1.keep)
          | (with_reducible exact z2.keep))
        (first
          | (go_at_call 104; first
            | ((with_reducible refine (L1.out w2.drew).mono ?_); rintro e w3 ⟨rfl, b3⟩; have z1 := z0.below b3)
            | ((with_reducible refine (L2.out w2.drew).mono ?_); rintro e w4 ⟨rfl, b4⟩; have z2 := z0.below b4)
            | ((with_reducible refine (L1.out w4).mono ?_); rintro e w3 ⟨rfl, b3⟩; have z12 := z2.below b3)
            | ((with_reducible refine (L2.out w3).mono ?_); rintro e w4 ⟨rfl, b4⟩; have z12 := z1.below b4))
          | (go_at_call 103; (with_reducible refine (LC.out _).mono ?_); rintro e w5 ⟨rfl, rfl⟩))
      all_goals
        have k12 := z12.keep
        go_wp2
        go_ret2
        exact ⟨rfl, z12.bl⟩
    · have kc := eqB hz
      go_enter Tryz.func65, Tryz.ntmps65
      go_wp2_with (go_at_call 54; first
        | ((with_reducible refine (G1.out ((w.alloc (.cells #[.int .i64 c, .bool g, .string S, .int .i64 x] 23)).alloc (.cells #[.int .i64 c', .bool g', .string S', .int .i64 y] 23))).mono ?_); rintro e w1 ⟨rfl, b1⟩; have t1 := HT.out.below b1; have q1 := t1.keep)
        | ((with_reducible refine (G2.out w1).mono ?_); rintro e w2 ⟨rfl, b2⟩; have t2 := t1.below b2))
      have z0 := t2.drew
      clear q1
      go_region_held3 (fun w' => w'.cell? ⟨w.heap.size, 0, none⟩ = some (.int .i64 c) ∧ w'.cell? ⟨w.heap.size, 1, none⟩ = some (.bool g) ∧ w'.cell? ⟨w.heap.size, 2, none⟩ = some (.string S) ∧ w'.cell? ⟨w.heap.size, 3, none⟩ = some (.int .i64 x) ∧ w'.cell? ⟨w.heap.size + 1, 0, none⟩ = some (.int .i64 c') ∧ w'.cell? ⟨w.heap.size + 1, 1, none⟩ = some (.bool g') ∧ w'.cell? ⟨w.heap.size + 1, 2, none⟩ = some (.string S') ∧ w'.cell? ⟨w.heap.size + 1, 3, none⟩ = some (.int .i64 y))
        (first
          | (with_reducible exact z0.keep)
          | (with_reducible exact z12.keep)
          | (with_reducible exact z1.keep)
          | (with_reducible exact z2.keep))
        (first
          | (go_at_call 104; first
            | ((with_reducible refine (L1.out w2.drew).mono ?_); rintro e w3 ⟨rfl, b3⟩; have z1 := z0.below b3)
            | ((with_reducible refine (L2.out w2.drew).mono ?_); rintro e w4 ⟨rfl, b4⟩; have z2 := z0.below b4)
            | ((with_reducible refine (L1.out w4).mono ?_); rintro e w3 ⟨rfl, b3⟩; have z12 := z2.below b3)
            | ((with_reducible refine (L2.out w3).mono ?_); rintro e w4 ⟨rfl, b4⟩; have z12 := z1.below b4))
          | (go_at_call 103; (with_reducible refine (LC.out _).mono ?_); rintro e w5 ⟨rfl, rfl⟩))
      all_goals
        have k12 := z12.keep
        go_wp2
        go_ret2
        exact ⟨rfl, z12.bl⟩
set_option maxHeartbeats 8000000 in
set_option maxRecDepth 100000 in
theorem cmp_zero (g g' : Bool) (S S' : ByteArray) (x y k1 k2 : Int) (w : World) (e1 : S.toList.isEmpty = true) (e2 : (S.toList == []) = true) (i1 : S'.toList.isEmpty = true) (i2 : (S'.toList == []) = true)
    (M1 : ∀ w1, Calls Tryz.prog 54 #[.agg #[.int .i64 0, .bool g, .string S, .int .i64 x]] w1 fun e w' => e = .returned (.bool true) ∧ Below w1.heap.size w1 w')
    (M2 : ∀ w1, Calls Tryz.prog 54 #[.agg #[.int .i64 0, .bool g', .string S', .int .i64 y]] w1 fun e w' => e = .returned (.bool true) ∧ Below w1.heap.size w1 w')
    (K1 : ∀ w1, Calls Tryz.prog 104 #[.agg #[.int .i64 0, .bool g, .string S, .int .i64 x]] w1 fun e w' => e = .returned (.int .i64 k1) ∧ Below w1.heap.size w1 w')
    (K2 : ∀ w1, Calls Tryz.prog 104 #[.agg #[.int .i64 0, .bool g', .string S', .int .i64 y]] w1 fun e w' => e = .returned (.int .i64 k2) ∧ Below w1.heap.size w1 w')
    (KC : ∀ w1, Calls Tryz.prog 103 #[.int .i64 k1, .int .i64 k2] w1 fun e w' => e = .returned (.int .i64 0) ∧ w' = w1) :
    Calls Tryz.prog 65 #[.agg #[.int .i64 0, .bool g, .string S, .int .i64 x], .agg #[.int .i64 0, .bool g', .string S', .int .i64 y]] w fun e w' => e = .returned (.tuple #[.int .i64 0, .int .i64 0]) ∧ Below w.heap.size w w' := by
  have T := T8.start w #[.int .i64 0, .bool g, .string S, .int .i64 x] #[.int .i64 0, .bool g', .string S', .int .i64 y]
  have G1 := Lib.hid M1
  have G2 := Lib.hid M2
  have L1 := Lib.hid K1
  have L2 := Lib.hid K2
  have LC := Lib.hid KC
  have HT := Lib.hid T
  clear M1 M2 K1 K2 KC T
  go_enter Tryz.func65, Tryz.ntmps65
  go_wp2_with (go_at_call 54; first
    | ((with_reducible refine (G1.out ((w.alloc (.cells #[.int .i64 0, .bool g, .string S, .int .i64 x] 23)).alloc (.cells #[.int .i64 0, .bool g', .string S', .int .i64 y] 23))).mono ?_); rintro e w1 ⟨rfl, b1⟩; have t1 := HT.out.below b1; have q1 := t1.keep)
    | ((with_reducible refine (G2.out w1).mono ?_); rintro e w2 ⟨rfl, b2⟩; have t2 := t1.below b2))
  have z0 := t2.drew
  clear q1
  go_region_held3 (fun w' => w'.cell? ⟨w.heap.size, 0, none⟩ = some (.int .i64 0) ∧ w'.cell? ⟨w.heap.size, 1, none⟩ = some (.bool g) ∧ w'.cell? ⟨w.heap.size, 2, none⟩ = some (.string S) ∧ w'.cell? ⟨w.heap.size, 3, none⟩ = some (.int .i64 x) ∧ w'.cell? ⟨w.heap.size + 1, 0, none⟩ = some (.int .i64 0) ∧ w'.cell? ⟨w.heap.size + 1, 1, none⟩ = some (.bool g') ∧ w'.cell? ⟨w.heap.size + 1, 2, none⟩ = some (.string S') ∧ w'.cell? ⟨w.heap.size + 1, 3, none⟩ = some (.int .i64 y))
    (first
      | (with_reducible exact z0.keep)
      | (with_reducible exact z12.keep)
      | (with_reducible exact z1.keep)
      | (with_reducible exact z2.keep))
    (first
      | (go_at_call 104; first
        | ((with_reducible refine (L1.out w2.drew).mono ?_); rintro e w3 ⟨rfl, b3⟩; have z1 := z0.below b3)
        | ((with_reducible refine (L2.out w2.drew).mono ?_); rintro e w4 ⟨rfl, b4⟩; have z2 := z0.below b4)
        | ((with_reducible refine (L1.out w4).mono ?_); rintro e w3 ⟨rfl, b3⟩; have z12 := z2.below b3)
        | ((with_reducible refine (L2.out w3).mono ?_); rintro e w4 ⟨rfl, b4⟩; have z12 := z1.below b4))
      | (go_at_call 103; (with_reducible refine (LC.out _).mono ?_); rintro e w5 ⟨rfl, rfl⟩))
  all_goals
    have k12 := z12.keep
    go_wp2
    go_ret2
    exact ⟨rfl, z12.bl⟩
set_option maxHeartbeats 8000000 in
set_option maxRecDepth 100000 in
theorem cmp_nn  (S S' : ByteArray) (x y k1 k2 : Int) (w : World) (s1 s2 : Bool) (hs : (s1 && s2) = false) (e1 : S.toList.isEmpty = s1) (e2 : (S.toList == []) = s1) (i1 : S'.toList.isEmpty = s2) (i2 : (S'.toList == []) = s2) (r : Int) (HA : ∀ w1, Calls Tryz.prog 105 #[.agg #[.int .i64 0, .bool true, .string S', .int .i64 y], .agg #[.int .i64 0, .bool true, .string S, .int .i64 x]] w1 fun e w' => e = .returned (.int .i64 r) ∧ Below w1.heap.size w1 w')
    (M1 : ∀ w1, Calls Tryz.prog 54 #[.agg #[.int .i64 0, .bool true, .string S, .int .i64 x]] w1 fun e w' => e = .returned (.bool true) ∧ Below w1.heap.size w1 w')
    (M2 : ∀ w1, Calls Tryz.prog 54 #[.agg #[.int .i64 0, .bool true, .string S', .int .i64 y]] w1 fun e w' => e = .returned (.bool true) ∧ Below w1.heap.size w1 w')
    (K1 : ∀ w1, Calls Tryz.prog 104 #[.agg #[.int .i64 0, .bool true, .string S, .int .i64 x]] w1 fun e w' => e = .returned (.int .i64 k1) ∧ Below w1.heap.size w1 w')
    (K2 : ∀ w1, Calls Tryz.prog 104 #[.agg #[.int .i64 0, .bool true, .string S', .int .i64 y]] w1 fun e w' => e = .returned (.int .i64 k2) ∧ Below w1.heap.size w1 w')
    (KC : ∀ w1, Calls Tryz.prog 103 #[.int .i64 k1, .int .i64 k2] w1 fun e w' => e = .returned (.int .i64 0) ∧ w' = w1) :
    Calls Tryz.prog 65 #[.agg #[.int .i64 0, .bool true, .string S, .int .i64 x], .agg #[.int .i64 0, .bool true, .string S', .int .i64 y]] w fun e w' => e = .returned (.tuple #[.int .i64 r, .int .i64 0]) ∧ Below w.heap.size w w' := by
  have T := T8.start w #[.int .i64 0, .bool true, .string S, .int .i64 x] #[.int .i64 0, .bool true, .string S', .int .i64 y]
  have G1 := Lib.hid M1
  have G2 := Lib.hid M2
  have L1 := Lib.hid K1
  have L2 := Lib.hid K2
  have LC := Lib.hid KC
  have HT := Lib.hid T
  clear M1 M2 K1 K2 KC T
  have LA := Lib.hid HA
  clear HA
  cases s1 <;> cases s2
  · skip
    go_enter Tryz.func65, Tryz.ntmps65
    go_wp2_with (go_at_call 54; first
      | ((with_reducible refine (G1.out ((w.alloc (.cells #[.int .i64 0, .bool true, .string S, .int .i64 x] 23)).alloc (.cells #[.int .i64 0, .bool true, .string S', .int .i64 y] 23))).mono ?_); rintro e w1 ⟨rfl, b1⟩; have t1 := HT.out.below b1; have q1 := t1.keep)
      | ((with_reducible refine (G2.out w1).mono ?_); rintro e w2 ⟨rfl, b2⟩; have t2 := t1.below b2))
    have z0 := t2.drew
    clear q1
    go_region_held3 (fun w' => w'.cell? ⟨w.heap.size, 0, none⟩ = some (.int .i64 0) ∧ w'.cell? ⟨w.heap.size, 1, none⟩ = some (.bool true) ∧ w'.cell? ⟨w.heap.size, 2, none⟩ = some (.string S) ∧ w'.cell? ⟨w.heap.size, 3, none⟩ = some (.int .i64 x) ∧ w'.cell? ⟨w.heap.size + 1, 0, none⟩ = some (.int .i64 0) ∧ w'.cell? ⟨w.heap.size + 1, 1, none⟩ = some (.bool true) ∧ w'.cell? ⟨w.heap.size + 1, 2, none⟩ = some (.string S') ∧ w'.cell? ⟨w.heap.size + 1, 3, none⟩ = some (.int .i64 y))
      (first
        | (with_reducible exact z0.keep)
        | (with_reducible exact z12.keep)
        | (with_reducible exact z1.keep)
        | (with_reducible exact z2.keep))
      (first
        | (go_at_call 104; first
          | ((with_reducible refine (L1.out w2.drew).mono ?_); rintro e w3 ⟨rfl, b3⟩; have z1 := z0.below b3)
          | ((with_reducible refine (L2.out w2.drew).mono ?_); rintro e w4 ⟨rfl, b4⟩; have z2 := z0.below b4)
          | ((with_reducible refine (L1.out w4).mono ?_); rintro e w3 ⟨rfl, b3⟩; have z12 := z2.below b3)
          | ((with_reducible refine (L2.out w3).mono ?_); rintro e w4 ⟨rfl, b4⟩; have z12 := z1.below b4))
        | (go_at_call 103; (with_reducible refine (LC.out _).mono ?_); rintro e w5 ⟨rfl, rfl⟩))
    all_goals
      have k12 := z12.keep
      go_wp2_with (go_at_call 105; (with_reducible refine (LA.out _).mono ?_); rintro e w6 ⟨rfl, b6⟩)
      go_ret2
      exact ⟨rfl, on z12.bl b6⟩
  · skip
    go_enter Tryz.func65, Tryz.ntmps65
    go_wp2_with (go_at_call 54; first
      | ((with_reducible refine (G1.out ((w.alloc (.cells #[.int .i64 0, .bool true, .string S, .int .i64 x] 23)).alloc (.cells #[.int .i64 0, .bool true, .string S', .int .i64 y] 23))).mono ?_); rintro e w1 ⟨rfl, b1⟩; have t1 := HT.out.below b1; have q1 := t1.keep)
      | ((with_reducible refine (G2.out w1).mono ?_); rintro e w2 ⟨rfl, b2⟩; have t2 := t1.below b2))
    have z0 := t2.drew
    clear q1
    go_region_held3 (fun w' => w'.cell? ⟨w.heap.size, 0, none⟩ = some (.int .i64 0) ∧ w'.cell? ⟨w.heap.size, 1, none⟩ = some (.bool true) ∧ w'.cell? ⟨w.heap.size, 2, none⟩ = some (.string S) ∧ w'.cell? ⟨w.heap.size, 3, none⟩ = some (.int .i64 x) ∧ w'.cell? ⟨w.heap.size + 1, 0, none⟩ = some (.int .i64 0) ∧ w'.cell? ⟨w.heap.size + 1, 1, none⟩ = some (.bool true) ∧ w'.cell? ⟨w.heap.size + 1, 2, none⟩ = some (.string S') ∧ w'.cell? ⟨w.heap.size + 1, 3, none⟩ = some (.int .i64 y))
      (first
        | (with_reducible exact z0.keep)
        | (with_reducible exact z12.keep)
        | (with_reducible exact z1.keep)
        | (with_reducible exact z2.keep))
      (first
        | (go_at_call 104; first
          | ((with_reducible refine (L1.out w2.drew).mono ?_); rintro e w3 ⟨rfl, b3⟩; have z1 := z0.below b3)
          | ((with_reducible refine (L2.out w2.drew).mono ?_); rintro e w4 ⟨rfl, b4⟩; have z2 := z0.below b4)
          | ((with_reducible refine (L1.out w4).mono ?_); rintro e w3 ⟨rfl, b3⟩; have z12 := z2.below b3)
          | ((with_reducible refine (L2.out w3).mono ?_); rintro e w4 ⟨rfl, b4⟩; have z12 := z1.below b4))
        | (go_at_call 103; (with_reducible refine (LC.out _).mono ?_); rintro e w5 ⟨rfl, rfl⟩))
    all_goals
      have k12 := z12.keep
      go_wp2_with (go_at_call 105; (with_reducible refine (LA.out _).mono ?_); rintro e w6 ⟨rfl, b6⟩)
      go_ret2
      exact ⟨rfl, on z12.bl b6⟩
  · skip
    go_enter Tryz.func65, Tryz.ntmps65
    go_wp2_with (go_at_call 54; first
      | ((with_reducible refine (G1.out ((w.alloc (.cells #[.int .i64 0, .bool true, .string S, .int .i64 x] 23)).alloc (.cells #[.int .i64 0, .bool true, .string S', .int .i64 y] 23))).mono ?_); rintro e w1 ⟨rfl, b1⟩; have t1 := HT.out.below b1; have q1 := t1.keep)
      | ((with_reducible refine (G2.out w1).mono ?_); rintro e w2 ⟨rfl, b2⟩; have t2 := t1.below b2))
    have z0 := t2.drew
    clear q1
    go_region_held3 (fun w' => w'.cell? ⟨w.heap.size, 0, none⟩ = some (.int .i64 0) ∧ w'.cell? ⟨w.heap.size, 1, none⟩ = some (.bool true) ∧ w'.cell? ⟨w.heap.size, 2, none⟩ = some (.string S) ∧ w'.cell? ⟨w.heap.size, 3, none⟩ = some (.int .i64 x) ∧ w'.cell? ⟨w.heap.size + 1, 0, none⟩ = some (.int .i64 0) ∧ w'.cell? ⟨w.heap.size + 1, 1, none⟩ = some (.bool true) ∧ w'.cell? ⟨w.heap.size + 1, 2, none⟩ = some (.string S') ∧ w'.cell? ⟨w.heap.size + 1, 3, none⟩ = some (.int .i64 y))
      (first
        | (with_reducible exact z0.keep)
        | (with_reducible exact z12.keep)
        | (with_reducible exact z1.keep)
        | (with_reducible exact z2.keep))
      (first
        | (go_at_call 104; first
          | ((with_reducible refine (L1.out w2.drew).mono ?_); rintro e w3 ⟨rfl, b3⟩; have z1 := z0.below b3)
          | ((with_reducible refine (L2.out w2.drew).mono ?_); rintro e w4 ⟨rfl, b4⟩; have z2 := z0.below b4)
          | ((with_reducible refine (L1.out w4).mono ?_); rintro e w3 ⟨rfl, b3⟩; have z12 := z2.below b3)
          | ((with_reducible refine (L2.out w3).mono ?_); rintro e w4 ⟨rfl, b4⟩; have z12 := z1.below b4))
        | (go_at_call 103; (with_reducible refine (LC.out _).mono ?_); rintro e w5 ⟨rfl, rfl⟩))
    all_goals
      have k12 := z12.keep
      go_wp2_with (go_at_call 105; (with_reducible refine (LA.out _).mono ?_); rintro e w6 ⟨rfl, b6⟩)
      go_ret2
      exact ⟨rfl, on z12.bl b6⟩
  · cases hs
set_option maxHeartbeats 8000000 in
set_option maxRecDepth 100000 in
theorem cmp_pp  (S S' : ByteArray) (x y k1 k2 : Int) (w : World) (s1 s2 : Bool) (hs : (s1 && s2) = false) (e1 : S.toList.isEmpty = s1) (e2 : (S.toList == []) = s1) (i1 : S'.toList.isEmpty = s2) (i2 : (S'.toList == []) = s2) (r : Int) (HA : ∀ w1, Calls Tryz.prog 105 #[.agg #[.int .i64 0, .bool false, .string S, .int .i64 x], .agg #[.int .i64 0, .bool false, .string S', .int .i64 y]] w1 fun e w' => e = .returned (.int .i64 r) ∧ Below w1.heap.size w1 w')
    (M1 : ∀ w1, Calls Tryz.prog 54 #[.agg #[.int .i64 0, .bool false, .string S, .int .i64 x]] w1 fun e w' => e = .returned (.bool true) ∧ Below w1.heap.size w1 w')
    (M2 : ∀ w1, Calls Tryz.prog 54 #[.agg #[.int .i64 0, .bool false, .string S', .int .i64 y]] w1 fun e w' => e = .returned (.bool true) ∧ Below w1.heap.size w1 w')
    (K1 : ∀ w1, Calls Tryz.prog 104 #[.agg #[.int .i64 0, .bool false, .string S, .int .i64 x]] w1 fun e w' => e = .returned (.int .i64 k1) ∧ Below w1.heap.size w1 w')
    (K2 : ∀ w1, Calls Tryz.prog 104 #[.agg #[.int .i64 0, .bool false, .string S', .int .i64 y]] w1 fun e w' => e = .returned (.int .i64 k2) ∧ Below w1.heap.size w1 w')
    (KC : ∀ w1, Calls Tryz.prog 103 #[.int .i64 k1, .int .i64 k2] w1 fun e w' => e = .returned (.int .i64 0) ∧ w' = w1) :
    Calls Tryz.prog 65 #[.agg #[.int .i64 0, .bool false, .string S, .int .i64 x], .agg #[.int .i64 0, .bool false, .string S', .int .i64 y]] w fun e w' => e = .returned (.tuple #[.int .i64 r, .int .i64 0]) ∧ Below w.heap.size w w' := by
  have T := T8.start w #[.int .i64 0, .bool false, .string S, .int .i64 x] #[.int .i64 0, .bool false, .string S', .int .i64 y]
  have G1 := Lib.hid M1
  have G2 := Lib.hid M2
  have L1 := Lib.hid K1
  have L2 := Lib.hid K2
  have LC := Lib.hid KC
  have HT := Lib.hid T
  clear M1 M2 K1 K2 KC T
  have LA := Lib.hid HA
  clear HA
  cases s1 <;> cases s2
  · skip
    go_enter Tryz.func65, Tryz.ntmps65
    go_wp2_with (go_at_call 54; first
      | ((with_reducible refine (G1.out ((w.alloc (.cells #[.int .i64 0, .bool false, .string S, .int .i64 x] 23)).alloc (.cells #[.int .i64 0, .bool false, .string S', .int .i64 y] 23))).mono ?_); rintro e w1 ⟨rfl, b1⟩; have t1 := HT.out.below b1; have q1 := t1.keep)
      | ((with_reducible refine (G2.out w1).mono ?_); rintro e w2 ⟨rfl, b2⟩; have t2 := t1.below b2))
    have z0 := t2.drew
    clear q1
    go_region_held3 (fun w' => w'.cell? ⟨w.heap.size, 0, none⟩ = some (.int .i64 0) ∧ w'.cell? ⟨w.heap.size, 1, none⟩ = some (.bool false) ∧ w'.cell? ⟨w.heap.size, 2, none⟩ = some (.string S) ∧ w'.cell? ⟨w.heap.size, 3, none⟩ = some (.int .i64 x) ∧ w'.cell? ⟨w.heap.size + 1, 0, none⟩ = some (.int .i64 0) ∧ w'.cell? ⟨w.heap.size + 1, 1, none⟩ = some (.bool false) ∧ w'.cell? ⟨w.heap.size + 1, 2, none⟩ = some (.string S') ∧ w'.cell? ⟨w.heap.size + 1, 3, none⟩ = some (.int .i64 y))
      (first
        | (with_reducible exact z0.keep)
        | (with_reducible exact z12.keep)
        | (with_reducible exact z1.keep)
        | (with_reducible exact z2.keep))
      (first
        | (go_at_call 104; first
          | ((with_reducible refine (L1.out w2.drew).mono ?_); rintro e w3 ⟨rfl, b3⟩; have z1 := z0.below b3)
          | ((with_reducible refine (L2.out w2.drew).mono ?_); rintro e w4 ⟨rfl, b4⟩; have z2 := z0.below b4)
          | ((with_reducible refine (L1.out w4).mono ?_); rintro e w3 ⟨rfl, b3⟩; have z12 := z2.below b3)
          | ((with_reducible refine (L2.out w3).mono ?_); rintro e w4 ⟨rfl, b4⟩; have z12 := z1.below b4))
        | (go_at_call 103; (with_reducible refine (LC.out _).mono ?_); rintro e w5 ⟨rfl, rfl⟩))
    all_goals
      have k12 := z12.keep
      go_wp2_with (go_at_call 105; (with_reducible refine (LA.out _).mono ?_); rintro e w6 ⟨rfl, b6⟩)
      go_ret2
      exact ⟨rfl, on z12.bl b6⟩
  · skip
    go_enter Tryz.func65, Tryz.ntmps65
    go_wp2_with (go_at_call 54; first
      | ((with_reducible refine (G1.out ((w.alloc (.cells #[.int .i64 0, .bool false, .string S, .int .i64 x] 23)).alloc (.cells #[.int .i64 0, .bool false, .string S', .int .i64 y] 23))).mono ?_); rintro e w1 ⟨rfl, b1⟩; have t1 := HT.out.below b1; have q1 := t1.keep)
      | ((with_reducible refine (G2.out w1).mono ?_); rintro e w2 ⟨rfl, b2⟩; have t2 := t1.below b2))
    have z0 := t2.drew
    clear q1
    go_region_held3 (fun w' => w'.cell? ⟨w.heap.size, 0, none⟩ = some (.int .i64 0) ∧ w'.cell? ⟨w.heap.size, 1, none⟩ = some (.bool false) ∧ w'.cell? ⟨w.heap.size, 2, none⟩ = some (.string S) ∧ w'.cell? ⟨w.heap.size, 3, none⟩ = some (.int .i64 x) ∧ w'.cell? ⟨w.heap.size + 1, 0, none⟩ = some (.int .i64 0) ∧ w'.cell? ⟨w.heap.size + 1, 1, none⟩ = some (.bool false) ∧ w'.cell? ⟨w.heap.size + 1, 2, none⟩ = some (.string S') ∧ w'.cell? ⟨w.heap.size + 1, 3, none⟩ = some (.int .i64 y))
      (first
        | (with_reducible exact z0.keep)
        | (with_reducible exact z12.keep)
        | (with_reducible exact z1.keep)
        | (with_reducible exact z2.keep))
      (first
        | (go_at_call 104; first
          | ((with_reducible refine (L1.out w2.drew).mono ?_); rintro e w3 ⟨rfl, b3⟩; have z1 := z0.below b3)
          | ((with_reducible refine (L2.out w2.drew).mono ?_); rintro e w4 ⟨rfl, b4⟩; have z2 := z0.below b4)
          | ((with_reducible refine (L1.out w4).mono ?_); rintro e w3 ⟨rfl, b3⟩; have z12 := z2.below b3)
          | ((with_reducible refine (L2.out w3).mono ?_); rintro e w4 ⟨rfl, b4⟩; have z12 := z1.below b4))
        | (go_at_call 103; (with_reducible refine (LC.out _).mono ?_); rintro e w5 ⟨rfl, rfl⟩))
    all_goals
      have k12 := z12.keep
      go_wp2_with (go_at_call 105; (with_reducible refine (LA.out _).mono ?_); rintro e w6 ⟨rfl, b6⟩)
      go_ret2
      exact ⟨rfl, on z12.bl b6⟩
  · skip
    go_enter Tryz.func65, Tryz.ntmps65
    go_wp2_with (go_at_call 54; first
      | ((with_reducible refine (G1.out ((w.alloc (.cells #[.int .i64 0, .bool false, .string S, .int .i64 x] 23)).alloc (.cells #[.int .i64 0, .bool false, .string S', .int .i64 y] 23))).mono ?_); rintro e w1 ⟨rfl, b1⟩; have t1 := HT.out.below b1; have q1 := t1.keep)
      | ((with_reducible refine (G2.out w1).mono ?_); rintro e w2 ⟨rfl, b2⟩; have t2 := t1.below b2))
    have z0 := t2.drew
    clear q1
    go_region_held3 (fun w' => w'.cell? ⟨w.heap.size, 0, none⟩ = some (.int .i64 0) ∧ w'.cell? ⟨w.heap.size, 1, none⟩ = some (.bool false) ∧ w'.cell? ⟨w.heap.size, 2, none⟩ = some (.string S) ∧ w'.cell? ⟨w.heap.size, 3, none⟩ = some (.int .i64 x) ∧ w'.cell? ⟨w.heap.size + 1, 0, none⟩ = some (.int .i64 0) ∧ w'.cell? ⟨w.heap.size + 1, 1, none⟩ = some (.bool false) ∧ w'.cell? ⟨w.heap.size + 1, 2, none⟩ = some (.string S') ∧ w'.cell? ⟨w.heap.size + 1, 3, none⟩ = some (.int .i64 y))
      (first
        | (with_reducible exact z0.keep)
        | (with_reducible exact z12.keep)
        | (with_reducible exact z1.keep)
        | (with_reducible exact z2.keep))
      (first
        | (go_at_call 104; first
          | ((with_reducible refine (L1.out w2.drew).mono ?_); rintro e w3 ⟨rfl, b3⟩; have z1 := z0.below b3)
          | ((with_reducible refine (L2.out w2.drew).mono ?_); rintro e w4 ⟨rfl, b4⟩; have z2 := z0.below b4)
          | ((with_reducible refine (L1.out w4).mono ?_); rintro e w3 ⟨rfl, b3⟩; have z12 := z2.below b3)
          | ((with_reducible refine (L2.out w3).mono ?_); rintro e w4 ⟨rfl, b4⟩; have z12 := z1.below b4))
        | (go_at_call 103; (with_reducible refine (LC.out _).mono ?_); rintro e w5 ⟨rfl, rfl⟩))
    all_goals
      have k12 := z12.keep
      go_wp2_with (go_at_call 105; (with_reducible refine (LA.out _).mono ?_); rintro e w6 ⟨rfl, b6⟩)
      go_ret2
      exact ⟨rfl, on z12.bl b6⟩
  · cases hs
set_option maxHeartbeats 8000000 in
set_option maxRecDepth 100000 in
theorem cmp_np  (S S' : ByteArray) (x y k1 k2 : Int) (w : World) (s1 s2 : Bool) (hs : (s1 && s2) = false) (e1 : S.toList.isEmpty = s1) (e2 : (S.toList == []) = s1) (i1 : S'.toList.isEmpty = s2) (i2 : (S'.toList == []) = s2)
    (M1 : ∀ w1, Calls Tryz.prog 54 #[.agg #[.int .i64 0, .bool true, .string S, .int .i64 x]] w1 fun e w' => e = .returned (.bool true) ∧ Below w1.heap.size w1 w')
    (M2 : ∀ w1, Calls Tryz.prog 54 #[.agg #[.int .i64 0, .bool false, .string S', .int .i64 y]] w1 fun e w' => e = .returned (.bool true) ∧ Below w1.heap.size w1 w')
    (K1 : ∀ w1, Calls Tryz.prog 104 #[.agg #[.int .i64 0, .bool true, .string S, .int .i64 x]] w1 fun e w' => e = .returned (.int .i64 k1) ∧ Below w1.heap.size w1 w')
    (K2 : ∀ w1, Calls Tryz.prog 104 #[.agg #[.int .i64 0, .bool false, .string S', .int .i64 y]] w1 fun e w' => e = .returned (.int .i64 k2) ∧ Below w1.heap.size w1 w')
    (KC : ∀ w1, Calls Tryz.prog 103 #[.int .i64 k1, .int .i64 k2] w1 fun e w' => e = .returned (.int .i64 0) ∧ w' = w1) :
    Calls Tryz.prog 65 #[.agg #[.int .i64 0, .bool true, .string S, .int .i64 x], .agg #[.int .i64 0, .bool false, .string S', .int .i64 y]] w fun e w' => e = .returned (.tuple #[.int .i64 (-1), .int .i64 0]) ∧ Below w.heap.size w w' := by
  have T := T8.start w #[.int .i64 0, .bool true, .string S, .int .i64 x] #[.int .i64 0, .bool false, .string S', .int .i64 y]
  have G1 := Lib.hid M1
  have G2 := Lib.hid M2
  have L1 := Lib.hid K1
  have L2 := Lib.hid K2
  have LC := Lib.hid KC
  have HT := Lib.hid T
  clear M1 M2 K1 K2 KC T
  cases s1 <;> cases s2
  · skip
    go_enter Tryz.func65, Tryz.ntmps65
    go_wp2_with (go_at_call 54; first
      | ((with_reducible refine (G1.out ((w.alloc (.cells #[.int .i64 0, .bool true, .string S, .int .i64 x] 23)).alloc (.cells #[.int .i64 0, .bool false, .string S', .int .i64 y] 23))).mono ?_); rintro e w1 ⟨rfl, b1⟩; have t1 := HT.out.below b1; have q1 := t1.keep)
      | ((with_reducible refine (G2.out w1).mono ?_); rintro e w2 ⟨rfl, b2⟩; have t2 := t1.below b2))
    have z0 := t2.drew
    clear q1
    go_region_held3 (fun w' => w'.cell? ⟨w.heap.size, 0, none⟩ = some (.int .i64 0) ∧ w'.cell? ⟨w.heap.size, 1, none⟩ = some (.bool true) ∧ w'.cell? ⟨w.heap.size, 2, none⟩ = some (.string S) ∧ w'.cell? ⟨w.heap.size, 3, none⟩ = some (.int .i64 x) ∧ w'.cell? ⟨w.heap.size + 1, 0, none⟩ = some (.int .i64 0) ∧ w'.cell? ⟨w.heap.size + 1, 1, none⟩ = some (.bool false) ∧ w'.cell? ⟨w.heap.size + 1, 2, none⟩ = some (.string S') ∧ w'.cell? ⟨w.heap.size + 1, 3, none⟩ = some (.int .i64 y))
      (first
        | (with_reducible exact z0.keep)
        | (with_reducible exact z12.keep)
        | (with_reducible exact z1.keep)
        | (with_reducible exact z2.keep))
      (first
        | (go_at_call 104; first
          | ((with_reducible refine (L1.out w2.drew).mono ?_); rintro e w3 ⟨rfl, b3⟩; have z1 := z0.below b3)
          | ((with_reducible refine (L2.out w2.drew).mono ?_); rintro e w4 ⟨rfl, b4⟩; have z2 := z0.below b4)
          | ((with_reducible refine (L1.out w4).mono ?_); rintro e w3 ⟨rfl, b3⟩; have z12 := z2.below b3)
          | ((with_reducible refine (L2.out w3).mono ?_); rintro e w4 ⟨rfl, b4⟩; have z12 := z1.below b4))
        | (go_at_call 103; (with_reducible refine (LC.out _).mono ?_); rintro e w5 ⟨rfl, rfl⟩))
    all_goals
      have k12 := z12.keep
      go_wp2
      go_ret2
      exact ⟨rfl, z12.bl⟩
  · skip
    go_enter Tryz.func65, Tryz.ntmps65
    go_wp2_with (go_at_call 54; first
      | ((with_reducible refine (G1.out ((w.alloc (.cells #[.int .i64 0, .bool true, .string S, .int .i64 x] 23)).alloc (.cells #[.int .i64 0, .bool false, .string S', .int .i64 y] 23))).mono ?_); rintro e w1 ⟨rfl, b1⟩; have t1 := HT.out.below b1; have q1 := t1.keep)
      | ((with_reducible refine (G2.out w1).mono ?_); rintro e w2 ⟨rfl, b2⟩; have t2 := t1.below b2))
    have z0 := t2.drew
    clear q1
    go_region_held3 (fun w' => w'.cell? ⟨w.heap.size, 0, none⟩ = some (.int .i64 0) ∧ w'.cell? ⟨w.heap.size, 1, none⟩ = some (.bool true) ∧ w'.cell? ⟨w.heap.size, 2, none⟩ = some (.string S) ∧ w'.cell? ⟨w.heap.size, 3, none⟩ = some (.int .i64 x) ∧ w'.cell? ⟨w.heap.size + 1, 0, none⟩ = some (.int .i64 0) ∧ w'.cell? ⟨w.heap.size + 1, 1, none⟩ = some (.bool false) ∧ w'.cell? ⟨w.heap.size + 1, 2, none⟩ = some (.string S') ∧ w'.cell? ⟨w.heap.size + 1, 3, none⟩ = some (.int .i64 y))
      (first
        | (with_reducible exact z0.keep)
        | (with_reducible exact z12.keep)
        | (with_reducible exact z1.keep)
        | (with_reducible exact z2.keep))
      (first
        | (go_at_call 104; first
          | ((with_reducible refine (L1.out w2.drew).mono ?_); rintro e w3 ⟨rfl, b3⟩; have z1 := z0.below b3)
          | ((with_reducible refine (L2.out w2.drew).mono ?_); rintro e w4 ⟨rfl, b4⟩; have z2 := z0.below b4)
          | ((with_reducible refine (L1.out w4).mono ?_); rintro e w3 ⟨rfl, b3⟩; have z12 := z2.below b3)
          | ((with_reducible refine (L2.out w3).mono ?_); rintro e w4 ⟨rfl, b4⟩; have z12 := z1.below b4))
        | (go_at_call 103; (with_reducible refine (LC.out _).mono ?_); rintro e w5 ⟨rfl, rfl⟩))
    all_goals
      have k12 := z12.keep
      go_wp2
      go_ret2
      exact ⟨rfl, z12.bl⟩
  · skip
    go_enter Tryz.func65, Tryz.ntmps65
    go_wp2_with (go_at_call 54; first
      | ((with_reducible refine (G1.out ((w.alloc (.cells #[.int .i64 0, .bool true, .string S, .int .i64 x] 23)).alloc (.cells #[.int .i64 0, .bool false, .string S', .int .i64 y] 23))).mono ?_); rintro e w1 ⟨rfl, b1⟩; have t1 := HT.out.below b1; have q1 := t1.keep)
      | ((with_reducible refine (G2.out w1).mono ?_); rintro e w2 ⟨rfl, b2⟩; have t2 := t1.below b2))
    have z0 := t2.drew
    clear q1
    go_region_held3 (fun w' => w'.cell? ⟨w.heap.size, 0, none⟩ = some (.int .i64 0) ∧ w'.cell? ⟨w.heap.size, 1, none⟩ = some (.bool true) ∧ w'.cell? ⟨w.heap.size, 2, none⟩ = some (.string S) ∧ w'.cell? ⟨w.heap.size, 3, none⟩ = some (.int .i64 x) ∧ w'.cell? ⟨w.heap.size + 1, 0, none⟩ = some (.int .i64 0) ∧ w'.cell? ⟨w.heap.size + 1, 1, none⟩ = some (.bool false) ∧ w'.cell? ⟨w.heap.size + 1, 2, none⟩ = some (.string S') ∧ w'.cell? ⟨w.heap.size + 1, 3, none⟩ = some (.int .i64 y))
      (first
        | (with_reducible exact z0.keep)
        | (with_reducible exact z12.keep)
        | (with_reducible exact z1.keep)
        | (with_reducible exact z2.keep))
      (first
        | (go_at_call 104; first
          | ((with_reducible refine (L1.out w2.drew).mono ?_); rintro e w3 ⟨rfl, b3⟩; have z1 := z0.below b3)
          | ((with_reducible refine (L2.out w2.drew).mono ?_); rintro e w4 ⟨rfl, b4⟩; have z2 := z0.below b4)
          | ((with_reducible refine (L1.out w4).mono ?_); rintro e w3 ⟨rfl, b3⟩; have z12 := z2.below b3)
          | ((with_reducible refine (L2.out w3).mono ?_); rintro e w4 ⟨rfl, b4⟩; have z12 := z1.below b4))
        | (go_at_call 103; (with_reducible refine (LC.out _).mono ?_); rintro e w5 ⟨rfl, rfl⟩))
    all_goals
      have k12 := z12.keep
      go_wp2
      go_ret2
      exact ⟨rfl, z12.bl⟩
  · cases hs
set_option maxHeartbeats 8000000 in
set_option maxRecDepth 100000 in
theorem cmp_pn  (S S' : ByteArray) (x y k1 k2 : Int) (w : World) (s1 s2 : Bool) (hs : (s1 && s2) = false) (e1 : S.toList.isEmpty = s1) (e2 : (S.toList == []) = s1) (i1 : S'.toList.isEmpty = s2) (i2 : (S'.toList == []) = s2)
    (M1 : ∀ w1, Calls Tryz.prog 54 #[.agg #[.int .i64 0, .bool false, .string S, .int .i64 x]] w1 fun e w' => e = .returned (.bool true) ∧ Below w1.heap.size w1 w')
    (M2 : ∀ w1, Calls Tryz.prog 54 #[.agg #[.int .i64 0, .bool true, .string S', .int .i64 y]] w1 fun e w' => e = .returned (.bool true) ∧ Below w1.heap.size w1 w')
    (K1 : ∀ w1, Calls Tryz.prog 104 #[.agg #[.int .i64 0, .bool false, .string S, .int .i64 x]] w1 fun e w' => e = .returned (.int .i64 k1) ∧ Below w1.heap.size w1 w')
    (K2 : ∀ w1, Calls Tryz.prog 104 #[.agg #[.int .i64 0, .bool true, .string S', .int .i64 y]] w1 fun e w' => e = .returned (.int .i64 k2) ∧ Below w1.heap.size w1 w')
    (KC : ∀ w1, Calls Tryz.prog 103 #[.int .i64 k1, .int .i64 k2] w1 fun e w' => e = .returned (.int .i64 0) ∧ w' = w1) :
    Calls Tryz.prog 65 #[.agg #[.int .i64 0, .bool false, .string S, .int .i64 x], .agg #[.int .i64 0, .bool true, .string S', .int .i64 y]] w fun e w' => e = .returned (.tuple #[.int .i64 1, .int .i64 0]) ∧ Below w.heap.size w w' := by
  have T := T8.start w #[.int .i64 0, .bool false, .string S, .int .i64 x] #[.int .i64 0, .bool true, .string S', .int .i64 y]
  have G1 := Lib.hid M1
  have G2 := Lib.hid M2
  have L1 := Lib.hid K1
  have L2 := Lib.hid K2
  have LC := Lib.hid KC
  have HT := Lib.hid T
  clear M1 M2 K1 K2 KC T
  cases s1 <;> cases s2
  · skip
    go_enter Tryz.func65, Tryz.ntmps65
    go_wp2_with (go_at_call 54; first
      | ((with_reducible refine (G1.out ((w.alloc (.cells #[.int .i64 0, .bool false, .string S, .int .i64 x] 23)).alloc (.cells #[.int .i64 0, .bool true, .string S', .int .i64 y] 23))).mono ?_); rintro e w1 ⟨rfl, b1⟩; have t1 := HT.out.below b1; have q1 := t1.keep)
      | ((with_reducible refine (G2.out w1).mono ?_); rintro e w2 ⟨rfl, b2⟩; have t2 := t1.below b2))
    have z0 := t2.drew
    clear q1
    go_region_held3 (fun w' => w'.cell? ⟨w.heap.size, 0, none⟩ = some (.int .i64 0) ∧ w'.cell? ⟨w.heap.size, 1, none⟩ = some (.bool false) ∧ w'.cell? ⟨w.heap.size, 2, none⟩ = some (.string S) ∧ w'.cell? ⟨w.heap.size, 3, none⟩ = some (.int .i64 x) ∧ w'.cell? ⟨w.heap.size + 1, 0, none⟩ = some (.int .i64 0) ∧ w'.cell? ⟨w.heap.size + 1, 1, none⟩ = some (.bool true) ∧ w'.cell? ⟨w.heap.size + 1, 2, none⟩ = some (.string S') ∧ w'.cell? ⟨w.heap.size + 1, 3, none⟩ = some (.int .i64 y))
      (first
        | (with_reducible exact z0.keep)
        | (with_reducible exact z12.keep)
        | (with_reducible exact z1.keep)
        | (with_reducible exact z2.keep))
      (first
        | (go_at_call 104; first
          | ((with_reducible refine (L1.out w2.drew).mono ?_); rintro e w3 ⟨rfl, b3⟩; have z1 := z0.below b3)
          | ((with_reducible refine (L2.out w2.drew).mono ?_); rintro e w4 ⟨rfl, b4⟩; have z2 := z0.below b4)
          | ((with_reducible refine (L1.out w4).mono ?_); rintro e w3 ⟨rfl, b3⟩; have z12 := z2.below b3)
          | ((with_reducible refine (L2.out w3).mono ?_); rintro e w4 ⟨rfl, b4⟩; have z12 := z1.below b4))
        | (go_at_call 103; (with_reducible refine (LC.out _).mono ?_); rintro e w5 ⟨rfl, rfl⟩))
    all_goals
      have k12 := z12.keep
      go_wp2
      go_ret2
      exact ⟨rfl, z12.bl⟩
  · skip
    go_enter Tryz.func65, Tryz.ntmps65
    go_wp2_with (go_at_call 54; first
      | ((with_reducible refine (G1.out ((w.alloc (.cells #[.int .i64 0, .bool false, .string S, .int .i64 x] 23)).alloc (.cells #[.int .i64 0, .bool true, .string S', .int .i64 y] 23))).mono ?_); rintro e w1 ⟨rfl, b1⟩; have t1 := HT.out.below b1; have q1 := t1.keep)
      | ((with_reducible refine (G2.out w1).mono ?_); rintro e w2 ⟨rfl, b2⟩; have t2 := t1.below b2))
    have z0 := t2.drew
    clear q1
    go_region_held3 (fun w' => w'.cell? ⟨w.heap.size, 0, none⟩ = some (.int .i64 0) ∧ w'.cell? ⟨w.heap.size, 1, none⟩ = some (.bool false) ∧ w'.cell? ⟨w.heap.size, 2, none⟩ = some (.string S) ∧ w'.cell? ⟨w.heap.size, 3, none⟩ = some (.int .i64 x) ∧ w'.cell? ⟨w.heap.size + 1, 0, none⟩ = some (.int .i64 0) ∧ w'.cell? ⟨w.heap.size + 1, 1, none⟩ = some (.bool true) ∧ w'.cell? ⟨w.heap.size + 1, 2, none⟩ = some (.string S') ∧ w'.cell? ⟨w.heap.size + 1, 3, none⟩ = some (.int .i64 y))
      (first
        | (with_reducible exact z0.keep)
        | (with_reducible exact z12.keep)
        | (with_reducible exact z1.keep)
        | (with_reducible exact z2.keep))
      (first
        | (go_at_call 104; first
          | ((with_reducible refine (L1.out w2.drew).mono ?_); rintro e w3 ⟨rfl, b3⟩; have z1 := z0.below b3)
          | ((with_reducible refine (L2.out w2.drew).mono ?_); rintro e w4 ⟨rfl, b4⟩; have z2 := z0.below b4)
          | ((with_reducible refine (L1.out w4).mono ?_); rintro e w3 ⟨rfl, b3⟩; have z12 := z2.below b3)
          | ((with_reducible refine (L2.out w3).mono ?_); rintro e w4 ⟨rfl, b4⟩; have z12 := z1.below b4))
        | (go_at_call 103; (with_reducible refine (LC.out _).mono ?_); rintro e w5 ⟨rfl, rfl⟩))
    all_goals
      have k12 := z12.keep
      go_wp2
      go_ret2
      exact ⟨rfl, z12.bl⟩
  · skip
    go_enter Tryz.func65, Tryz.ntmps65
    go_wp2_with (go_at_call 54; first
      | ((with_reducible refine (G1.out ((w.alloc (.cells #[.int .i64 0, .bool false, .string S, .int .i64 x] 23)).alloc (.cells #[.int .i64 0, .bool true, .string S', .int .i64 y] 23))).mono ?_); rintro e w1 ⟨rfl, b1⟩; have t1 := HT.out.below b1; have q1 := t1.keep)
      | ((with_reducible refine (G2.out w1).mono ?_); rintro e w2 ⟨rfl, b2⟩; have t2 := t1.below b2))
    have z0 := t2.drew
    clear q1
    go_region_held3 (fun w' => w'.cell? ⟨w.heap.size, 0, none⟩ = some (.int .i64 0) ∧ w'.cell? ⟨w.heap.size, 1, none⟩ = some (.bool false) ∧ w'.cell? ⟨w.heap.size, 2, none⟩ = some (.string S) ∧ w'.cell? ⟨w.heap.size, 3, none⟩ = some (.int .i64 x) ∧ w'.cell? ⟨w.heap.size + 1, 0, none⟩ = some (.int .i64 0) ∧ w'.cell? ⟨w.heap.size + 1, 1, none⟩ = some (.bool true) ∧ w'.cell? ⟨w.heap.size + 1, 2, none⟩ = some (.string S') ∧ w'.cell? ⟨w.heap.size + 1, 3, none⟩ = some (.int .i64 y))
      (first
        | (with_reducible exact z0.keep)
        | (with_reducible exact z12.keep)
        | (with_reducible exact z1.keep)
        | (with_reducible exact z2.keep))
      (first
        | (go_at_call 104; first
          | ((with_reducible refine (L1.out w2.drew).mono ?_); rintro e w3 ⟨rfl, b3⟩; have z1 := z0.below b3)
          | ((with_reducible refine (L2.out w2.drew).mono ?_); rintro e w4 ⟨rfl, b4⟩; have z2 := z0.below b4)
          | ((with_reducible refine (L1.out w4).mono ?_); rintro e w3 ⟨rfl, b3⟩; have z12 := z2.below b3)
          | ((with_reducible refine (L2.out w3).mono ?_); rintro e w4 ⟨rfl, b4⟩; have z12 := z1.below b4))
        | (go_at_call 103; (with_reducible refine (LC.out _).mono ?_); rintro e w5 ⟨rfl, rfl⟩))
    all_goals
      have k12 := z12.keep
      go_wp2
      go_ret2
      exact ⟨rfl, z12.bl⟩
  · cases hs
end Go.Proofs.YtfddokfnplehkaaGreatDoor.Dc

/- Layer 5: dec.Cmp, joined: how two finite ones stand; two of a class. -/
set_option linter.unusedSimpArgs false
set_option linter.unusedVariables false
namespace Go.Proofs.YtfddokfnplehkaaGreatDoor.Dc
open Go.RowKit Go.Proofs.YtfddokfnplehkaaGreatDoor.Dig Go.Proofs.YtfddokfnplehkaaGreatDoor.W Go.Proofs.YtfddokfnplehkaaGreatDoor.Nat Go.Proofs.YtfddokfnplehkaaGreatDoor.Wh Go.Proofs.YtfddokfnplehkaaGreatDoor.Td Go.Proofs.YtfddokfnplehkaaGreatDoor.Bu Go.Proofs.YtfddokfnplehkaaGreatDoor.Tx Go.Proofs.YtfddokfnplehkaaGreatDoor.Sp Go.Proofs.YtfddokfnplehkaaGreatDoor.Rd

theorem may_ok {g : Bool} {l : List UInt8} {x : Int} (h : mayB 0 g l x = true) (e : Int) (he : l ≠ [] → e ≤ x) : Ok l x e := by
  by_cases hl : l = []
  · exact .inl hl
  · obtain ⟨_, hF, hf⟩ := may_str h hl
    exact .inr ⟨hF, hf, he hl⟩
theorem emp_iff (l : List UInt8) : (⟨l.toArray⟩ : ByteArray).toList.isEmpty = decide (l = []) ∧ ((⟨l.toArray⟩ : ByteArray).toList == []) = decide (l = []) := by
  rw [toL]
  cases l with
  | nil => exact ⟨rfl, rfl⟩
  | cons a r => exact ⟨rfl, rfl⟩
theorem amt_zero {l : List UInt8} {x e : Int} (h : Ok l x e) : amt l x e = 0 ↔ l = [] := by
  rcases h with rfl | ⟨hF, _, _⟩
  · simp [amt_nil]
  · have := amt_pos (x := x) (e := e) hF
    have := hF.ne
    constructor
    · intro k; omega
    · intro k; exact absurd k this
/-- how two finite ones stand -/
theorem cmp_fin (g g' : Bool) (l m : List UInt8) (x y e : Int) (w : World) (h1 : mayB 0 g l x = true) (h2 : mayB 0 g' m y = true) (hx : l ≠ [] → e ≤ x) (hy : m ≠ [] → e ≤ y) :
    Calls Tryz.prog 65 #[.agg (dec 0 g l x), .agg (dec 0 g' m y)] w fun z w' => z = .returned (.tuple #[.int .i64 (order (sv g (amt l x e)) (sv g' (amt m y e))), .int .i64 0]) ∧ Below w.heap.size w w' := by
  have o1 := may_ok h1 e hx
  have o2 := may_ok h2 e hy
  have M1 := fun w1 => dmay_calls 0 g l x w1 (by have := o1.len; omega)
  have M2 := fun w1 => dmay_calls 0 g' m y w1 (by have := o2.len; omega)
  rw [h1] at M1
  rw [h2] at M2
  have K1 := fun w1 => key_calls 0 g ⟨l.toArray⟩ x w1
  have K2 := fun w1 => key_calls 0 g' ⟨m.toArray⟩ y w1
  rw [show keyV 0 g = 0 from rfl] at K1
  rw [show keyV 0 g' = 0 from rfl] at K2
  have KC := fun w1 => comp_int 0 0 w1
  rw [show Lib.compareInt 0 0 = 0 from rfl] at KC
  obtain ⟨e1, e2⟩ := emp_iff l
  obtain ⟨i1, i2⟩ := emp_iff m
  by_cases hl : l = []
  · by_cases hm : m = []
    · have er : order (sv g (amt l x e)) (sv g' (amt m y e)) = 0 := by
        rw [(amt_zero o1).2 hl, (amt_zero o2).2 hm]
        cases g <;> cases g' <;> rfl
      rw [er]
      rw [decide_eq_true hl] at e1 e2
      rw [decide_eq_true hm] at i1 i2
      exact cmp_zero g g' ⟨l.toArray⟩ ⟨m.toArray⟩ x y 0 0 w e1 e2 i1 i2 M1 M2 K1 K2 KC
    · exact main o1 o2 M1 M2 K1 K2 KC e1 e2 i1 i2 (by rw [decide_eq_false hm, Bool.and_false])
  · exact main o1 o2 M1 M2 K1 K2 KC e1 e2 i1 i2 (by rw [decide_eq_false hl, Bool.false_and])
where
  main {g g' : Bool} {l m : List UInt8} {x y e : Int} {w : World} (o1 : Ok l x e) (o2 : Ok m y e)
      (M1 : ∀ w1, Calls Tryz.prog 54 #[.agg (dec 0 g l x)] w1 fun e w' => e = .returned (.bool true) ∧ Below w1.heap.size w1 w')
      (M2 : ∀ w1, Calls Tryz.prog 54 #[.agg (dec 0 g' m y)] w1 fun e w' => e = .returned (.bool true) ∧ Below w1.heap.size w1 w')
      (K1 : ∀ w1, Calls Tryz.prog 104 #[.agg (dec 0 g l x)] w1 fun e w' => e = .returned (.int .i64 0) ∧ Below w1.heap.size w1 w')
      (K2 : ∀ w1, Calls Tryz.prog 104 #[.agg (dec 0 g' m y)] w1 fun e w' => e = .returned (.int .i64 0) ∧ Below w1.heap.size w1 w')
      (KC : ∀ w1, Calls Tryz.prog 103 #[.int .i64 0, .int .i64 0] w1 fun e w' => e = .returned (.int .i64 0) ∧ w' = w1)
      (e1 : (⟨l.toArray⟩ : ByteArray).toList.isEmpty = decide (l = [])) (e2 : ((⟨l.toArray⟩ : ByteArray).toList == []) = decide (l = []))
      (i1 : (⟨m.toArray⟩ : ByteArray).toList.isEmpty = decide (m = [])) (i2 : ((⟨m.toArray⟩ : ByteArray).toList == []) = decide (m = [])) (hs : (decide (l = []) && decide (m = [])) = false) :
      Calls Tryz.prog 65 #[.agg (dec 0 g l x), .agg (dec 0 g' m y)] w fun z w' => z = .returned (.tuple #[.int .i64 (order (sv g (amt l x e)) (sv g' (amt m y e))), .int .i64 0]) ∧ Below w.heap.size w w' := by
    have hpos : amt l x e ≠ 0 ∨ amt m y e ≠ 0 := by
      by_cases hl : l = []
      · right
        intro k
        rw [decide_eq_true hl, decide_eq_true ((amt_zero o2).1 k)] at hs
        cases hs
      · left
        intro k
        exact hl ((amt_zero o1).1 k)
    cases g <;> cases g'
    · rw [order_pos]
      exact cmp_pp ⟨l.toArray⟩ ⟨m.toArray⟩ x y 0 0 w _ _ hs e1 e2 i1 i2 _ (fun w1 => amounts_calls false false l m x y e w1 o1 o2) M1 M2 K1 K2 KC
    · have er : order (sv false (amt l x e)) (sv true (amt m y e)) = 1 := by
        unfold order sv
        simp only [Bool.false_eq_true, if_false, if_true]
        rw [if_neg (by omega), if_neg (by omega)]
      rw [er]
      exact cmp_pn ⟨l.toArray⟩ ⟨m.toArray⟩ x y 0 0 w _ _ hs e1 e2 i1 i2 M1 M2 K1 K2 KC
    · have er : order (sv true (amt l x e)) (sv false (amt m y e)) = -1 := by
        unfold order sv
        simp only [Bool.false_eq_true, if_false, if_true]
        rw [if_pos (by omega)]
      rw [er]
      exact cmp_np ⟨l.toArray⟩ ⟨m.toArray⟩ x y 0 0 w _ _ hs e1 e2 i1 i2 M1 M2 K1 K2 KC
    · rw [order_neg]
      exact cmp_nn ⟨l.toArray⟩ ⟨m.toArray⟩ x y 0 0 w _ _ hs e1 e2 i1 i2 _ (fun w1 => amounts_calls true true m l y x e w1 o2 o1) M1 M2 K1 K2 KC
/-- two that are not both finite: by their classes alone -/
theorem cmp_cls (c c' : Int) (g g' : Bool) (l m : List UInt8) (x y : Int) (w : World) (h1 : mayB c g l x = true) (h2 : mayB c' g' m y = true) (hl : l.length ≤ 100000) (hm : m.length ≤ 100000) (hc : Lib.compareInt (keyV c g) (keyV c' g') ≠ 0 ∨ c ≠ 0) :
    Calls Tryz.prog 65 #[.agg (dec c g l x), .agg (dec c' g' m y)] w fun z w' => z = .returned (.tuple #[.int .i64 (Lib.compareInt (keyV c g) (keyV c' g')), .int .i64 0]) ∧ Below w.heap.size w w' := by
  have M1 := fun w1 => dmay_calls c g l x w1 (by omega)
  have M2 := fun w1 => dmay_calls c' g' m y w1 (by omega)
  rw [h1] at M1
  rw [h2] at M2
  exact cmp_key c c' g g' ⟨l.toArray⟩ ⟨m.toArray⟩ x y (keyV c g) (keyV c' g') _ w hc M1 M2 (fun w1 => key_calls c g _ x w1) (fun w1 => key_calls c' g' _ y w1) (fun w1 => comp_int _ _ w1)
end Go.Proofs.YtfddokfnplehkaaGreatDoor.Dc

/- Layer 6's laws: RoundRises. -/
set_option linter.unusedSimpArgs false
set_option linter.unusedVariables false
namespace Go.Proofs.YtfddokfnplehkaaGreatDoor.Dc
open Go.RowKit Go.Proofs.YtfddokfnplehkaaGreatDoor.Dig Go.Proofs.YtfddokfnplehkaaGreatDoor.W Go.Proofs.YtfddokfnplehkaaGreatDoor.Nat Go.Proofs.YtfddokfnplehkaaGreatDoor.Wh Go.Proofs.YtfddokfnplehkaaGreatDoor.Td Go.Proofs.YtfddokfnplehkaaGreatDoor.Bu Go.Proofs.YtfddokfnplehkaaGreatDoor.Tx Go.Proofs.YtfddokfnplehkaaGreatDoor.Sp Go.Proofs.YtfddokfnplehkaaGreatDoor.Rd

theorem told_amt {g : Bool} {N : Nat} {E0 E : Int} {l : List UInt8} {x : Int} (h : told g N E0 = some (l, x)) (hE : E ≤ E0) : amt l x E = N * 10 ^ (E0 - E).toNat ∧ (l ≠ [] → E ≤ x) := by
  unfold told at h
  by_cases h0 : N = 0
  · rw [if_pos h0] at h
    obtain ⟨rfl, rfl⟩ := Prod.mk.inj (Option.some.inj h)
    rw [h0, amt_nil, Nat.zero_mul]
    exact ⟨rfl, fun k => absurd rfl k⟩
  · rw [if_neg h0] at h
    split at h
    · obtain ⟨rfl, rfl⟩ := Prod.mk.inj (Option.some.inj h)
      have hc : Sp.ce N E0 = E0 + (tz N : Int) := by unfold Sp.ce; rw [if_neg h0]
      rw [hc]
      refine ⟨?_, fun _ => by omega⟩
      unfold amt
      rw [show (E0 + (tz N : Int) - E).toNat = tz N + (E0 - E).toNat by omega, Nat.pow_add, ← Nat.mul_assoc, nv_cd]
    · cases h
/-- what is rounded, counted in the lower unit -/
theorem rto_amt {mode : Nat} {g : Bool} {l : List UInt8} {x place E : Int} (hx : E ≤ x) (hp : E ≤ place) : rto mode g (nv 0 l) x 1 place = rnd mode g (amt l x E) (10 ^ (place - E).toNat) := by
  unfold rto amt
  have h1 : E ≤ min x place := by omega
  have e1 : (x - E).toNat = (x - min x place).toNat + (min x place - E).toNat := by omega
  have e2 : (place - E).toNat = (place - min x place).toNat + (min x place - E).toNat := by omega
  rw [e1, e2, Nat.pow_add, Nat.pow_add, ← Nat.mul_assoc, Nat.one_mul]
  exact (rnd_mul mode g _ _ (Nat.pow_pos (by omega))).symm
/-- a finite number that may be, rounded: its amount -/
theorem fin_amt {mode : Nat} {g : Bool} {l : List UInt8} {x place E : Int} (hm : mayB 0 g l x = true) (hE : l ≠ [] → E ≤ x) (hp : E ≤ place) (h : (fin mode 0 g l x place).2 = 0) :
    ∃ l' x', (fin mode 0 g l x place).1 = dec 0 g l' x' ∧ mayB 0 g l' x' = true ∧ (l' ≠ [] → E ≤ x') ∧ amt l' x' E = rnd mode g (amt l x E) (10 ^ (place - E).toNat) * 10 ^ (place - E).toNat := by
  by_cases h0 : l = []
  · subst h0
    rw [fin_nil]
    refine ⟨[], x, rfl, hm, fun k => absurd rfl k, ?_⟩
    rw [amt_nil, rnd_zero, Nat.zero_mul]
  · rw [fin_some h0] at h ⊢
    rw [show ((mode : Nat) : Int).toNat = mode by omega] at h ⊢
    cases ho : pw mode g l x place with
    | none => rw [ho] at h; cases h
    | some p =>
      have ht : told g (rto mode g (nv 0 l) x 1 place) place = some (p.1, p.2) := ho
      obtain ⟨t1, t2⟩ := told_amt ht hp
      refine ⟨p.1, p.2, rfl, (mayB_iff ..).2 (told_may ht), t2, ?_⟩
      rw [t1, rto_amt (hE h0) hp]
theorem key_ne {c : Int} {g : Bool} (h : c ≠ 0) : keyV c g ≠ 0 := by
  unfold keyV
  by_cases h2 : c = 2
  · rw [if_pos h2]; decide
  · rw [if_neg h2, if_neg h]
    cases g <;> decide
theorem key_zero (g : Bool) : keyV 0 g = 0 := rfl
theorem cmpI_zero {a : Int} (h : a ≠ 0) : Lib.compareInt 0 a ≠ 0 ∧ Lib.compareInt a 0 ≠ 0 := by
  unfold Lib.compareInt
  rcases Int.lt_trichotomy a 0 with k | k | k
  · rw [if_neg (by omega), if_pos (by omega), if_pos k]; decide
  · exact absurd k h
  · rw [if_pos k, if_neg (by omega), if_pos (by omega)]; decide
end Go.Proofs.YtfddokfnplehkaaGreatDoor.Dc

/- Layer 5: dec.Neg. -/
set_option linter.unusedSimpArgs false
set_option linter.unusedVariables false
namespace Go.Proofs.YtfddokfnplehkaaGreatDoor.Dc
open Go.RowKit Go.Proofs.YtfddokfnplehkaaGreatDoor.Dig Go.Proofs.YtfddokfnplehkaaGreatDoor.W Go.Proofs.YtfddokfnplehkaaGreatDoor.Nat Go.Proofs.YtfddokfnplehkaaGreatDoor.Wh Go.Proofs.YtfddokfnplehkaaGreatDoor.Td Go.Proofs.YtfddokfnplehkaaGreatDoor.Bu Go.Proofs.YtfddokfnplehkaaGreatDoor.Tx Go.Proofs.YtfddokfnplehkaaGreatDoor.Sp Go.Proofs.YtfddokfnplehkaaGreatDoor.Rd

/-- the other sign -/
def ngG (c : Int) (g : Bool) : Bool := !g && !(c == 2)
def ngV (c : Int) (g : Bool) (l : List UInt8) (x : Int) : Array Value × Int := if mayB c g l x = false then (dec 0 false [] 0, 52) else (dec c (ngG c g) l x, 0)
theorem TV.setA {w W : World} {a0 a1 a2 a3 : Value} (h : TV w W a0 a1 a2 a3) (v : Value) : TV w (W.setCell ⟨w.heap.size, 1, none⟩ v) a0 v a2 a3 :=
  ⟨(h.a.set 1 v).cast rfl, h.r.far v (by show w.heap.size + 1 ≠ w.heap.size; omega), h.bl.setCell (Nat.le_refl _) v⟩
set_option maxHeartbeats 8000000 in
set_option maxRecDepth 100000 in
theorem neg_calls (c : Int) (g : Bool) (l : List UInt8) (x : Int) (w : World) (hl : l.length ≤ 9223372036854775807) :
    Calls Tryz.prog 60 #[.agg (dec c g l x)] w (Res w (ngV c g l x)) := by
  have T := TV.start w (.int .i64 c) (.bool g) (.string ⟨l.toArray⟩) (.int .i64 x)
  have HT := Lib.hid T
  have HM := Lib.hid (fun w1 => dmay_calls c g l x w1 hl)
  unfold ngV Res
  cases hm : mayB c g l x
  · rw [if_pos rfl]
    rw [hm] at HM
    unfold dec str at *
    dsimp only
    generalize (⟨l.toArray⟩ : ByteArray) = S at *
    clear T
    go_enter Tryz.func60, Tryz.ntmps60
    go_wp2_with (go_at_call 54; (with_reducible refine (HM.out _).mono ?_); rintro e w1 ⟨rfl, b1⟩; have x1 := HT.out.below b1; have k1 := x1.keep; have q1 := x1.res)
    obtain ⟨z1, z2⟩ := x1.ret (.int .i64 0) (.bool false) (.string ⟨#[]⟩) (.int .i64 0)
    exact bodyPost_ret (res_bk_t rfl _ z1 rfl Tryz.underlying23 rfl (by kernel_rfl)) rfl ⟨rfl, z2⟩
  · rw [if_neg (by decide)]
    rw [hm] at HM
    unfold ngG
    unfold dec str at *
    dsimp only
    generalize (⟨l.toArray⟩ : ByteArray) = S at *
    clear T
    cases hc : (c == 2)
    · have hc' : ¬ c = 2 := beq_eq_false_iff_ne.1 hc
      have hcn : (c != 2) = true := by simp [bne, hc]
      cases g
      · go_enter Tryz.func60, Tryz.ntmps60
        go_wp2_with (go_at_call 54; (with_reducible refine (HM.out _).mono ?_); rintro e w1 ⟨rfl, b1⟩; have x1 := HT.out.below b1; have k1 := x1.keep; have fa := x1.a.fr 1; have x2 := x1.setA (.bool true); have k2 := x2.keep; have q2 := x2.res)
        obtain ⟨z1, z2⟩ := x2.ret (.int .i64 c) (.bool true) (.string S) (.int .i64 x)
        exact bodyPost_ret (res_bk_t rfl _ z1 rfl Tryz.underlying23 rfl (by kernel_rfl)) rfl ⟨rfl, z2⟩
      · go_enter Tryz.func60, Tryz.ntmps60
        go_wp2_with (go_at_call 54; (with_reducible refine (HM.out _).mono ?_); rintro e w1 ⟨rfl, b1⟩; have x1 := HT.out.below b1; have k1 := x1.keep; have fa := x1.a.fr 1; have x2 := x1.setA (.bool false); have k2 := x2.keep; have q2 := x2.res)
        obtain ⟨z1, z2⟩ := x2.ret (.int .i64 c) (.bool false) (.string S) (.int .i64 x)
        exact bodyPost_ret (res_bk_t rfl _ z1 rfl Tryz.underlying23 rfl (by kernel_rfl)) rfl ⟨rfl, z2⟩
    · have hc' : c = 2 := beq_iff_eq.1 hc
      subst hc'
      cases g
      · go_enter Tryz.func60, Tryz.ntmps60
        go_wp2_with (go_at_call 54; (with_reducible refine (HM.out _).mono ?_); rintro e w1 ⟨rfl, b1⟩; have x1 := HT.out.below b1; have k1 := x1.keep; have fa := x1.a.fr 1; have x2 := x1.setA (.bool false); have k2 := x2.keep; have q2 := x2.res)
        obtain ⟨z1, z2⟩ := x2.ret (.int .i64 2) (.bool false) (.string S) (.int .i64 x)
        exact bodyPost_ret (res_bk_t rfl _ z1 rfl Tryz.underlying23 rfl (by kernel_rfl)) rfl ⟨rfl, z2⟩
      · go_enter Tryz.func60, Tryz.ntmps60
        go_wp2_with (go_at_call 54; (with_reducible refine (HM.out _).mono ?_); rintro e w1 ⟨rfl, b1⟩; have x1 := HT.out.below b1; have k1 := x1.keep; have fa := x1.a.fr 1; have x2 := x1.setA (.bool false); have k2 := x2.keep; have q2 := x2.res)
        obtain ⟨z1, z2⟩ := x2.ret (.int .i64 2) (.bool false) (.string S) (.int .i64 x)
        exact bodyPost_ret (res_bk_t rfl _ z1 rfl Tryz.underlying23 rfl (by kernel_rfl)) rfl ⟨rfl, z2⟩
theorem ngV_four (c : Int) (g : Bool) (l : List UInt8) (x : Int) : ∃ c4 g4 l4 x4, (ngV c g l x).1 = #[.int .i64 c4, .bool g4, .string l4, .int .i64 x4] := by
  unfold ngV
  split
  · exact ⟨_, _, _, _, rfl⟩
  · exact ⟨_, _, _, _, rfl⟩
/-- the mode that changes places -/
def oth (mode : Int) : Int := if mode = 0 then 1 else if mode = 1 then 0 else mode
theorem may_ng {c : Int} {g : Bool} {l : List UInt8} {x : Int} (h : mayB c g l x = true) : mayB c (ngG c g) l x = true := by
  rw [mayB_iff] at h ⊢
  unfold ngG
  rcases h with ⟨h1, h2, h3⟩ | ⟨h1, h2, h3⟩
  · refine .inl ⟨h1, h2, ?_⟩
    rcases h3 with rfl | rfl | ⟨rfl, rfl⟩
    · exact .inl rfl
    · exact .inr (.inl rfl)
    · exact .inr (.inr ⟨rfl, rfl⟩)
  · exact .inr ⟨h1, h2, h3⟩
theorem oc_err {g g' : Bool} {o : Option (List UInt8 × Int)} (h : oe o ≠ 0) : oc g o = oc g' o := by
  cases o with
  | none => rfl
  | some p => exact absurd rfl h
/-- what RoundSigns asks -/
theorem signs_plain {c : Int} {g : Bool} {l : List UInt8} {x place mode : Int} (h : mayB c g l x = true) :
    (atV c (ngG c g) l x place (oth mode)).2 = (atV c g l x place mode).2 ∧
    ((atV c g l x place mode).2 = 0 → ∃ c1 g1 l1 x1, (atV c g l x place mode).1 = dec c1 g1 l1 x1 ∧ mayB c1 g1 l1 x1 = true ∧ (atV c (ngG c g) l x place (oth mode)).1 = dec c1 (ngG c1 g1) l1 x1) := by
  have h' := may_ng h
  have ho : (oth mode < 0 ∨ 8 ≤ oth mode) ↔ (mode < 0 ∨ 8 ≤ mode) := by unfold oth; split; omega; split <;> omega
  have ka : ∀ m, askE true m = if m < 0 ∨ 8 ≤ m then 60 else 0 := fun m => by unfold askE; rw [if_neg (by decide)]
  have ha : askE true (oth mode) = askE true mode := by rw [ka, ka]; simp only [ho]
  unfold atV
  rw [h, h', ha]
  by_cases e0 : askE true mode ≠ 0
  · rw [if_pos e0, if_pos e0]
    exact ⟨rfl, fun k => absurd k e0⟩
  · rw [if_neg e0, if_neg e0]
    by_cases hp : place < -4000 ∨ 4000 < place
    · rw [if_pos hp, if_pos hp]
      exact ⟨rfl, fun k => by cases k⟩
    · rw [if_neg hp, if_neg hp]
      unfold fin
      by_cases hl : l = []
      · rw [if_pos hl, if_pos hl]
        exact ⟨rfl, fun _ => ⟨c, g, l, x, rfl, h, rfl⟩⟩
      · rw [if_neg hl, if_neg hl]
        obtain ⟨rfl, hF, hf⟩ := may_str h hl
        have hm : ¬ (mode < 0 ∨ 8 ≤ mode) := by
          intro k
          apply e0
          unfold askE
          rw [if_neg (by decide), if_pos k]
          decide
        have e1 : (oth mode).toNat = if mode.toNat = 0 then 1 else if mode.toNat = 1 then 0 else mode.toNat := by
          unfold oth
          by_cases m0 : mode = 0
          · rw [if_pos m0, if_pos (by omega)]; rfl
          · by_cases m1 : mode = 1
            · rw [if_neg m0, if_pos m1, if_neg (by omega), if_pos (by omega)]; rfl
            · rw [if_neg m0, if_neg m1, if_neg (by omega), if_neg (by omega)]
        have e2 : ngG 0 g = !g := by cases g <;> rfl
        have e3 : pw (oth mode).toNat (!g) l x place = pw mode.toNat g l x place := by
          unfold pw
          rw [e1, rto_turn (by omega)]
          rfl
        rw [e2, e3]
        refine ⟨rfl, fun k => ?_⟩
        cases ho' : pw mode.toNat g l x place with
        | none => rw [ho'] at k; cases k
        | some p =>
          have hmy := told_may (g := g) (l := p.1) (x := p.2) (show told g (rto mode.toNat g (nv 0 l) x 1 place) place = some (p.1, p.2) from ho')
          exact ⟨0, g, p.1, p.2, rfl, (mayB_iff ..).2 hmy, by rw [e2]; rfl⟩
end Go.Proofs.YtfddokfnplehkaaGreatDoor.Dc

/- Layer 5: dec.made; dec.at. -/
set_option linter.unusedSimpArgs false
set_option linter.unusedVariables false
namespace Go.Proofs.YtfddokfnplehkaaGreatDoor.Dc
open Go.RowKit Go.Proofs.YtfddokfnplehkaaGreatDoor.Dig Go.Proofs.YtfddokfnplehkaaGreatDoor.W Go.Proofs.YtfddokfnplehkaaGreatDoor.Nat Go.Proofs.YtfddokfnplehkaaGreatDoor.Wh Go.Proofs.YtfddokfnplehkaaGreatDoor.Td Go.Proofs.YtfddokfnplehkaaGreatDoor.Bu Go.Proofs.YtfddokfnplehkaaGreatDoor.Tx Go.Proofs.YtfddokfnplehkaaGreatDoor.Sp Go.Proofs.YtfddokfnplehkaaGreatDoor.Rd

theorem left_calls (l t : List UInt8) (h : Lib.trimLeftB l 48 = t) (w : World) : Calls Tryz.prog 82 #[.string ⟨l.toArray⟩, .string ⟨#[48]⟩] w fun e w' => e = .returned (.string ⟨t.toArray⟩) ∧ w = w' := by
  subst h
  exact (Tryz.strings_TrimLeft_one ⟨l.toArray⟩ 48 (by decide) w).mono fun _ _ ⟨a, b⟩ => ⟨a, b.symm⟩
theorem dd_dig : ∀ (k : Nat) (l : List UInt8), l.length = k → (∀ c ∈ l, isDig c) → dd k (nv 0 l) = l
  | 0, l, h, _ => by
    obtain rfl := List.eq_nil_of_length_eq_zero h
    rfl
  | k + 1, l, h, hd => by
    have hne : l ≠ [] := fun e => by rw [e] at h; cases h
    obtain ⟨r, c, rfl⟩ : ∃ r c, l = r ++ [c] := ⟨l.dropLast, l.getLast hne, (List.dropLast_concat_getLast hne).symm⟩
    have hr : r.length = k := by simpa using h
    have hc : isDig c := hd c (by simp)
    have hc2 := hc
    unfold isDig at hc2
    have e := dd_dig k r hr (fun b hb => hd b (by simp [hb]))
    rw [nv_append, nv_cons, nv_nil]
    have e1 : (nv 0 r * 10 + (c.toNat - 48)) / 10 = nv 0 r := by omega
    have e2 : (nv 0 r * 10 + (c.toNat - 48)) % 10 = c.toNat - 48 := by omega
    rw [dd, e1, e2, e]
    congr 1
    exact congrArg (fun z => [z]) (isDig_db hc)
/-- digits, with noughts at both ends, trimmed -/
theorem trim_dig {l : List UInt8} (h : ∀ c ∈ l, isDig c) : Lib.trimRightB (Lib.trimLeftB l 48) 48 = cd (nv 0 l) ∧ (nv 0 l ≠ 0 → (Lib.trimLeftB l 48).length = (cd (nv 0 l)).length + tz (nv 0 l)) ∧ (Lib.trimLeftB l 48).length ≤ l.length := by
  obtain ⟨t1, t2⟩ := trims (nv_lt h)
  rw [dd_dig _ l rfl h] at t1 t2
  refine ⟨t1, fun h0 => by have := t2 h0; omega, ?_⟩
  unfold Lib.trimLeftB
  exact (List.dropWhile_sublist _).length_le
set_option maxHeartbeats 4000000 in
set_option maxRecDepth 100000 in
theorem dmade_zero (g : Bool) (l : List UInt8) (E : Int) (w : World) (hd : ∀ c ∈ l, isDig c) (hl : l.length ≤ 1000000) (h0 : nv 0 l = 0) :
    Calls Tryz.prog 63 #[.bool g, str l, .int .i64 E] w fun e w' => e = .returned (.tuple #[.agg (dec 0 g [] 0), .int .i64 0]) ∧ Below w.heap.size w w' := by
  have b0 := alloc_below w (.cells #[.int .i64 0, .bool false, .string ⟨#[]⟩, .int .i64 0] 23)
  have HB0 := Lib.hid (Bk.start w 23 #[.int .i64 0, .bool false, .string ⟨#[]⟩, .int .i64 0])
  obtain ⟨t1, _, t3⟩ := trim_dig hd
  rw [h0, cd_zero] at t1
  have HL := Lib.hid (left_calls l _ rfl)
  have HR := Lib.hid (right_calls (Lib.trimLeftB l 48) [] t1 (by omega))
  have HM := Lib.hid (fun w1 => may_zero g ▸ dmay_calls 0 g [] 0 w1 (by decide))
  have HB := Lib.hid b0
  clear b0 t1 t3 h0 hd hl
  unfold dec str at HM ⊢
  go_enter Tryz.func63, Tryz.ntmps63
  go_wp2_with (first
    | (go_at_call 82; (with_reducible refine (HL.out _).mono ?_); rintro e w1 ⟨rfl, rfl⟩)
    | (go_at_call 97; (with_reducible refine (HR.out _).mono ?_); rintro e w2 ⟨rfl, rfl⟩)
    | (go_at_call 54; (with_reducible refine (HM.out _).mono ?_); rintro e w3 ⟨rfl, b3⟩; have Z := ((HB0.out).alloc (.cells #[.int .i64 0, .bool g, .string ⟨#[]⟩, .int .i64 0] 23)).below b3; have q := four ((bk_two w #[.int .i64 0, .bool false, .string ⟨#[]⟩, .int .i64 0] #[.int .i64 0, .bool g, .string ⟨#[]⟩, .int .i64 0] 23 23).2.1.below b3); have z := four Z; have f := frz Z))
  have bl := on (on HB.out (alloc_below _ (.cells #[.int .i64 0, .bool g, .string ⟨#[]⟩, .int .i64 0] 23))) b3
  exact bodyPost_ret (res_bk_t rfl _ (Z.set4 _ _ _ _ rfl) rfl Tryz.underlying23 rfl (by kernel_rfl)) rfl ⟨rfl, below_set4 bl (Nat.le_refl _) _ _ _ _⟩
set_option maxHeartbeats 4000000 in
set_option maxRecDepth 100000 in
theorem dmade_pos (g : Bool) (l : List UInt8) (E : Int) (w : World) (hd : ∀ c ∈ l, isDig c) (hl : l.length ≤ 1000000) (hE : -1000000 ≤ E) (hE2 : E ≤ 1000000) (h0 : nv 0 l ≠ 0) :
    Calls Tryz.prog 63 #[.bool g, str l, .int .i64 E] w fun e w' => e = .returned (.tuple #[.agg (oc g (told g (nv 0 l) E)), .int .i64 (oe (told g (nv 0 l) E))]) ∧ Below w.heap.size w w' := by
  have b0 := alloc_below w (.cells #[.int .i64 0, .bool false, .string ⟨#[]⟩, .int .i64 0] 23)
  have HB0 := Lib.hid (Bk.start w 23 #[.int .i64 0, .bool false, .string ⟨#[]⟩, .int .i64 0])
  obtain ⟨t1, t2, t3⟩ := trim_dig hd
  have t2 := t2 h0
  have HL := Lib.hid (left_calls l _ rfl)
  have HR := Lib.hid (right_calls (Lib.trimLeftB l 48) (cd (nv 0 l)) t1 (by omega))
  have hF := formed_cd h0
  have hM := fun w1 => dmay_calls 0 g (cd (nv 0 l)) (ce (nv 0 l) E) w1 (by omega)
  have hce : ce (nv 0 l) E = E + ((Lib.trimLeftB l 48).length : Int) - ((cd (nv 0 l)).length : Int) := by unfold ce; rw [if_neg h0]; omega
  have hs := size_of (cd (nv 0 l))
  have ht := size_of (Lib.trimLeftB l 48)
  have hlen := hF.len
  rw [may_form hF] at hM
  unfold told
  rw [if_neg h0]
  have HB := Lib.hid b0
  have hw1 : IntKind.i64.wrap (E + ((Lib.trimLeftB l 48).length : Int)) = E + ((Lib.trimLeftB l 48).length : Int) := by rw [IntKind.wrap_i64]; omega
  by_cases hf : fits (cd (nv 0 l)) (ce (nv 0 l) E)
  · rw [if_pos hf]
    rw [decide_eq_true hf] at hM
    clear b0 hf t1 hF hd h0
    unfold oc oe
    unfold dec str at hM ⊢
    rw [hce] at hM ⊢
    rw [← hs, ← ht] at hM ⊢
    rw [← hs] at hlen t2
    rw [← ht] at t2 t3
    have hst : (⟨(cd (nv 0 l)).toArray⟩ : ByteArray).size ≤ (⟨(Lib.trimLeftB l 48).toArray⟩ : ByteArray).size := by omega
    clear t2
    dsimp only
    generalize (⟨(cd (nv 0 l)).toArray⟩ : ByteArray) = S at *
    generalize (⟨(Lib.trimLeftB l 48).toArray⟩ : ByteArray) = T at *
    obtain ⟨e1, e2⟩ := emp hlen
    have HM := Lib.hid hM
    clear hM hce hs ht hw1
    go_enter Tryz.func63, Tryz.ntmps63
    go_wp2_with (first
      | (go_at_call 82; (with_reducible refine (HL.out _).mono ?_); rintro e w1 ⟨rfl, rfl⟩)
      | (go_at_call 97; (with_reducible refine (HR.out _).mono ?_); rintro e w2 ⟨rfl, rfl⟩)
      | (go_at_call 54; (with_reducible refine (HM.out _).mono ?_); rintro e w3 ⟨rfl, b3⟩; have Z := ((HB0.out).alloc (.cells #[.int .i64 0, .bool g, .string S, .int .i64 (E + (T.size : Int) - (S.size : Int))] 23)).below b3; have q := four ((bk_two w #[.int .i64 0, .bool false, .string ⟨#[]⟩, .int .i64 0] #[.int .i64 0, .bool g, .string S, .int .i64 (E + (T.size : Int) - (S.size : Int))] 23 23).2.1.below b3); have z := four Z; have f := frz Z))
    have bl := on (on HB.out (alloc_below _ (.cells #[.int .i64 0, .bool g, .string S, .int .i64 (E + (T.size : Int) - (S.size : Int))] 23))) b3
    exact bodyPost_ret (res_bk_t rfl _ (Z.set4 _ _ _ _ rfl) rfl Tryz.underlying23 rfl (by kernel_rfl)) rfl ⟨rfl, below_set4 bl (Nat.le_refl _) _ _ _ _⟩
  · rw [if_neg hf]
    rw [decide_eq_false hf] at hM
    clear b0 hf t1 hF hd h0
    unfold oc oe
    unfold dec str at hM ⊢
    rw [hce] at hM
    rw [← hs, ← ht] at hM
    rw [← hs] at hlen t2
    rw [← ht] at t2 t3
    have hst : (⟨(cd (nv 0 l)).toArray⟩ : ByteArray).size ≤ (⟨(Lib.trimLeftB l 48).toArray⟩ : ByteArray).size := by omega
    clear t2
    dsimp only
    generalize (⟨(cd (nv 0 l)).toArray⟩ : ByteArray) = S at *
    generalize (⟨(Lib.trimLeftB l 48).toArray⟩ : ByteArray) = T at *
    obtain ⟨e1, e2⟩ := emp hlen
    have HM := Lib.hid hM
    clear hM hce hs ht hw1
    go_enter Tryz.func63, Tryz.ntmps63
    go_wp2_with (first
      | (go_at_call 82; (with_reducible refine (HL.out _).mono ?_); rintro e w1 ⟨rfl, rfl⟩)
      | (go_at_call 97; (with_reducible refine (HR.out _).mono ?_); rintro e w2 ⟨rfl, rfl⟩)
      | (go_at_call 54; (with_reducible refine (HM.out _).mono ?_); rintro e w3 ⟨rfl, b3⟩; have Z := ((HB0.out).alloc (.cells #[.int .i64 0, .bool g, .string S, .int .i64 (E + (T.size : Int) - (S.size : Int))] 23)).below b3; have z := four Z; have f := frz Z))
    have bl := on (on HB.out (alloc_below _ (.cells #[.int .i64 0, .bool g, .string S, .int .i64 (E + (T.size : Int) - (S.size : Int))] 23))) b3
    exact bodyPost_ret (res_bk_t rfl _ (Z.set4 _ _ _ _ rfl) rfl Tryz.underlying23 rfl (by kernel_rfl)) rfl ⟨rfl, below_set4 bl (Nat.le_refl _) _ _ _ _⟩
/-- dec.made at digits with noughts wherever they are -/
theorem dmade_calls (g : Bool) (l : List UInt8) (E : Int) (w : World) (hd : ∀ c ∈ l, isDig c) (hl : l.length ≤ 1000000) (hE : -1000000 ≤ E) (hE2 : E ≤ 1000000) :
    Calls Tryz.prog 63 #[.bool g, str l, .int .i64 E] w (Ans w g (told g (nv 0 l) E)) := by
  by_cases h0 : nv 0 l = 0
  · rw [h0, told_zero]
    exact dmade_zero g l E w hd hl h0
  · exact dmade_pos g l E w hd hl hE hE2 h0
/-- a Dec's box, and the cell of a whole number -/
structure TW (w W : World) (g : Bool) (S : ByteArray) (x : Int) : Prop where
  a : Bk W w.heap.size 23 #[.int .i64 0, .bool g, .string S, .int .i64 x]
  r : Two W (w.heap.size + 1) 84 (.bool false) (.slice none 0 0)
  bl : Below w.heap.size w W
section
variable {w W W' : World} {g : Bool} {S : ByteArray} {x : Int}
theorem TW.start (w : World) (g : Bool) (S : ByteArray) (x : Int) : TW w ((w.alloc (.cells #[.int .i64 0, .bool g, .string S, .int .i64 x] 23)).alloc (.cells #[.bool false, .slice none 0 0] 84)) g S x := by
  have h2 := Two.start (w.alloc (.cells #[.int .i64 0, .bool g, .string S, .int .i64 x] 23)) (.bool false) (.slice none 0 0) 84
  rw [show (w.alloc (.cells #[.int .i64 0, .bool g, .string S, .int .i64 x] 23)).heap.size = w.heap.size + 1 by simp] at h2
  exact ⟨(Bk.start w _ _).alloc _, h2, on (alloc_below w _) (alloc_below _ _)⟩
theorem TW.below (h : TW w W g S x) (hb : Below W.heap.size W W') : TW w W' g S x := ⟨h.a.below hb, h.r.below hb, on h.bl hb⟩
theorem TW.drew (h : TW w W g S x) : TW w W.drew g S x := h.below (Below.refl _ _).drew
theorem TW.neg (h : TW w W g S x) : W.cell? ⟨w.heap.size, 1, none⟩ = some (.bool g) := h.a.at_ 1 rfl
theorem TW.far (h : TW w W g S x) (a b : Value) : ((W.setCell ⟨w.heap.size + 1, 0, none⟩ a).setCell ⟨w.heap.size + 1, 1, none⟩ b).cell? ⟨w.heap.size, 1, none⟩ = some (.bool g) := by
  have hne : ∀ j, (⟨w.heap.size + 1, j, none⟩ : Addr) ≠ (⟨w.heap.size, 1, none⟩ : Addr) := fun j e => by have : w.heap.size + 1 = w.heap.size := congrArg Addr.block e; omega
  rw [World.cell?_setCell_other _ _ _ _ (hne _), World.cell?_setCell_other _ _ _ _ (hne _)]
  exact h.neg
end
set_option maxHeartbeats 8000000 in
set_option maxRecDepth 100000 in
/-- dec.at: what is not zero -/
theorem dat_calls (g : Bool) (l : List UInt8) (x e0 : Int) (w : World) (hF : Formed l) (hf : l.length ≤ 1000) (hx : -5000 ≤ x ∧ x ≤ 5000) (he : -5000 ≤ e0 ∧ e0 ≤ x) (hxe : x - e0 ≤ 8192) :
    Calls Tryz.prog 62 #[.agg (dec 0 g l x), .int .i64 e0] w (GivesW w (sg g (amt l x e0))) := by
  obtain ⟨k1, hk1⟩ : ∃ k1 : Nat, x - e0 = k1 := ⟨(x - e0).toNat, by omega⟩
  have hb1 : k1 ≤ 8192 := by omega
  have hD := (nv_10 hF).mono hf
  have q1 := (Lo.pow k1).mono (show k1 + 1 ≤ 8193 by omega)
  have a1 := hD.mul q1
  have HP1 := Lib.hid (fun w1 => Wh.pow10_calls k1 w1 hb1)
  have HPa := Lib.hid (fun w1 => parse_formed hF (by omega) w1)
  unfold amt
  rw [show (x - e0).toNat = k1 by omega]
  have hlen := hF.len
  unfold dec str
  rw [← size_of l] at hlen
  generalize (⟨l.toArray⟩ : ByteArray) = S at *
  obtain ⟨em1, em2⟩ := emp hlen
  generalize nv 0 l = D at *
  have HT := Lib.hid (TW.start w g S x)
  have HM1 := Lib.hid (fun (A A' : Option Addr) (n c n' c' : Nat) (w1 : World) (h : SI w1 .u64 A n c (digs U D)) (h' : SI w1 .u64 A' n' c' (digs U (10 ^ k1))) => mul_10 A A' n c n' c' D (10 ^ k1) w1 h h' (hD.mono (by omega : _ ≤ 20000)) (q1.mono (by omega)) (by omega))
  have HL := Lib.hid a1.len
  clear a1 q1 hD hF hf
  generalize D * 10 ^ k1 = m at *
  go_enter Tryz.func62, Tryz.ntmps62
  go_wp2_with (first
    | (go_at_call 55; (with_reducible refine (HPa.out _).mono ?_); rintro e w1 ⟨A1, n1, c1, rfl, r1, b1⟩; have x1 := HT.out.below b1; have y1 := four x1.a)
    | (go_at_call 69; ((with_reducible refine (HP1.out w1).mono ?_); rintro e w2 ⟨A2, n2, c2, rfl, r2, b2⟩; have x2 := x1.below b2)))
  have zf := x2.drew
  have kf := zf.neg
  clear y1
  go_region_held3 (fun w' => w'.cell? ⟨w.heap.size, 1, none⟩ = some (.bool g))
    (first
      | (with_reducible exact kf)
      | (with_reducible exact k3)
      | (with_reducible exact k4)
      | (with_reducible exact f4))
    (first
      | (go_at_call 70; (with_reducible refine (HM1.out A1 A2 n1 c1 n2 c2 _ ((r1.below b2).below (Below.refl _ _).drew) (r2.below (Below.refl _ _).drew)).mono ?_); rintro e w3 ⟨v3, rfl, o3, b3⟩; obtain ⟨A3, n3, c3, rfl, r3⟩ := o3.reads_n; have z3 := zf.below b3; have k3 := z3.neg)
      | (go_at_call 94; (with_reducible refine (make_d g A3 n3 c3 m w3 r3 (by have := r3.len; have := HL.out; omega)).mono ?_); rintro e w4 ⟨A4, n4, c4, rfl, r4, f4', b4⟩; have z4 := z3.below b4; have k4 := z4.neg; have f4 := z4.far (.bool (decide (sg g m < 0))) (.slice A4 n4 c4); have q0 := z4.r.c0; have q1 := z4.r.c1; have g0 := z4.r.f0; have g1 := z4.r.f1))
  go_wp2
  obtain ⟨p1, p2, p3⟩ := put_res (a := .bool (decide (sg g m < 0))) (b := .slice A4 n4 c4) z3.bl z3.r (by omega) r4 f4' b4
  exact bodyPost_ret (two_results rfl _ (z4.r.store _ _) rfl) rfl ⟨A4, n4, c4, rfl, p1, p2, p3⟩
end Go.Proofs.YtfddokfnplehkaaGreatDoor.Dc

/- Layer 5: dec.Add of two finite ones. -/
set_option linter.unusedSimpArgs false
set_option linter.unusedVariables false
namespace Go.Proofs.YtfddokfnplehkaaGreatDoor.Dc
open Go.RowKit Go.Proofs.YtfddokfnplehkaaGreatDoor.Dig Go.Proofs.YtfddokfnplehkaaGreatDoor.W Go.Proofs.YtfddokfnplehkaaGreatDoor.Nat Go.Proofs.YtfddokfnplehkaaGreatDoor.Wh Go.Proofs.YtfddokfnplehkaaGreatDoor.Td Go.Proofs.YtfddokfnplehkaaGreatDoor.Bu Go.Proofs.YtfddokfnplehkaaGreatDoor.Tx Go.Proofs.YtfddokfnplehkaaGreatDoor.Sp Go.Proofs.YtfddokfnplehkaaGreatDoor.Rd

theorem wadd_z (z z' : Int) (A A' : Option Addr) (n c n' c' : Nat) (w : World) (h : SI w .u64 A n c (digs U z.natAbs)) (h' : SI w .u64 A' n' c' (digs U z'.natAbs)) (hz : (digs U z.natAbs).length ≤ 100000) (hz' : (digs U z'.natAbs).length ≤ 100000) :
    Calls Tryz.prog 61 #[.agg #[.bool (decide (z < 0)), .slice A n c], .agg #[.bool (decide (z' < 0)), .slice A' n' c']] w (GivesW w (z + z')) := by
  have e := wadd_calls (decide (z < 0)) (decide (z' < 0)) A A' n c n' c' (digs U z.natAbs) (digs U z'.natAbs) w h h' (dl _) (dl _) (by rw [← h.len]; omega) (by rw [← h'.len]; omega)
  rw [val_digs U_two, val_digs U_two, sg_self, sg_self] at e
  exact e
section
variable {w W W' : World} {a0 a1 a2 a3 b0 b1 b2 b3 : Value}
theorem TS.k8 (h : TS w W a0 a1 a2 a3 b0 b1 b2 b3) : W.cell? ⟨w.heap.size, 0, none⟩ = some a0 ∧ W.cell? ⟨w.heap.size, 1, none⟩ = some a1 ∧ W.cell? ⟨w.heap.size, 2, none⟩ = some a2 ∧ W.cell? ⟨w.heap.size, 3, none⟩ = some a3 ∧ W.cell? ⟨w.heap.size + 1, 0, none⟩ = some b0 ∧ W.cell? ⟨w.heap.size + 1, 1, none⟩ = some b1 ∧ W.cell? ⟨w.heap.size + 1, 2, none⟩ = some b2 ∧ W.cell? ⟨w.heap.size + 1, 3, none⟩ = some b3 := h.keep
theorem TS.farC (h : TS w W a0 a1 a2 a3 b0 b1 b2 b3) {p : Addr} (hp : w.heap.size + 1 + 1 < p.block) (v : Value) : TS w (W.setCell p v) a0 a1 a2 a3 b0 b1 b2 b3 :=
  ⟨h.a.far v (by omega), h.b.far v (by omega), h.r.far v (by omega), h.bl.setCell (by omega) v⟩
theorem TS.far2 (h : TS w W a0 a1 a2 a3 b0 b1 b2 b3) {q : Nat} (hp : w.heap.size + 1 + 1 < q) (a b : Value) : TS w ((W.setCell ⟨q, 0, none⟩ a).setCell ⟨q, 1, none⟩ b) a0 a1 a2 a3 b0 b1 b2 b3 :=
  (h.farC (p := (⟨q, 0, none⟩ : Addr)) hp a).farC (p := (⟨q, 1, none⟩ : Addr)) hp b
theorem TS.two (h : TS w W a0 a1 a2 a3 b0 b1 b2 b3) {q : Nat} (hp : w.heap.size + 1 + 1 < q) {u v : Value} (hq : Two W q 84 u v) (a b c d : Value) : ((((W.setCell ⟨w.heap.size + 1 + 1, 0, none⟩ a).setCell ⟨w.heap.size + 1 + 1, 1, none⟩ b).setCell ⟨w.heap.size + 1 + 1, 2, none⟩ c).setCell ⟨w.heap.size + 1 + 1, 3, none⟩ d).cell? ⟨q, 0, none⟩ = some u ∧ ((((W.setCell ⟨w.heap.size + 1 + 1, 0, none⟩ a).setCell ⟨w.heap.size + 1 + 1, 1, none⟩ b).setCell ⟨w.heap.size + 1 + 1, 2, none⟩ c).setCell ⟨w.heap.size + 1 + 1, 3, none⟩ d).cell? ⟨q, 1, none⟩ = some v := by
  have k : ∀ {V : World} (i j : Nat) (y t : Value), V.cell? ⟨q, i, none⟩ = some t → (V.setCell ⟨w.heap.size + 1 + 1, j, none⟩ y).cell? ⟨q, i, none⟩ = some t := fun {V} i j y t hc =>
    (World.cell?_setCell_other V ⟨w.heap.size + 1 + 1, j, none⟩ ⟨q, i, none⟩ y (fun he => by have : w.heap.size + 1 + 1 = q := congrArg Addr.block he; omega)).trans hc
  exact ⟨k _ _ _ _ (k _ _ _ _ (k _ _ _ _ (k _ _ _ _ hq.c0))), k _ _ _ _ (k _ _ _ _ (k _ _ _ _ (k _ _ _ _ hq.c1)))⟩
end
theorem put_far {w2 w3 : World} {q n c : Nat} {A : Option Addr} {D : List Nat} {t : TypeId} {u v : Value} (hs : SI w3 .u64 A n c D) (hf : ∀ b o s, A = some ⟨b, o, s⟩ → w2.heap.size ≤ b) (hB : Two w2 q t u v) (a b : Value) : SI ((w3.setCell ⟨q, 0, none⟩ a).setCell ⟨q, 1, none⟩ b) .u64 A n c D := by
  have h2 := hB.lt
  have far : ∀ b o s, A = some ⟨b, o, s⟩ → b ≠ q := fun b o s e => by have h1 := hf b o s e; omega
  exact si_setFar (si_setFar hs far a) far b
theorem two_fz {w : World} {g : Nat} {t : TypeId} {u v : Value} (h : Two w g t u v) : w.cell? ⟨g, 0, none⟩ = some u ∧ w.cell? ⟨g, 1, none⟩ = some v ∧ w.frozen? ⟨g, 0, none⟩ = false ∧ w.frozen? ⟨g, 1, none⟩ = false := ⟨h.c0, h.c1, h.f0, h.f1⟩
theorem sum_lo {a b K : Nat} (g g' : Bool) (ha : Lo a K) (hb : Lo b K) : Lo (sg g a + sg g' b).natAbs (K + 1) := by
  refine (ha.add hb).le ?_
  unfold sg
  cases g <;> cases g' <;> simp <;> omega
set_option maxHeartbeats 32000000 in
set_option maxRecDepth 100000 in
/-- two that are not zero -/
theorem add_both (g g' : Bool) (l l' : List UInt8) (x x' e0 : Int) (w : World) (hp : Pow w) (hF : Formed l) (hF' : Formed l') (hf : fits l x) (hf' : fits l' x') (he : min x x' = e0) :
    Calls Tryz.prog 39 #[.agg (dec 0 g l x), .agg (dec 0 g' l' x')] w
      (Ans w (decide (sg g (amt l x e0) + sg g' (amt l' x' e0) < 0)) (told (decide (sg g (amt l x e0) + sg g' (amt l' x' e0) < 0)) (sg g (amt l x e0) + sg g' (amt l' x' e0)).natAbs e0)) := by
  have M1 := fun w1 => dmay_calls 0 g l x w1 (by have := hf.1; omega)
  have M2 := fun w1 => dmay_calls 0 g' l' x' w1 (by have := hf'.1; omega)
  rw [may_form hF, decide_eq_true hf] at M1
  rw [may_form hF', decide_eq_true hf'] at M2
  obtain ⟨f1, f2, f3⟩ := hf
  obtain ⟨f1', f2', f3'⟩ := hf'
  have A1 := fun w1 => dat_calls g l x e0 w1 hF f1 (by omega) (by omega) (by omega)
  have A2 := fun w1 => dat_calls g' l' x' e0 w1 hF' f1' (by omega) (by omega) (by omega)
  have L1 : Lo (amt l x e0) 10000 := by
    have q1 := (Lo.pow (x - e0).toNat).mono (show (x - e0).toNat + 1 ≤ 9000 by omega)
    exact ((nv_10 hF).mono f1).mul q1
  have L2 : Lo (amt l' x' e0) 10000 := by
    have q1 := (Lo.pow (x' - e0).toNat).mono (show (x' - e0).toNat + 1 ≤ 9000 by omega)
    exact ((nv_10 hF').mono f1').mul q1
  have L3 := sum_lo g g' L1 L2
  have l1 : (digs U (sg g (amt l x e0)).natAbs).length ≤ 100000 := by rw [sg_abs]; have := L1.len; omega
  have l2 : (digs U (sg g' (amt l' x' e0)).natAbs).length ≤ 100000 := by rw [sg_abs]; have := L2.len; omega
  generalize sg g (amt l x e0) = z1 at *
  generalize sg g' (amt l' x' e0) = z2 at *
  obtain ⟨z3, hz3⟩ : ∃ z3, z1 + z2 = z3 := ⟨_, rfl⟩
  have WA := fun (A A' : Option Addr) (n c n' c' : Nat) (w1 : World) (h : SI w1 .u64 A n c (digs U z1.natAbs)) (h' : SI w1 .u64 A' n' c' (digs U z2.natAbs)) => wadd_z z1 z2 A A' n c n' c' w1 h h' l1 l2
  rw [hz3] at WA L3 ⊢
  have hdl := dec_len_le L3 (by omega)
  have TX := fun (A : Option Addr) (n c : Nat) (w1 : World) (h : SI w1 .u64 A n c (digs U z3.natAbs)) (hp : Pow w1) => text_d A n c z3.natAbs w1 h (by rw [← h.len]; have := L3.len; omega) hp
  have MA := fun w1 => dmade_calls (decide (z3 < 0)) (Lib.decDigits z3.natAbs) e0 w1 (dec_isDig _) (by omega) (by omega) (by omega)
  rw [nv_dec] at MA
  unfold Ans at MA ⊢
  obtain ⟨G, L, X, e4⟩ := oc_four (decide (z3 < 0)) (told (decide (z3 < 0)) z3.natAbs e0)
  rw [e4] at MA ⊢
  generalize oe (told (decide (z3 < 0)) z3.natAbs e0) = er at *
  have hlen := hF.len
  have hlen' := hF'.len
  unfold dec str at M1 M2 A1 A2 ⊢
  unfold str at TX MA
  rw [← size_of l] at hlen
  rw [← size_of l'] at hlen'
  generalize (⟨l.toArray⟩ : ByteArray) = S at *
  generalize (⟨l'.toArray⟩ : ByteArray) = S' at *
  generalize (⟨(Lib.decDigits z3.natAbs).toArray⟩ : ByteArray) = T at *
  obtain ⟨em1, em2⟩ := emp hlen
  obtain ⟨em3, em4⟩ := emp hlen'
  have HM1 := Lib.hid M1
  have HM2 := Lib.hid M2
  have HA1 := Lib.hid A1
  have HA2 := Lib.hid A2
  have HWA := Lib.hid WA
  have HTX := Lib.hid TX
  have HMA := Lib.hid MA
  have T0 := TS.start w (.int .i64 0) (.bool g) (.string S) (.int .i64 x) (.int .i64 0) (.bool g') (.string S') (.int .i64 x')
  have HT := Lib.hid T0
  have HP := Lib.hid hp
  have HW := Lib.hid (hp.below T0.bl)
  clear M1 M2 A1 A2 WA TX MA hz3 L1 L2 L3 l1 l2 hdl e4 hlen hlen' hF hF' f1 f2 f3 f1' f2' f3' T0 hp
  go_enter Tryz.func39, Tryz.ntmps39
  go_wp2_with (first
    | (go_at_call 54; first
      | ((with_reducible refine (HM1.out _).mono ?_); rintro e w1 ⟨rfl, b1⟩; have x1 := HT.out.below b1; have k1 := x1.keep; unfold KS at k1)
      | ((with_reducible refine (HM2.out w1).mono ?_); rintro e V ⟨rfl, b2⟩; have x2 := x1.below b2; have p2 := (HW.out.below b1).below b2; have k2 := x2.keep; unfold KS at k2)))
  clear k1 k2 HM1 HM2 x1 b1 b2
  have z0 := x2.drew
  have za := (x2.alloc (.cells #[.bool false, .slice none 0 0] 84)).drew
  have hlt := x2.r.lt
  go_region_held3 (fun w' => w'.cell? ⟨w.heap.size, 0, none⟩ = some (.int .i64 0) ∧ w'.cell? ⟨w.heap.size, 1, none⟩ = some (.bool g) ∧ w'.cell? ⟨w.heap.size, 2, none⟩ = some (.string S) ∧ w'.cell? ⟨w.heap.size, 3, none⟩ = some (.int .i64 x) ∧ w'.cell? ⟨w.heap.size + 1, 0, none⟩ = some (.int .i64 0) ∧ w'.cell? ⟨w.heap.size + 1, 1, none⟩ = some (.bool g') ∧ w'.cell? ⟨w.heap.size + 1, 2, none⟩ = some (.string S') ∧ w'.cell? ⟨w.heap.size + 1, 3, none⟩ = some (.int .i64 x'))
    (first
      | (with_reducible exact z0.k8)
      | (with_reducible exact za.k8)
      | (with_reducible exact y1.k8)
      | (with_reducible exact y1a.k8)
      | (with_reducible exact y2.k8)
      | (with_reducible exact y2a.k8)
      | (with_reducible exact y3.k8)
      | (with_reducible exact y3a.k8)
      | (with_reducible exact zE.k8))
    (first
      | (go_at_call_of 62 (Value.string S); first
        | ((with_reducible refine (HA1.out V.drew).mono ?_); rintro e w1 ⟨A1, n1, c1, rfl, r1, f1, b1⟩; have y1 := z0.below b1; have y1a := y1.alloc (.cells #[.bool false, .slice none 0 0] 84))
        | ((with_reducible refine (HA1.out (V.alloc (.cells #[.bool false, .slice none 0 0] 84)).drew).mono ?_); rintro e w1 ⟨A1, n1, c1, rfl, r1, f1, b1⟩; have y1 := za.below b1; have tV : True := trivial; have B1 := ((Two.start V (.bool false) (.slice none 0 0) 84).below (Below.refl _ _).drew).below b1)
        | (have tag := B1; (with_reducible refine (HA1.out w1).mono ?_); rintro e w2 ⟨A1, n1, c1, rfl, r1, f1, b2⟩; have y2 := y1.below b2; have s1 := r1; have s2 := r2.below b2; have B2 := B1.below b2; have hq : w.heap.size + 1 + 1 < V.heap.size := hlt)
        | ((with_reducible refine (HA1.out w1).mono ?_); rintro e w2 ⟨A1, n1, c1, rfl, r1, f1, b2⟩; have y2 := y1.below b2; have y2a := y2.alloc (.cells #[.bool false, .slice none 0 0] 84); have s1 := r1; have s2 := r2.below b2)
        | ((with_reducible refine (HA1.out (w1.alloc (.cells #[.bool false, .slice none 0 0] 84))).mono ?_); rintro e w2 ⟨A1, n1, c1, rfl, r1, f1, b2⟩; have y2 := y1a.below b2; have s1 := r1; have s2 := (r2.alloc (.cells #[.bool false, .slice none 0 0] 84)).below b2; have tw1 : True := trivial; have B2 := (Two.start w1 (.bool false) (.slice none 0 0) 84).below b2; have hq : w.heap.size + 1 + 1 < w1.heap.size := y1.r.lt))
      | (go_at_call_of 62 (Value.string S'); first
        | ((with_reducible refine (HA2.out V.drew).mono ?_); rintro e w1 ⟨A2, n2, c2, rfl, r2, f2, b1⟩; have y1 := z0.below b1; have y1a := y1.alloc (.cells #[.bool false, .slice none 0 0] 84))
        | ((with_reducible refine (HA2.out (V.alloc (.cells #[.bool false, .slice none 0 0] 84)).drew).mono ?_); rintro e w1 ⟨A2, n2, c2, rfl, r2, f2, b1⟩; have y1 := za.below b1; have tV : True := trivial; have B1 := ((Two.start V (.bool false) (.slice none 0 0) 84).below (Below.refl _ _).drew).below b1)
        | (have tag := B1; (with_reducible refine (HA2.out w1).mono ?_); rintro e w2 ⟨A2, n2, c2, rfl, r2, f2, b2⟩; have y2 := y1.below b2; have s2 := r2; have s1 := r1.below b2; have B2 := B1.below b2; have hq : w.heap.size + 1 + 1 < V.heap.size := hlt)
        | ((with_reducible refine (HA2.out w1).mono ?_); rintro e w2 ⟨A2, n2, c2, rfl, r2, f2, b2⟩; have y2 := y1.below b2; have y2a := y2.alloc (.cells #[.bool false, .slice none 0 0] 84); have s2 := r2; have s1 := r1.below b2)
        | ((with_reducible refine (HA2.out (w1.alloc (.cells #[.bool false, .slice none 0 0] 84))).mono ?_); rintro e w2 ⟨A2, n2, c2, rfl, r2, f2, b2⟩; have y2 := y1a.below b2; have s2 := r2; have s1 := (r1.alloc (.cells #[.bool false, .slice none 0 0] 84)).below b2; have tw1 : True := trivial; have B2 := (Two.start w1 (.bool false) (.slice none 0 0) 84).below b2; have hq : w.heap.size + 1 + 1 < w1.heap.size := y1.r.lt))
      | (go_at_call 61; first
        | (have tag := B2; (with_reducible refine (HWA.out A1 A2 n1 c1 n2 c2 w2 s1 s2).mono ?_); rintro e w3 ⟨A3, n3, c3, rfl, r3, f3, b3⟩; have y3 := y2.below b3; have B3 := B2.below b3; have hB := B2.lt; have BE := B3.store (.bool (decide (z3 < 0))) (.slice A3 n3 c3); have zE := y3.far2 hq (.bool (decide (z3 < 0))) (.slice A3 n3 c3); have sE := put_far r3 f3 B2 (.bool (decide (z3 < 0))) (.slice A3 n3 c3); have q3 := two_fz B3)
        | ((with_reducible refine (HWA.out A1 A2 n1 c1 n2 c2 w2 s1 s2).mono ?_); rintro e w3 ⟨A3, n3, c3, rfl, r3, f3, b3⟩; have y3 := y2.below b3; have tw3 : True := trivial; have y3a := y3.alloc (.cells #[.bool false, .slice none 0 0] 84); have zE := y3.alloc (.cells #[.bool (decide (z3 < 0)), .slice A3 n3 c3] 84); have BE := Two.start w3 (.bool (decide (z3 < 0))) (.slice A3 n3 c3) 84; have sE := r3.alloc (.cells #[.bool (decide (z3 < 0)), .slice A3 n3 c3] 84); have hq := y3.r.lt)
        | ((with_reducible refine (HWA.out A1 A2 n1 c1 n2 c2 (w2.alloc (.cells #[.bool false, .slice none 0 0] 84)) (s1.alloc (.cells #[.bool false, .slice none 0 0] 84)) (s2.alloc (.cells #[.bool false, .slice none 0 0] 84))).mono ?_); rintro e w3 ⟨A3, n3, c3, rfl, r3, f3, b3⟩; have y3 := y2a.below b3; have tw2 : True := trivial; have B3 := (Two.start w2 (.bool false) (.slice none 0 0) 84).below b3; have hB := (Two.start w2 (.bool false) (.slice none 0 0) 84).lt; have hq : w.heap.size + 1 + 1 < w2.heap.size := y2.r.lt; have BE := B3.store (.bool (decide (z3 < 0))) (.slice A3 n3 c3); have zE := y3.far2 hq (.bool (decide (z3 < 0))) (.slice A3 n3 c3); have sE := put_far r3 f3 (Two.start w2 (.bool false) (.slice none 0 0) 84) (.bool (decide (z3 < 0))) (.slice A3 n3 c3); have q3 := two_fz B3)))
  all_goals
    first
      | (have _ := tV; generalize V.heap.size = G7 at *; generalize ((w3.setCell ⟨G7, 0, none⟩ (.bool (decide (z3 < 0)))).setCell ⟨G7, 1, none⟩ (.slice A3 n3 c3)) = WE at *)
      | (have _ := tw1; generalize w1.heap.size = G7 at *; generalize ((w3.setCell ⟨G7, 0, none⟩ (.bool (decide (z3 < 0)))).setCell ⟨G7, 1, none⟩ (.slice A3 n3 c3)) = WE at *)
      | (have _ := tw2; generalize w2.heap.size = G7 at *; generalize ((w3.setCell ⟨G7, 0, none⟩ (.bool (decide (z3 < 0)))).setCell ⟨G7, 1, none⟩ (.slice A3 n3 c3)) = WE at *)
      | (have _ := tw3; generalize w3.heap.size = G7 at *; generalize (w3.alloc (.cells #[.bool (decide (z3 < 0)), .slice A3 n3 c3] 84)) = WE at *)
    have pE := (HP.out.below zE.bl).below (Below.refl _ _).drew
    have v0 := zE.drew
    have s0 := sE.below (Below.refl _ _).drew
    have D0 := BE.below (Below.refl _ _).drew
    have u0 := And.intro D0.c0 D0.c1
    clear z0 za b1 b2 b3 y1 y2 y3 r1 r2 r3 s1 s2 f1 f2 f3
    go_wp2
    go_region_held3 (fun w' => w'.cell? ⟨G7, 0, none⟩ = some (.bool (decide (z3 < 0))) ∧ w'.cell? ⟨G7, 1, none⟩ = some (.slice A3 n3 c3))
      (first
        | (with_reducible exact u0)
        | (with_reducible exact u4)
        | (with_reducible exact u5)
        | (with_reducible exact u6))
      (first
        | (go_at_call 64; (with_reducible refine (HTX.out A3 n3 c3 _ s0 pE).mono ?_); rintro e w4 ⟨rfl, b4⟩; have v4 := v0.below b4; have D4 := D0.below b4; have u4 := And.intro D4.c0 D4.c1)
        | (go_at_call 63; (with_reducible refine (HMA.out w4).mono ?_); rintro e w5 ⟨rfl, b5⟩; have v5 := v4.below b5; have D5 := D4.below b5; have u5 := And.intro D5.c0 D5.c1; have u6 := v5.two hq D5 (.int .i64 0) (.bool G) (.string L) (.int .i64 X); have q5 := v5.res))
    go_wp2
    obtain ⟨o1, o2⟩ := v5.ret (.int .i64 0) (.bool G) (.string L) (.int .i64 X)
    exact bodyPost_ret (res_bk_t rfl _ o1 rfl Tryz.underlying23 rfl (by kernel_rfl)) rfl ⟨rfl, o2⟩
end Go.Proofs.YtfddokfnplehkaaGreatDoor.Dc

/- Layer 6's laws: words for RoundWays and RoundOrder. -/
set_option linter.unusedSimpArgs false
set_option linter.unusedVariables false
namespace Go.Proofs.YtfddokfnplehkaaGreatDoor.Dc
open Go.RowKit Go.Proofs.YtfddokfnplehkaaGreatDoor.Dig Go.Proofs.YtfddokfnplehkaaGreatDoor.W Go.Proofs.YtfddokfnplehkaaGreatDoor.Nat Go.Proofs.YtfddokfnplehkaaGreatDoor.Wh Go.Proofs.YtfddokfnplehkaaGreatDoor.Td Go.Proofs.YtfddokfnplehkaaGreatDoor.Bu Go.Proofs.YtfddokfnplehkaaGreatDoor.Tx Go.Proofs.YtfddokfnplehkaaGreatDoor.Sp Go.Proofs.YtfddokfnplehkaaGreatDoor.Rd

theorem neql_agg {P : Program} {xs ys : Array Value} {r : Bool} {w : World} {t : TypeId} (h : (Op.equalIn 10000 t (.agg xs) (.agg ys)).run P w = .ok r w) : (binOp .neq t (.agg xs) (.agg ys)).run P w = .ok (.bool (!r)) w := by
  simp only [binOp]
  simp [Op.equal, Op.maxDepth, h]
theorem ne_dec (c x : Int) (g : Bool) (l : ByteArray) (w : World) : (binOp .neq 23 (.agg #[.int .i64 c, .bool g, .string l, .int .i64 x]) (.agg #[.int .i64 c, .bool g, .string l, .int .i64 x])).run Tryz.prog w = .ok (.bool false) w := by
  have e := neql_agg (eq_four 9998 w c c x x g g l l)
  rw [e]
  simp
theorem place_nil (c : Int) (g : Bool) (S : ByteArray) (x : Int) (w : World) (e1 : S.toList.isEmpty = true) (e2 : (S.toList == []) = true) :
    Calls Tryz.prog 93 #[.agg #[.int .i64 c, .bool g, .string S, .int .i64 x]] w fun e w' => e = .returned (.int .i64 0) ∧ Below w.heap.size w w' := by
  have HB := Lib.hid (alloc_below w (.cells #[.int .i64 c, .bool g, .string S, .int .i64 x] 23))
  go_enter Tryz.func93, Tryz.ntmps93
  go_wp2
  go_ret
  exact ⟨rfl, HB.out⟩
/-- two blocks that a law holds -/
structure TU (w V : World) (gx : Nat) (cs ds : Array Value) : Prop where
  a : Bk V w.heap.size 23 cs
  x : Bk V gx 23 ds
  lt : w.heap.size < gx
  bl : Below w.heap.size w V
section
variable {w V V' : World} {gx : Nat} {cs ds : Array Value} {a0 a1 a2 a3 b0 b1 b2 b3 : Value}
theorem TU.below (h : TU w V gx cs ds) (hb : Below V.heap.size V V') : TU w V' gx cs ds := ⟨h.a.below hb, h.x.below hb, h.lt, on h.bl hb⟩
theorem TU.drew (h : TU w V gx cs ds) : TU w V.drew gx cs ds := ⟨h.a.drew, h.x.drew, h.lt, h.bl.drew⟩
theorem TU.alloc (h : TU w V gx cs ds) (o : Obj) : TU w (V.alloc o) gx cs ds := h.below (alloc_below _ _)
theorem TU.farC (h : TU w V gx cs ds) {p : Addr} (hp : gx < p.block) (v : Value) : TU w (V.setCell p v) gx cs ds :=
  ⟨h.a.far v (by have := h.lt; omega), h.x.far v (by omega), h.lt, h.bl.setCell (by have := h.lt; omega) v⟩
theorem TU.far4 (h : TU w V gx cs ds) {q : Nat} (hp : gx < q) (a b c d : Value) : TU w ((((V.setCell ⟨q, 0, none⟩ a).setCell ⟨q, 1, none⟩ b).setCell ⟨q, 2, none⟩ c).setCell ⟨q, 3, none⟩ d) gx cs ds :=
  (((h.farC (p := (⟨q, 0, none⟩ : Addr)) hp a).farC (p := (⟨q, 1, none⟩ : Addr)) hp b).farC (p := (⟨q, 2, none⟩ : Addr)) hp c).farC (p := (⟨q, 3, none⟩ : Addr)) hp d
theorem TU.keep (h : TU w V gx #[a0, a1, a2, a3] #[b0, b1, b2, b3]) : V.cell? ⟨w.heap.size, 0, none⟩ = some a0 ∧ V.cell? ⟨w.heap.size, 1, none⟩ = some a1 ∧ V.cell? ⟨w.heap.size, 2, none⟩ = some a2 ∧ V.cell? ⟨w.heap.size, 3, none⟩ = some a3 ∧
  V.cell? ⟨gx, 0, none⟩ = some b0 ∧ V.cell? ⟨gx, 1, none⟩ = some b1 ∧ V.cell? ⟨gx, 2, none⟩ = some b2 ∧ V.cell? ⟨gx, 3, none⟩ = some b3 := ⟨h.a.at_ 0 rfl, h.a.at_ 1 rfl, h.a.at_ 2 rfl, h.a.at_ 3 rfl, h.x.at_ 0 rfl, h.x.at_ 1 rfl, h.x.at_ 2 rfl, h.x.at_ 3 rfl⟩
theorem TU.four (h : TU w V gx #[a0, a1, a2, a3] ds) : V.cell? ⟨w.heap.size, 0, none⟩ = some a0 ∧ V.cell? ⟨w.heap.size, 1, none⟩ = some a1 ∧ V.cell? ⟨w.heap.size, 2, none⟩ = some a2 ∧ V.cell? ⟨w.heap.size, 3, none⟩ = some a3 := ⟨h.a.at_ 0 rfl, h.a.at_ 1 rfl, h.a.at_ 2 rfl, h.a.at_ 3 rfl⟩
end
theorem eight' {w : World} {g : Nat} {t : TypeId} {a0 a1 a2 a3 : Value} (C : Bk w g t #[a0, a1, a2, a3]) :
    w.cell? ⟨g, 0, none⟩ = some a0 ∧ w.cell? ⟨g, 1, none⟩ = some a1 ∧ w.cell? ⟨g, 2, none⟩ = some a2 ∧ w.cell? ⟨g, 3, none⟩ = some a3 ∧ w.frozen? ⟨g, 0, none⟩ = false ∧ w.frozen? ⟨g, 1, none⟩ = false ∧ w.frozen? ⟨g, 2, none⟩ = false ∧ w.frozen? ⟨g, 3, none⟩ = false := ⟨C.at_ 0 rfl, C.at_ 1 rfl, C.at_ 2 rfl, C.at_ 3 rfl, C.fr 0, C.fr 1, C.fr 2, C.fr 3⟩
end Go.Proofs.YtfddokfnplehkaaGreatDoor.Dc

/- Layer 5: dec.Add, on. -/
set_option linter.unusedSimpArgs false
set_option linter.unusedVariables false
namespace Go.Proofs.YtfddokfnplehkaaGreatDoor.Dc
open Go.RowKit Go.Proofs.YtfddokfnplehkaaGreatDoor.Dig Go.Proofs.YtfddokfnplehkaaGreatDoor.W Go.Proofs.YtfddokfnplehkaaGreatDoor.Nat Go.Proofs.YtfddokfnplehkaaGreatDoor.Wh Go.Proofs.YtfddokfnplehkaaGreatDoor.Td Go.Proofs.YtfddokfnplehkaaGreatDoor.Bu Go.Proofs.YtfddokfnplehkaaGreatDoor.Tx Go.Proofs.YtfddokfnplehkaaGreatDoor.Sp Go.Proofs.YtfddokfnplehkaaGreatDoor.Rd
set_option maxHeartbeats 16000000 in
set_option maxRecDepth 100000 in
theorem addc_m1 (c c' : Int) (g g' : Bool) (S S' : ByteArray) (x x' : Int) (w : World)
    (M1 : ∀ w1, Calls Tryz.prog 54 #[.agg #[.int .i64 c, .bool g, .string S, .int .i64 x]] w1 fun e w' => e = .returned (.bool false) ∧ Below w1.heap.size w1 w') :
    Calls Tryz.prog 39 #[.agg #[.int .i64 c, .bool g, .string S, .int .i64 x], .agg #[.int .i64 c', .bool g', .string S', .int .i64 x']] w fun e w' => e = .returned (.tuple #[.agg #[.int .i64 0, .bool false, .string ⟨#[]⟩, .int .i64 0], .int .i64 52]) ∧ Below w.heap.size w w' := by
  have HM1 := Lib.hid M1
  have HT := Lib.hid (TS.start w (.int .i64 c) (.bool g) (.string S) (.int .i64 x) (.int .i64 c') (.bool g') (.string S') (.int .i64 x'))
  clear M1
  go_enter Tryz.func39, Tryz.ntmps39
  go_wp2_with (first
    | (go_at_call 54; ((with_reducible refine (HM1.out _).mono ?_); rintro e w1 ⟨rfl, b1⟩; have x1 := HT.out.below b1; have k1 := x1.k8; have q2 := x1.res)))
  obtain ⟨o1, o2⟩ := x1.ret (.int .i64 0) (.bool false) (.string ⟨#[]⟩) (.int .i64 0)
  exact bodyPost_ret (res_bk_t rfl _ o1 rfl Tryz.underlying23 rfl (by kernel_rfl)) rfl ⟨rfl, o2⟩
set_option maxHeartbeats 16000000 in
set_option maxRecDepth 100000 in
theorem addc_m2 (c c' : Int) (g g' : Bool) (S S' : ByteArray) (x x' : Int) (w : World)
    (M1 : ∀ w1, Calls Tryz.prog 54 #[.agg #[.int .i64 c, .bool g, .string S, .int .i64 x]] w1 fun e w' => e = .returned (.bool true) ∧ Below w1.heap.size w1 w')
    (M2 : ∀ w1, Calls Tryz.prog 54 #[.agg #[.int .i64 c', .bool g', .string S', .int .i64 x']] w1 fun e w' => e = .returned (.bool false) ∧ Below w1.heap.size w1 w') :
    Calls Tryz.prog 39 #[.agg #[.int .i64 c, .bool g, .string S, .int .i64 x], .agg #[.int .i64 c', .bool g', .string S', .int .i64 x']] w fun e w' => e = .returned (.tuple #[.agg #[.int .i64 0, .bool false, .string ⟨#[]⟩, .int .i64 0], .int .i64 52]) ∧ Below w.heap.size w w' := by
  have HM1 := Lib.hid M1
  have HM2 := Lib.hid M2
  have HT := Lib.hid (TS.start w (.int .i64 c) (.bool g) (.string S) (.int .i64 x) (.int .i64 c') (.bool g') (.string S') (.int .i64 x'))
  clear M1 M2
  go_enter Tryz.func39, Tryz.ntmps39
  go_wp2_with (first
    | (go_at_call 54; first
      | ((with_reducible refine (HM1.out _).mono ?_); rintro e w1 ⟨rfl, b1⟩; have x1 := HT.out.below b1; have k1 := x1.k8)
      | ((with_reducible refine (HM2.out w1).mono ?_); rintro e w2 ⟨rfl, b2⟩; have x2 := x1.below b2; have k2 := x2.k8; have q2 := x2.res)))
  obtain ⟨o1, o2⟩ := x2.ret (.int .i64 0) (.bool false) (.string ⟨#[]⟩) (.int .i64 0)
  exact bodyPost_ret (res_bk_t rfl _ o1 rfl Tryz.underlying23 rfl (by kernel_rfl)) rfl ⟨rfl, o2⟩
set_option maxHeartbeats 16000000 in
set_option maxRecDepth 100000 in
theorem addc_n1 (c' : Int) (g g' : Bool) (S S' : ByteArray) (x x' : Int) (w : World)
    (M1 : ∀ w1, Calls Tryz.prog 54 #[.agg #[.int .i64 2, .bool g, .string S, .int .i64 x]] w1 fun e w' => e = .returned (.bool true) ∧ Below w1.heap.size w1 w')
    (M2 : ∀ w1, Calls Tryz.prog 54 #[.agg #[.int .i64 c', .bool g', .string S', .int .i64 x']] w1 fun e w' => e = .returned (.bool true) ∧ Below w1.heap.size w1 w') :
    Calls Tryz.prog 39 #[.agg #[.int .i64 2, .bool g, .string S, .int .i64 x], .agg #[.int .i64 c', .bool g', .string S', .int .i64 x']] w fun e w' => e = .returned (.tuple #[.agg #[.int .i64 2, .bool false, .string ⟨#[]⟩, .int .i64 0], .int .i64 0]) ∧ Below w.heap.size w w' := by
  have HM1 := Lib.hid M1
  have HM2 := Lib.hid M2
  have HT := Lib.hid (TS.start w (.int .i64 2) (.bool g) (.string S) (.int .i64 x) (.int .i64 c') (.bool g') (.string S') (.int .i64 x'))
  clear M1 M2
  go_enter Tryz.func39, Tryz.ntmps39
  go_wp2_with (first
    | (go_at_call 54; first
      | ((with_reducible refine (HM1.out _).mono ?_); rintro e w1 ⟨rfl, b1⟩; have x1 := HT.out.below b1; have k1 := x1.k8)
      | ((with_reducible refine (HM2.out w1).mono ?_); rintro e w2 ⟨rfl, b2⟩; have x2 := x1.below b2; have k2 := x2.k8; have q2 := x2.res)))
  obtain ⟨o1, o2⟩ := x2.ret (.int .i64 2) (.bool false) (.string ⟨#[]⟩) (.int .i64 0)
  exact bodyPost_ret (res_bk_t rfl _ o1 rfl Tryz.underlying23 rfl (by kernel_rfl)) rfl ⟨rfl, o2⟩
set_option maxHeartbeats 16000000 in
set_option maxRecDepth 100000 in
theorem addc_n2 (c : Int) (g g' : Bool) (S S' : ByteArray) (x x' : Int) (w : World) (hc : c = 0 ∨ c = 1)
    (M1 : ∀ w1, Calls Tryz.prog 54 #[.agg #[.int .i64 c, .bool g, .string S, .int .i64 x]] w1 fun e w' => e = .returned (.bool true) ∧ Below w1.heap.size w1 w')
    (M2 : ∀ w1, Calls Tryz.prog 54 #[.agg #[.int .i64 2, .bool g', .string S', .int .i64 x']] w1 fun e w' => e = .returned (.bool true) ∧ Below w1.heap.size w1 w') :
    Calls Tryz.prog 39 #[.agg #[.int .i64 c, .bool g, .string S, .int .i64 x], .agg #[.int .i64 2, .bool g', .string S', .int .i64 x']] w fun e w' => e = .returned (.tuple #[.agg #[.int .i64 2, .bool false, .string ⟨#[]⟩, .int .i64 0], .int .i64 0]) ∧ Below w.heap.size w w' := by
  have HM1 := Lib.hid M1
  have HM2 := Lib.hid M2
  have HT := Lib.hid (TS.start w (.int .i64 c) (.bool g) (.string S) (.int .i64 x) (.int .i64 2) (.bool g') (.string S') (.int .i64 x'))
  clear M1 M2
  rcases hc with rfl | rfl
  · go_enter Tryz.func39, Tryz.ntmps39
    go_wp2_with (first
      | (go_at_call 54; first
        | ((with_reducible refine (HM1.out _).mono ?_); rintro e w1 ⟨rfl, b1⟩; have x1 := HT.out.below b1; have k1 := x1.k8)
        | ((with_reducible refine (HM2.out w1).mono ?_); rintro e w2 ⟨rfl, b2⟩; have x2 := x1.below b2; have k2 := x2.k8; have q2 := x2.res)))
    obtain ⟨o1, o2⟩ := x2.ret (.int .i64 2) (.bool false) (.string ⟨#[]⟩) (.int .i64 0)
    exact bodyPost_ret (res_bk_t rfl _ o1 rfl Tryz.underlying23 rfl (by kernel_rfl)) rfl ⟨rfl, o2⟩
  · go_enter Tryz.func39, Tryz.ntmps39
    go_wp2_with (first
      | (go_at_call 54; first
        | ((with_reducible refine (HM1.out _).mono ?_); rintro e w1 ⟨rfl, b1⟩; have x1 := HT.out.below b1; have k1 := x1.k8)
        | ((with_reducible refine (HM2.out w1).mono ?_); rintro e w2 ⟨rfl, b2⟩; have x2 := x1.below b2; have k2 := x2.k8; have q2 := x2.res)))
    obtain ⟨o1, o2⟩ := x2.ret (.int .i64 2) (.bool false) (.string ⟨#[]⟩) (.int .i64 0)
    exact bodyPost_ret (res_bk_t rfl _ o1 rfl Tryz.underlying23 rfl (by kernel_rfl)) rfl ⟨rfl, o2⟩
set_option maxHeartbeats 16000000 in
set_option maxRecDepth 100000 in
theorem addc_10 (g g' : Bool) (S S' : ByteArray) (x x' : Int) (w : World)
    (M1 : ∀ w1, Calls Tryz.prog 54 #[.agg #[.int .i64 1, .bool g, .string S, .int .i64 x]] w1 fun e w' => e = .returned (.bool true) ∧ Below w1.heap.size w1 w')
    (M2 : ∀ w1, Calls Tryz.prog 54 #[.agg #[.int .i64 0, .bool g', .string S', .int .i64 x']] w1 fun e w' => e = .returned (.bool true) ∧ Below w1.heap.size w1 w') :
    Calls Tryz.prog 39 #[.agg #[.int .i64 1, .bool g, .string S, .int .i64 x], .agg #[.int .i64 0, .bool g', .string S', .int .i64 x']] w fun e w' => e = .returned (.tuple #[.agg #[.int .i64 1, .bool g, .string S, .int .i64 x], .int .i64 0]) ∧ Below w.heap.size w w' := by
  have HM1 := Lib.hid M1
  have HM2 := Lib.hid M2
  have HT := Lib.hid (TS.start w (.int .i64 1) (.bool g) (.string S) (.int .i64 x) (.int .i64 0) (.bool g') (.string S') (.int .i64 x'))
  clear M1 M2
  go_enter Tryz.func39, Tryz.ntmps39
  go_wp2_with (first
    | (go_at_call 54; first
      | ((with_reducible refine (HM1.out _).mono ?_); rintro e w1 ⟨rfl, b1⟩; have x1 := HT.out.below b1; have k1 := x1.k8)
      | ((with_reducible refine (HM2.out w1).mono ?_); rintro e w2 ⟨rfl, b2⟩; have x2 := x1.below b2; have k2 := x2.k8; have q2 := x2.res)))
  obtain ⟨o1, o2⟩ := x2.ret (.int .i64 1) (.bool g) (.string S) (.int .i64 x)
  exact bodyPost_ret (res_bk_t rfl _ o1 rfl Tryz.underlying23 rfl (by kernel_rfl)) rfl ⟨rfl, o2⟩
set_option maxHeartbeats 16000000 in
set_option maxRecDepth 100000 in
theorem addc_01 (g g' : Bool) (S S' : ByteArray) (x x' : Int) (w : World)
    (M1 : ∀ w1, Calls Tryz.prog 54 #[.agg #[.int .i64 0, .bool g, .string S, .int .i64 x]] w1 fun e w' => e = .returned (.bool true) ∧ Below w1.heap.size w1 w')
    (M2 : ∀ w1, Calls Tryz.prog 54 #[.agg #[.int .i64 1, .bool g', .string S', .int .i64 x']] w1 fun e w' => e = .returned (.bool true) ∧ Below w1.heap.size w1 w') :
    Calls Tryz.prog 39 #[.agg #[.int .i64 0, .bool g, .string S, .int .i64 x], .agg #[.int .i64 1, .bool g', .string S', .int .i64 x']] w fun e w' => e = .returned (.tuple #[.agg #[.int .i64 1, .bool g', .string S', .int .i64 x'], .int .i64 0]) ∧ Below w.heap.size w w' := by
  have HM1 := Lib.hid M1
  have HM2 := Lib.hid M2
  have HT := Lib.hid (TS.start w (.int .i64 0) (.bool g) (.string S) (.int .i64 x) (.int .i64 1) (.bool g') (.string S') (.int .i64 x'))
  clear M1 M2
  go_enter Tryz.func39, Tryz.ntmps39
  go_wp2_with (first
    | (go_at_call 54; first
      | ((with_reducible refine (HM1.out _).mono ?_); rintro e w1 ⟨rfl, b1⟩; have x1 := HT.out.below b1; have k1 := x1.k8)
      | ((with_reducible refine (HM2.out w1).mono ?_); rintro e w2 ⟨rfl, b2⟩; have x2 := x1.below b2; have k2 := x2.k8; have q2 := x2.res)))
  obtain ⟨o1, o2⟩ := x2.ret (.int .i64 1) (.bool g') (.string S') (.int .i64 x')
  exact bodyPost_ret (res_bk_t rfl _ o1 rfl Tryz.underlying23 rfl (by kernel_rfl)) rfl ⟨rfl, o2⟩
set_option maxHeartbeats 16000000 in
set_option maxRecDepth 100000 in
theorem addc_11ff (S S' : ByteArray) (x x' : Int) (w : World)
    (M1 : ∀ w1, Calls Tryz.prog 54 #[.agg #[.int .i64 1, .bool false, .string S, .int .i64 x]] w1 fun e w' => e = .returned (.bool true) ∧ Below w1.heap.size w1 w')
    (M2 : ∀ w1, Calls Tryz.prog 54 #[.agg #[.int .i64 1, .bool false, .string S', .int .i64 x']] w1 fun e w' => e = .returned (.bool true) ∧ Below w1.heap.size w1 w') :
    Calls Tryz.prog 39 #[.agg #[.int .i64 1, .bool false, .string S, .int .i64 x], .agg #[.int .i64 1, .bool false, .string S', .int .i64 x']] w fun e w' => e = .returned (.tuple #[.agg #[.int .i64 1, .bool false, .string S, .int .i64 x], .int .i64 0]) ∧ Below w.heap.size w w' := by
  have HM1 := Lib.hid M1
  have HM2 := Lib.hid M2
  have HT := Lib.hid (TS.start w (.int .i64 1) (.bool false) (.string S) (.int .i64 x) (.int .i64 1) (.bool false) (.string S') (.int .i64 x'))
  clear M1 M2
  go_enter Tryz.func39, Tryz.ntmps39
  go_wp2_with (first
    | (go_at_call 54; first
      | ((with_reducible refine (HM1.out _).mono ?_); rintro e w1 ⟨rfl, b1⟩; have x1 := HT.out.below b1; have k1 := x1.k8)
      | ((with_reducible refine (HM2.out w1).mono ?_); rintro e w2 ⟨rfl, b2⟩; have x2 := x1.below b2; have k2 := x2.k8; have q2 := x2.res)))
  obtain ⟨o1, o2⟩ := x2.ret (.int .i64 1) (.bool false) (.string S) (.int .i64 x)
  exact bodyPost_ret (res_bk_t rfl _ o1 rfl Tryz.underlying23 rfl (by kernel_rfl)) rfl ⟨rfl, o2⟩
set_option maxHeartbeats 16000000 in
set_option maxRecDepth 100000 in
theorem addc_11ft (S S' : ByteArray) (x x' : Int) (w : World)
    (M1 : ∀ w1, Calls Tryz.prog 54 #[.agg #[.int .i64 1, .bool false, .string S, .int .i64 x]] w1 fun e w' => e = .returned (.bool true) ∧ Below w1.heap.size w1 w')
    (M2 : ∀ w1, Calls Tryz.prog 54 #[.agg #[.int .i64 1, .bool true, .string S', .int .i64 x']] w1 fun e w' => e = .returned (.bool true) ∧ Below w1.heap.size w1 w') :
    Calls Tryz.prog 39 #[.agg #[.int .i64 1, .bool false, .string S, .int .i64 x], .agg #[.int .i64 1, .bool true, .string S', .int .i64 x']] w fun e w' => e = .returned (.tuple #[.agg #[.int .i64 2, .bool false, .string ⟨#[]⟩, .int .i64 0], .int .i64 0]) ∧ Below w.heap.size w w' := by
  have HM1 := Lib.hid M1
  have HM2 := Lib.hid M2
  have HT := Lib.hid (TS.start w (.int .i64 1) (.bool false) (.string S) (.int .i64 x) (.int .i64 1) (.bool true) (.string S') (.int .i64 x'))
  clear M1 M2
  go_enter Tryz.func39, Tryz.ntmps39
  go_wp2_with (first
    | (go_at_call 54; first
      | ((with_reducible refine (HM1.out _).mono ?_); rintro e w1 ⟨rfl, b1⟩; have x1 := HT.out.below b1; have k1 := x1.k8)
      | ((with_reducible refine (HM2.out w1).mono ?_); rintro e w2 ⟨rfl, b2⟩; have x2 := x1.below b2; have k2 := x2.k8; have q2 := x2.res)))
  obtain ⟨o1, o2⟩ := x2.ret (.int .i64 2) (.bool false) (.string ⟨#[]⟩) (.int .i64 0)
  exact bodyPost_ret (res_bk_t rfl _ o1 rfl Tryz.underlying23 rfl (by kernel_rfl)) rfl ⟨rfl, o2⟩
set_option maxHeartbeats 16000000 in
set_option maxRecDepth 100000 in
theorem addc_11tf (S S' : ByteArray) (x x' : Int) (w : World)
    (M1 : ∀ w1, Calls Tryz.prog 54 #[.agg #[.int .i64 1, .bool true, .string S, .int .i64 x]] w1 fun e w' => e = .returned (.bool true) ∧ Below w1.heap.size w1 w')
    (M2 : ∀ w1, Calls Tryz.prog 54 #[.agg #[.int .i64 1, .bool false, .string S', .int .i64 x']] w1 fun e w' => e = .returned (.bool true) ∧ Below w1.heap.size w1 w') :
    Calls Tryz.prog 39 #[.agg #[.int .i64 1, .bool true, .string S, .int .i64 x], .agg #[.int .i64 1, .bool false, .string S', .int .i64 x']] w fun e w' => e = .returned (.tuple #[.agg #[.int .i64 2, .bool false, .string ⟨#[]⟩, .int .i64 0], .int .i64 0]) ∧ Below w.heap.size w w' := by
  have HM1 := Lib.hid M1
  have HM2 := Lib.hid M2
  have HT := Lib.hid (TS.start w (.int .i64 1) (.bool true) (.string S) (.int .i64 x) (.int .i64 1) (.bool false) (.string S') (.int .i64 x'))
  clear M1 M2
  go_enter Tryz.func39, Tryz.ntmps39
  go_wp2_with (first
    | (go_at_call 54; first
      | ((with_reducible refine (HM1.out _).mono ?_); rintro e w1 ⟨rfl, b1⟩; have x1 := HT.out.below b1; have k1 := x1.k8)
      | ((with_reducible refine (HM2.out w1).mono ?_); rintro e w2 ⟨rfl, b2⟩; have x2 := x1.below b2; have k2 := x2.k8; have q2 := x2.res)))
  obtain ⟨o1, o2⟩ := x2.ret (.int .i64 2) (.bool false) (.string ⟨#[]⟩) (.int .i64 0)
  exact bodyPost_ret (res_bk_t rfl _ o1 rfl Tryz.underlying23 rfl (by kernel_rfl)) rfl ⟨rfl, o2⟩
set_option maxHeartbeats 16000000 in
set_option maxRecDepth 100000 in
theorem addc_11tt (S S' : ByteArray) (x x' : Int) (w : World)
    (M1 : ∀ w1, Calls Tryz.prog 54 #[.agg #[.int .i64 1, .bool true, .string S, .int .i64 x]] w1 fun e w' => e = .returned (.bool true) ∧ Below w1.heap.size w1 w')
    (M2 : ∀ w1, Calls Tryz.prog 54 #[.agg #[.int .i64 1, .bool true, .string S', .int .i64 x']] w1 fun e w' => e = .returned (.bool true) ∧ Below w1.heap.size w1 w') :
    Calls Tryz.prog 39 #[.agg #[.int .i64 1, .bool true, .string S, .int .i64 x], .agg #[.int .i64 1, .bool true, .string S', .int .i64 x']] w fun e w' => e = .returned (.tuple #[.agg #[.int .i64 1, .bool true, .string S, .int .i64 x], .int .i64 0]) ∧ Below w.heap.size w w' := by
  have HM1 := Lib.hid M1
  have HM2 := Lib.hid M2
  have HT := Lib.hid (TS.start w (.int .i64 1) (.bool true) (.string S) (.int .i64 x) (.int .i64 1) (.bool true) (.string S') (.int .i64 x'))
  clear M1 M2
  go_enter Tryz.func39, Tryz.ntmps39
  go_wp2_with (first
    | (go_at_call 54; first
      | ((with_reducible refine (HM1.out _).mono ?_); rintro e w1 ⟨rfl, b1⟩; have x1 := HT.out.below b1; have k1 := x1.k8)
      | ((with_reducible refine (HM2.out w1).mono ?_); rintro e w2 ⟨rfl, b2⟩; have x2 := x1.below b2; have k2 := x2.k8; have q2 := x2.res)))
  obtain ⟨o1, o2⟩ := x2.ret (.int .i64 1) (.bool true) (.string S) (.int .i64 x)
  exact bodyPost_ret (res_bk_t rfl _ o1 rfl Tryz.underlying23 rfl (by kernel_rfl)) rfl ⟨rfl, o2⟩
set_option maxHeartbeats 16000000 in
set_option maxRecDepth 100000 in
theorem addc_zzf (g' : Bool) (S S' : ByteArray) (x x' : Int) (w : World) (e1 : S.toList.isEmpty = true) (e2 : (S.toList == []) = true) (i1 : S'.toList.isEmpty = true) (i2 : (S'.toList == []) = true)
    (M1 : ∀ w1, Calls Tryz.prog 54 #[.agg #[.int .i64 0, .bool false, .string S, .int .i64 x]] w1 fun e w' => e = .returned (.bool true) ∧ Below w1.heap.size w1 w')
    (M2 : ∀ w1, Calls Tryz.prog 54 #[.agg #[.int .i64 0, .bool g', .string S', .int .i64 x']] w1 fun e w' => e = .returned (.bool true) ∧ Below w1.heap.size w1 w') :
    Calls Tryz.prog 39 #[.agg #[.int .i64 0, .bool false, .string S, .int .i64 x], .agg #[.int .i64 0, .bool g', .string S', .int .i64 x']] w fun e w' => e = .returned (.tuple #[.agg #[.int .i64 0, .bool false, .string ⟨#[]⟩, .int .i64 0], .int .i64 0]) ∧ Below w.heap.size w w' := by
  have HM1 := Lib.hid M1
  have HM2 := Lib.hid M2
  have HT := Lib.hid (TS.start w (.int .i64 0) (.bool false) (.string S) (.int .i64 x) (.int .i64 0) (.bool g') (.string S') (.int .i64 x'))
  clear M1 M2
  go_enter Tryz.func39, Tryz.ntmps39
  go_wp2_with (first
    | (go_at_call 54; first
      | ((with_reducible refine (HM1.out _).mono ?_); rintro e w1 ⟨rfl, b1⟩; have x1 := HT.out.below b1; have k1 := x1.k8)
      | ((with_reducible refine (HM2.out w1).mono ?_); rintro e w2 ⟨rfl, b2⟩; have x2 := x1.below b2; have k2 := x2.k8; have q2 := x2.res)))
  obtain ⟨o1, o2⟩ := x2.ret (.int .i64 0) (.bool false) (.string ⟨#[]⟩) (.int .i64 0)
  exact bodyPost_ret (res_bk_t rfl _ o1 rfl Tryz.underlying23 rfl (by kernel_rfl)) rfl ⟨rfl, o2⟩
set_option maxHeartbeats 16000000 in
set_option maxRecDepth 100000 in
theorem addc_zzt (g' : Bool) (S S' : ByteArray) (x x' : Int) (w : World) (e1 : S.toList.isEmpty = true) (e2 : (S.toList == []) = true) (i1 : S'.toList.isEmpty = true) (i2 : (S'.toList == []) = true)
    (M1 : ∀ w1, Calls Tryz.prog 54 #[.agg #[.int .i64 0, .bool true, .string S, .int .i64 x]] w1 fun e w' => e = .returned (.bool true) ∧ Below w1.heap.size w1 w')
    (M2 : ∀ w1, Calls Tryz.prog 54 #[.agg #[.int .i64 0, .bool g', .string S', .int .i64 x']] w1 fun e w' => e = .returned (.bool true) ∧ Below w1.heap.size w1 w') :
    Calls Tryz.prog 39 #[.agg #[.int .i64 0, .bool true, .string S, .int .i64 x], .agg #[.int .i64 0, .bool g', .string S', .int .i64 x']] w fun e w' => e = .returned (.tuple #[.agg #[.int .i64 0, .bool g', .string ⟨#[]⟩, .int .i64 0], .int .i64 0]) ∧ Below w.heap.size w w' := by
  have HM1 := Lib.hid M1
  have HM2 := Lib.hid M2
  have HT := Lib.hid (TS.start w (.int .i64 0) (.bool true) (.string S) (.int .i64 x) (.int .i64 0) (.bool g') (.string S') (.int .i64 x'))
  clear M1 M2
  go_enter Tryz.func39, Tryz.ntmps39
  go_wp2_with (first
    | (go_at_call 54; first
      | ((with_reducible refine (HM1.out _).mono ?_); rintro e w1 ⟨rfl, b1⟩; have x1 := HT.out.below b1; have k1 := x1.k8)
      | ((with_reducible refine (HM2.out w1).mono ?_); rintro e w2 ⟨rfl, b2⟩; have x2 := x1.below b2; have k2 := x2.k8; have q2 := x2.res)))
  obtain ⟨o1, o2⟩ := x2.ret (.int .i64 0) (.bool g') (.string ⟨#[]⟩) (.int .i64 0)
  exact bodyPost_ret (res_bk_t rfl _ o1 rfl Tryz.underlying23 rfl (by kernel_rfl)) rfl ⟨rfl, o2⟩
set_option maxHeartbeats 16000000 in
set_option maxRecDepth 100000 in
theorem addc_zp (g g' : Bool) (S S' : ByteArray) (x x' : Int) (w : World) (e1 : S.toList.isEmpty = true) (e2 : (S.toList == []) = true) (i1 : S'.toList.isEmpty = false) (i2 : (S'.toList == []) = false)
    (M1 : ∀ w1, Calls Tryz.prog 54 #[.agg #[.int .i64 0, .bool g, .string S, .int .i64 x]] w1 fun e w' => e = .returned (.bool true) ∧ Below w1.heap.size w1 w')
    (M2 : ∀ w1, Calls Tryz.prog 54 #[.agg #[.int .i64 0, .bool g', .string S', .int .i64 x']] w1 fun e w' => e = .returned (.bool true) ∧ Below w1.heap.size w1 w') :
    Calls Tryz.prog 39 #[.agg #[.int .i64 0, .bool g, .string S, .int .i64 x], .agg #[.int .i64 0, .bool g', .string S', .int .i64 x']] w fun e w' => e = .returned (.tuple #[.agg #[.int .i64 0, .bool g', .string S', .int .i64 x'], .int .i64 0]) ∧ Below w.heap.size w w' := by
  have HM1 := Lib.hid M1
  have HM2 := Lib.hid M2
  have HT := Lib.hid (TS.start w (.int .i64 0) (.bool g) (.string S) (.int .i64 x) (.int .i64 0) (.bool g') (.string S') (.int .i64 x'))
  clear M1 M2
  go_enter Tryz.func39, Tryz.ntmps39
  go_wp2_with (first
    | (go_at_call 54; first
      | ((with_reducible refine (HM1.out _).mono ?_); rintro e w1 ⟨rfl, b1⟩; have x1 := HT.out.below b1; have k1 := x1.k8)
      | ((with_reducible refine (HM2.out w1).mono ?_); rintro e w2 ⟨rfl, b2⟩; have x2 := x1.below b2; have k2 := x2.k8; have q2 := x2.res)))
  obtain ⟨o1, o2⟩ := x2.ret (.int .i64 0) (.bool g') (.string S') (.int .i64 x')
  exact bodyPost_ret (res_bk_t rfl _ o1 rfl Tryz.underlying23 rfl (by kernel_rfl)) rfl ⟨rfl, o2⟩
set_option maxHeartbeats 16000000 in
set_option maxRecDepth 100000 in
theorem addc_pz (g g' : Bool) (S S' : ByteArray) (x x' : Int) (w : World) (e1 : S.toList.isEmpty = false) (e2 : (S.toList == []) = false) (i1 : S'.toList.isEmpty = true) (i2 : (S'.toList == []) = true)
    (M1 : ∀ w1, Calls Tryz.prog 54 #[.agg #[.int .i64 0, .bool g, .string S, .int .i64 x]] w1 fun e w' => e = .returned (.bool true) ∧ Below w1.heap.size w1 w')
    (M2 : ∀ w1, Calls Tryz.prog 54 #[.agg #[.int .i64 0, .bool g', .string S', .int .i64 x']] w1 fun e w' => e = .returned (.bool true) ∧ Below w1.heap.size w1 w') :
    Calls Tryz.prog 39 #[.agg #[.int .i64 0, .bool g, .string S, .int .i64 x], .agg #[.int .i64 0, .bool g', .string S', .int .i64 x']] w fun e w' => e = .returned (.tuple #[.agg #[.int .i64 0, .bool g, .string S, .int .i64 x], .int .i64 0]) ∧ Below w.heap.size w w' := by
  have HM1 := Lib.hid M1
  have HM2 := Lib.hid M2
  have HT := Lib.hid (TS.start w (.int .i64 0) (.bool g) (.string S) (.int .i64 x) (.int .i64 0) (.bool g') (.string S') (.int .i64 x'))
  clear M1 M2
  go_enter Tryz.func39, Tryz.ntmps39
  go_wp2_with (first
    | (go_at_call 54; first
      | ((with_reducible refine (HM1.out _).mono ?_); rintro e w1 ⟨rfl, b1⟩; have x1 := HT.out.below b1; have k1 := x1.k8)
      | ((with_reducible refine (HM2.out w1).mono ?_); rintro e w2 ⟨rfl, b2⟩; have x2 := x1.below b2; have k2 := x2.k8; have q2 := x2.res)))
  obtain ⟨o1, o2⟩ := x2.ret (.int .i64 0) (.bool g) (.string S) (.int .i64 x)
  exact bodyPost_ret (res_bk_t rfl _ o1 rfl Tryz.underlying23 rfl (by kernel_rfl)) rfl ⟨rfl, o2⟩

/-- what dec.Add answers -/
def addV (c : Int) (g : Bool) (l : List UInt8) (x : Int) (c' : Int) (g' : Bool) (l' : List UInt8) (x' : Int) : Array Value × Int :=
  if mayB c g l x = false ∨ mayB c' g' l' x' = false then (dec 0 false [] 0, 52)
  else if c = 2 ∨ c' = 2 ∨ (c = 1 ∧ c' = 1 ∧ g ≠ g') then (dec 2 false [] 0, 0)
  else if c = 1 ∨ (c' = 0 ∧ l' = [] ∧ l ≠ []) then (dec c g l x, 0)
  else if c' = 1 ∨ (l = [] ∧ l' ≠ []) then (dec c' g' l' x', 0)
  else if l = [] then (dec 0 (g && g') [] 0, 0)
  else (oc (decide (sg g (amt l x (min x x')) + sg g' (amt l' x' (min x x')) < 0)) (told (decide (sg g (amt l x (min x x')) + sg g' (amt l' x' (min x x')) < 0)) (sg g (amt l x (min x x')) + sg g' (amt l' x' (min x x'))).natAbs (min x x')),
    oe (told (decide (sg g (amt l x (min x x')) + sg g' (amt l' x' (min x x')) < 0)) (sg g (amt l x (min x x')) + sg g' (amt l' x' (min x x'))).natAbs (min x x')))
theorem may_cls {c : Int} {g : Bool} {l : List UInt8} {x : Int} (h : mayB c g l x = true) : (c = 0 ∨ c = 1 ∨ c = 2) ∧ (c = 2 → g = false) ∧ (c ≠ 0 → l = []) := by
  rw [mayB_iff] at h
  rcases h with ⟨rfl, _, h3⟩ | ⟨rfl, _, _⟩
  · refine ⟨by omega, fun e => ?_, fun _ => rfl⟩
    rcases h3 with h3 | h3 | h3
    · omega
    · omega
    · exact h3.2
  · exact ⟨.inl rfl, fun e => by omega, fun e => absurd rfl e⟩
theorem add_calls (c : Int) (g : Bool) (l : List UInt8) (x : Int) (c' : Int) (g' : Bool) (l' : List UInt8) (x' : Int) (w : World) (hp : Pow w) (hl : l.length ≤ 9223372036854775807) (hl' : l'.length ≤ 9223372036854775807) :
    Calls Tryz.prog 39 #[.agg (dec c g l x), .agg (dec c' g' l' x')] w fun e w' => e = .returned (.tuple #[.agg (addV c g l x c' g' l' x').1, .int .i64 (addV c g l x c' g' l' x').2]) ∧ Below w.heap.size w w' := by
  have M1 := fun w1 => dmay_calls c g l x w1 hl
  have M2 := fun w1 => dmay_calls c' g' l' x' w1 hl'
  obtain ⟨e1, e2⟩ := emp_iff l
  obtain ⟨i1, i2⟩ := emp_iff l'
  unfold addV
  by_cases m1 : mayB c g l x = false
  · rw [if_pos (.inl m1)]
    rw [m1] at M1
    exact addc_m1 c c' g g' ⟨l.toArray⟩ ⟨l'.toArray⟩ x x' w M1
  have m1 : mayB c g l x = true := by simpa using m1
  rw [m1] at M1
  by_cases m2 : mayB c' g' l' x' = false
  · rw [if_pos (.inr m2)]
    rw [m2] at M2
    exact addc_m2 c c' g g' ⟨l.toArray⟩ ⟨l'.toArray⟩ x x' w M1 M2
  have m2 : mayB c' g' l' x' = true := by simpa using m2
  rw [m2] at M2
  rw [if_neg (by rw [m1, m2]; rintro (h | h) <;> cases h)]
  obtain ⟨k1, _, z1⟩ := may_cls m1
  obtain ⟨k2, _, z2⟩ := may_cls m2
  by_cases h2 : c = 2
  · subst h2
    rw [if_pos (.inl rfl)]
    exact addc_n1 c' g g' ⟨l.toArray⟩ ⟨l'.toArray⟩ x x' w M1 M2
  by_cases h2' : c' = 2
  · subst h2'
    rw [if_pos (.inr (.inl rfl))]
    exact addc_n2 c g g' ⟨l.toArray⟩ ⟨l'.toArray⟩ x x' w (by omega) M1 M2
  by_cases h1 : c = 1
  · subst h1
    by_cases h1' : c' = 1
    · subst h1'
      cases g <;> cases g'
      · exact addc_11ff ⟨l.toArray⟩ ⟨l'.toArray⟩ x x' w M1 M2
      · exact addc_11ft ⟨l.toArray⟩ ⟨l'.toArray⟩ x x' w M1 M2
      · exact addc_11tf ⟨l.toArray⟩ ⟨l'.toArray⟩ x x' w M1 M2
      · exact addc_11tt ⟨l.toArray⟩ ⟨l'.toArray⟩ x x' w M1 M2
    · obtain rfl : c' = 0 := by omega
      rw [if_neg (by omega), if_pos (.inl rfl)]
      exact addc_10 g g' ⟨l.toArray⟩ ⟨l'.toArray⟩ x x' w M1 M2
  obtain rfl : c = 0 := by omega
  by_cases h1' : c' = 1
  · subst h1'
    rw [if_neg (by omega), if_neg (by rintro (h | h) <;> omega), if_pos (.inl rfl)]
    exact addc_01 g g' ⟨l.toArray⟩ ⟨l'.toArray⟩ x x' w M1 M2
  obtain rfl : c' = 0 := by omega
  rw [if_neg (by omega)]
  by_cases hl0 : l = []
  · rw [decide_eq_true hl0] at e1 e2
    rw [if_neg (by rintro (h | h); omega; exact h.2.2 hl0)]
    by_cases hl1 : l' = []
    · rw [decide_eq_true hl1] at i1 i2
      rw [if_neg (by rintro (h | h); omega; exact h.2 hl1), if_pos hl0]
      cases g
      · exact addc_zzf g' ⟨l.toArray⟩ ⟨l'.toArray⟩ x x' w e1 e2 i1 i2 M1 M2
      · exact addc_zzt g' ⟨l.toArray⟩ ⟨l'.toArray⟩ x x' w e1 e2 i1 i2 M1 M2
    · rw [decide_eq_false hl1] at i1 i2
      rw [if_pos (.inr ⟨hl0, hl1⟩)]
      exact addc_zp g g' ⟨l.toArray⟩ ⟨l'.toArray⟩ x x' w e1 e2 i1 i2 M1 M2
  · rw [decide_eq_false hl0] at e1 e2
    by_cases hl1 : l' = []
    · rw [decide_eq_true hl1] at i1 i2
      rw [if_pos (.inr ⟨rfl, hl1, hl0⟩)]
      exact addc_pz g g' ⟨l.toArray⟩ ⟨l'.toArray⟩ x x' w e1 e2 i1 i2 M1 M2
    · rw [if_neg (by rintro (h | h); omega; exact hl1 h.2.1), if_neg (by rintro (h | h); omega; exact hl0 h.1), if_neg hl0]
      obtain ⟨_, hF, hf⟩ := may_str m1 hl0
      obtain ⟨_, hF', hf'⟩ := may_str m2 hl1
      exact add_both g g' l l' x x' _ w hp hF hF' hf hf' rfl
end Go.Proofs.YtfddokfnplehkaaGreatDoor.Dc

/- Layer 6's laws: what a finite sum says; quipulaw06.away. -/
set_option linter.unusedSimpArgs false
set_option linter.unusedVariables false
namespace Go.Proofs.YtfddokfnplehkaaGreatDoor.Dc
open Go.RowKit Go.Proofs.YtfddokfnplehkaaGreatDoor.Dig Go.Proofs.YtfddokfnplehkaaGreatDoor.W Go.Proofs.YtfddokfnplehkaaGreatDoor.Nat Go.Proofs.YtfddokfnplehkaaGreatDoor.Wh Go.Proofs.YtfddokfnplehkaaGreatDoor.Td Go.Proofs.YtfddokfnplehkaaGreatDoor.Bu Go.Proofs.YtfddokfnplehkaaGreatDoor.Tx Go.Proofs.YtfddokfnplehkaaGreatDoor.Sp Go.Proofs.YtfddokfnplehkaaGreatDoor.Rd

theorem sv_sg (g : Bool) (A : Nat) : sv g A = sg g A := rfl
theorem sv_mul (g : Bool) (A k : Nat) : sv g (A * k) = sv g A * (k : Int) := by unfold sv; cases g <;> simp [Int.neg_mul]
theorem amt_low {l : List UInt8} {x e E : Int} (h1 : E ≤ e) (h2 : e ≤ x) : amt l x E = amt l x e * 10 ^ (e - E).toNat := by
  unfold amt
  rw [show (x - E).toNat = (x - e).toNat + (e - E).toNat by omega, Nat.pow_add, ← Nat.mul_assoc]
theorem sv_abs (z : Int) : sv (decide (z < 0)) z.natAbs = z := sg_self z
theorem sv_zero (g : Bool) : sv g 0 = 0 := by cases g <;> rfl
/-- the sum of two finite ones: refused, or their amounts' sum -/
theorem add_fin {g g' : Bool} {l l' : List UInt8} {x x' E : Int} (m1 : mayB 0 g l x = true) (m2 : mayB 0 g' l' x' = true) (hE : l ≠ [] → E ≤ x) (hE' : l' ≠ [] → E ≤ x') :
    (addV 0 g l x 0 g' l' x' = (dec 0 false [] 0, 51)) ∨ ∃ g3 l3 x3, addV 0 g l x 0 g' l' x' = (dec 0 g3 l3 x3, 0) ∧ mayB 0 g3 l3 x3 = true ∧ (l3 ≠ [] → E ≤ x3) ∧ sv g3 (amt l3 x3 E) = sv g (amt l x E) + sv g' (amt l' x' E) := by
  unfold addV
  rw [if_neg (by rw [m1, m2]; rintro (h | h) <;> cases h), if_neg (by omega)]
  by_cases hl : l = []
  · rw [if_neg (by rintro (h | h); omega; exact h.2.2 hl)]
    by_cases hl' : l' = []
    · rw [if_neg (by rintro (h | h); omega; exact h.2 hl'), if_pos hl]
      refine .inr ⟨_, _, _, rfl, may_zero _, fun h => absurd rfl h, ?_⟩
      rw [hl, hl', amt_nil, amt_nil, amt_nil, sv_zero, sv_zero, sv_zero]
      rfl
    · rw [if_pos (.inr ⟨hl, hl'⟩)]
      refine .inr ⟨_, _, _, rfl, m2, hE', ?_⟩
      rw [hl, amt_nil, sv_zero, Int.zero_add]
  · by_cases hl' : l' = []
    · rw [if_pos (.inr ⟨rfl, hl', hl⟩)]
      refine .inr ⟨_, _, _, rfl, m1, hE, ?_⟩
      rw [hl', amt_nil, sv_zero, Int.add_zero]
    · rw [if_neg (by rintro (h | h); omega; exact hl' h.2.1), if_neg (by rintro (h | h); omega; exact hl h.1), if_neg hl]
      have h1 := hE hl
      have h2 := hE' hl'
      have a1 := amt_low (l := l) (x := x) (e := min x x') (E := E) (by omega) (by omega)
      have a2 := amt_low (l := l') (x := x') (e := min x x') (E := E) (by omega) (by omega)
      obtain ⟨e, he⟩ : ∃ e, e = min x x' := ⟨_, rfl⟩
      have hee : E ≤ e := by omega
      rw [← he] at a1 a2 ⊢
      obtain ⟨s, hs⟩ : ∃ s, s = sg g (amt l x e) + sg g' (amt l' x' e) := ⟨_, rfl⟩
      rw [← hs]
      cases ht : told (decide (s < 0)) s.natAbs e with
      | none => exact .inl rfl
      | some p =>
        obtain ⟨t1, t2⟩ := told_amt (l := p.1) (x := p.2) ht hee
        refine .inr ⟨_, p.1, p.2, rfl, (mayB_iff ..).2 (told_may ht), t2, ?_⟩
        rw [t1, sv_mul, sv_abs, a1, a2, sv_mul, sv_mul, hs, Int.add_mul]
        rfl
section
variable {w W W' : World} {a0 a1 a2 a3 b0 b1 b2 b3 : Value}
theorem TS.far4 (h : TS w W a0 a1 a2 a3 b0 b1 b2 b3) {q : Nat} (hp : w.heap.size + 1 + 1 < q) (a b c d : Value) : TS w ((((W.setCell ⟨q, 0, none⟩ a).setCell ⟨q, 1, none⟩ b).setCell ⟨q, 2, none⟩ c).setCell ⟨q, 3, none⟩ d) a0 a1 a2 a3 b0 b1 b2 b3 :=
  (((h.farC (p := (⟨q, 0, none⟩ : Addr)) hp a).farC (p := (⟨q, 1, none⟩ : Addr)) hp b).farC (p := (⟨q, 2, none⟩ : Addr)) hp c).farC (p := (⟨q, 3, none⟩ : Addr)) hp d
end
theorem setz4 {w : World} {g : Nat} {a0 a1 a2 a3 : Value} (C : Bk w g 23 #[a0, a1, a2, a3]) (a b c d : Value) : Bk ((((w.setCell ⟨g, 0, none⟩ a).setCell ⟨g, 1, none⟩ b).setCell ⟨g, 2, none⟩ c).setCell ⟨g, 3, none⟩ d) g 23 #[a, b, c, d] := C.set4 _ _ _ _ rfl
set_option maxHeartbeats 16000000 in
set_option maxRecDepth 100000 in
theorem away_pos (ca : Int) (ga : Bool) (sa : ByteArray) (xa cb : Int) (gb : Bool) (sb : ByteArray) (xb cn : Int) (gn : Bool) (sn : ByteArray) (xn c3 : Int) (s3 : ByteArray) (x3 e3 en : Int) (ok : Bool) (hok : (e3 == 0) = ok) (w : World) (hp : Pow w)
    (HN : ∀ w1, Calls Tryz.prog 60 #[.agg #[.int .i64 cb, .bool gb, .string sb, .int .i64 xb]] w1 fun e w' => e = .returned (.tuple #[.agg #[.int .i64 cn, .bool gn, .string sn, .int .i64 xn], .int .i64 en]) ∧ Below w1.heap.size w1 w')
    (HA : ∀ w1, Pow w1 → Calls Tryz.prog 39 #[.agg #[.int .i64 ca, .bool ga, .string sa, .int .i64 xa], .agg #[.int .i64 cn, .bool gn, .string sn, .int .i64 xn]] w1 fun e w' => e = .returned (.tuple #[.agg #[.int .i64 c3, .bool false, .string s3, .int .i64 x3], .int .i64 e3]) ∧ Below w1.heap.size w1 w') :
    Calls Tryz.prog 38 #[.agg #[.int .i64 ca, .bool ga, .string sa, .int .i64 xa], .agg #[.int .i64 cb, .bool gb, .string sb, .int .i64 xb]] w fun e w' => e = .returned (.tuple #[.agg #[.int .i64 c3, .bool false, .string s3, .int .i64 x3], .bool ok]) ∧ Below w.heap.size w w' := by
  have T := TS.start w (.int .i64 ca) (.bool ga) (.string sa) (.int .i64 xa) (.int .i64 cb) (.bool gb) (.string sb) (.int .i64 xb)
  have HT := Lib.hid T
  have HP := Lib.hid hp
  have HN' := Lib.hid HN
  have HA' := Lib.hid HA
  clear T hp HN HA
  go_enter Tryz.func38, Tryz.ntmps38
  go_wp2_with (first
    | (go_at_call 60; (with_reducible refine (HN'.out _).mono ?_); rintro e w1 ⟨rfl, b1⟩; have y1 := (HT.out.below b1).alloc (.cells #[.int .i64 cn, .bool gn, .string sn, .int .i64 xn] 23); have k1 := y1.k8; have m1 := four (Bk.start w1 23 #[.int .i64 cn, .bool gn, .string sn, .int .i64 xn]))
    | (go_at_call 39; (with_reducible refine (HA'.out _ (HP.out.below y1.bl)).mono ?_); rintro e w2 ⟨rfl, b2⟩; have y2 := (y1.below b2).alloc (.cells #[.int .i64 c3, .bool false, .string s3, .int .i64 x3] 23); have m2 := four (Bk.start w2 23 #[.int .i64 c3, .bool false, .string s3, .int .i64 x3]); have q2 := y2.res))
  obtain ⟨o1, o2⟩ := y2.ret (.int .i64 c3) (.bool false) (.string s3) (.int .i64 x3)
  exact bodyPost_ret (res_bk_t rfl _ o1 rfl Tryz.underlying23 rfl (by kernel_rfl)) rfl ⟨rfl, o2⟩
set_option maxHeartbeats 16000000 in
set_option maxRecDepth 100000 in
theorem away_neg (ca : Int) (ga : Bool) (sa : ByteArray) (xa cb : Int) (gb : Bool) (sb : ByteArray) (xb cn : Int) (gn : Bool) (sn : ByteArray) (xn c3 : Int) (s3 : ByteArray) (x3 e3 en em : Int) (ok : Bool) (hok : (e3 == 0) = ok) (w : World) (hp : Pow w)
    (HN : ∀ w1, Calls Tryz.prog 60 #[.agg #[.int .i64 cb, .bool gb, .string sb, .int .i64 xb]] w1 fun e w' => e = .returned (.tuple #[.agg #[.int .i64 cn, .bool gn, .string sn, .int .i64 xn], .int .i64 en]) ∧ Below w1.heap.size w1 w')
    (HA : ∀ w1, Pow w1 → Calls Tryz.prog 39 #[.agg #[.int .i64 ca, .bool ga, .string sa, .int .i64 xa], .agg #[.int .i64 cn, .bool gn, .string sn, .int .i64 xn]] w1 fun e w' => e = .returned (.tuple #[.agg #[.int .i64 c3, .bool true, .string s3, .int .i64 x3], .int .i64 e3]) ∧ Below w1.heap.size w1 w')
    (HM : ∀ w1, Calls Tryz.prog 60 #[.agg #[.int .i64 c3, .bool true, .string s3, .int .i64 x3]] w1 fun e w' => e = .returned (.tuple #[.agg #[.int .i64 c3, .bool false, .string s3, .int .i64 x3], .int .i64 em]) ∧ Below w1.heap.size w1 w') :
    Calls Tryz.prog 38 #[.agg #[.int .i64 ca, .bool ga, .string sa, .int .i64 xa], .agg #[.int .i64 cb, .bool gb, .string sb, .int .i64 xb]] w fun e w' => e = .returned (.tuple #[.agg #[.int .i64 c3, .bool false, .string s3, .int .i64 x3], .bool ok]) ∧ Below w.heap.size w w' := by
  have T := TS.start w (.int .i64 ca) (.bool ga) (.string sa) (.int .i64 xa) (.int .i64 cb) (.bool gb) (.string sb) (.int .i64 xb)
  have HT := Lib.hid T
  have HP := Lib.hid hp
  have HN' := Lib.hid HN
  have HA' := Lib.hid HA
  have HM' := Lib.hid HM
  clear T hp HN HA HM
  go_enter Tryz.func38, Tryz.ntmps38
  go_wp2_with (first
    | (go_at_call 39; (with_reducible refine (HA'.out _ (HP.out.below y1.bl)).mono ?_); rintro e w2 ⟨rfl, b2⟩; have hq2 := (y1.below b2).r.lt; have y2 := (y1.below b2).alloc (.cells #[.int .i64 c3, .bool true, .string s3, .int .i64 x3] 23); have B2 := Bk.start w2 23 #[.int .i64 c3, .bool true, .string s3, .int .i64 x3]; have m2 := four B2)
    | (go_at_call 60; first
      | (have tag := B2; (with_reducible refine (HM'.out _).mono ?_); rintro e w3 ⟨rfl, b3⟩; have B3 := B2.below b3; have f3 := frz B3; have m3 := four B3; have B4 := setz4 B3 (.int .i64 c3) (.bool false) (.string s3) (.int .i64 x3); have m4 := four B4; have y4 := (y2.below b3).far4 hq2 (.int .i64 c3) (.bool false) (.string s3) (.int .i64 x3); have q4 := y4.res)
      | ((with_reducible refine (HN'.out _).mono ?_); rintro e w1 ⟨rfl, b1⟩; have y1 := (HT.out.below b1).alloc (.cells #[.int .i64 cn, .bool gn, .string sn, .int .i64 xn] 23); have k1 := y1.k8; have m1 := four (Bk.start w1 23 #[.int .i64 cn, .bool gn, .string sn, .int .i64 xn]))))
  obtain ⟨o1, o2⟩ := y4.ret (.int .i64 c3) (.bool false) (.string s3) (.int .i64 x3)
  exact bodyPost_ret (res_bk_t rfl _ o1 rfl Tryz.underlying23 rfl (by kernel_rfl)) rfl ⟨rfl, o2⟩
/-- away at two finite ones: none, or the amount of their difference -/
theorem away_calls (ga : Bool) (la : List UInt8) (xa : Int) (gb : Bool) (lb : List UInt8) (xb E : Int) (m1 : mayB 0 ga la xa = true) (m2 : mayB 0 gb lb xb = true) (hE : la ≠ [] → E ≤ xa) (hE' : lb ≠ [] → E ≤ xb) (hl : la.length ≤ 100000) (hl' : lb.length ≤ 100000) :
    (∀ w, Pow w → Calls Tryz.prog 38 #[.agg (dec 0 ga la xa), .agg (dec 0 gb lb xb)] w fun e w' => e = .returned (.tuple #[.agg (dec 0 false [] 0), .bool false]) ∧ Below w.heap.size w w') ∨
    ∃ l3 x3, mayB 0 false l3 x3 = true ∧ (l3 ≠ [] → E ≤ x3) ∧ amt l3 x3 E = (sv ga (amt la xa E) - sv gb (amt lb xb E)).natAbs ∧
      ∀ w, Pow w → Calls Tryz.prog 38 #[.agg (dec 0 ga la xa), .agg (dec 0 gb lb xb)] w fun e w' => e = .returned (.tuple #[.agg (dec 0 false l3 x3), .bool true]) ∧ Below w.heap.size w w' := by
  have hN : ∀ w1, Calls Tryz.prog 60 #[.agg (dec 0 gb lb xb)] w1 fun e w' => e = .returned (.tuple #[.agg (dec 0 (!gb) lb xb), .int .i64 0]) ∧ Below w1.heap.size w1 w' := fun w1 => by
    have e := neg_calls 0 gb lb xb w1 (by omega)
    unfold ngV at e
    rw [if_neg (by rw [m2]; decide)] at e
    have eg : ngG 0 gb = !gb := by unfold ngG; cases gb <;> rfl
    rw [eg] at e
    exact e
  have m3 : mayB 0 (!gb) lb xb = true := by
    have := may_ng m2
    have eg : ngG 0 gb = !gb := by unfold ngG; cases gb <;> rfl
    rwa [eg] at this
  have hA := fun w1 hp => add_calls 0 ga la xa 0 (!gb) lb xb w1 hp (by omega) (by omega)
  have hs : sv (!gb) (amt lb xb E) = -sv gb (amt lb xb E) := by unfold sv; cases gb <;> simp
  rcases add_fin m1 m3 hE hE' with h | ⟨g3, l3, x3, h, m, hx, hv⟩
  · rw [h] at hA
    exact .inl fun w hp => away_pos 0 ga ⟨la.toArray⟩ xa 0 gb ⟨lb.toArray⟩ xb 0 (!gb) ⟨lb.toArray⟩ xb 0 ⟨#[]⟩ 0 51 0 false rfl w hp hN hA
  · rw [h] at hA
    have hv2 : amt l3 x3 E = (sv ga (amt la xa E) - sv gb (amt lb xb E)).natAbs := by
      rw [hs] at hv
      rw [Int.sub_eq_add_neg, ← hv]
      unfold sv
      cases g3 <;> simp
    right
    cases g3
    · exact ⟨l3, x3, m, hx, hv2, fun w hp => away_pos 0 ga ⟨la.toArray⟩ xa 0 gb ⟨lb.toArray⟩ xb 0 (!gb) ⟨lb.toArray⟩ xb 0 ⟨l3.toArray⟩ x3 0 0 true rfl w hp hN hA⟩
    · have m4 : mayB 0 false l3 x3 = true := may_ng m
      have hM : ∀ w1, Calls Tryz.prog 60 #[.agg (dec 0 true l3 x3)] w1 fun e w' => e = .returned (.tuple #[.agg (dec 0 false l3 x3), .int .i64 0]) ∧ Below w1.heap.size w1 w' := fun w1 => by
        have e := neg_calls 0 true l3 x3 w1 (by
          by_cases h0 : l3 = []
          · rw [h0]; decide
          · have := (may_str m h0).2.2.1; omega)
        unfold ngV at e
        rw [if_neg (by rw [m]; decide)] at e
        exact e
      exact ⟨l3, x3, m4, hx, hv2, fun w hp => away_neg 0 ga ⟨la.toArray⟩ xa 0 gb ⟨lb.toArray⟩ xb 0 (!gb) ⟨lb.toArray⟩ xb 0 ⟨l3.toArray⟩ x3 0 0 0 true rfl w hp hN hA hM⟩
end Go.Proofs.YtfddokfnplehkaaGreatDoor.Dc

/- Layer 6's laws: RoundNear's walks. -/
set_option linter.unusedSimpArgs false
set_option linter.unusedVariables false
namespace Go.Proofs.YtfddokfnplehkaaGreatDoor.Dc
open Go.RowKit Go.Proofs.YtfddokfnplehkaaGreatDoor.Dig Go.Proofs.YtfddokfnplehkaaGreatDoor.W Go.Proofs.YtfddokfnplehkaaGreatDoor.Nat Go.Proofs.YtfddokfnplehkaaGreatDoor.Wh Go.Proofs.YtfddokfnplehkaaGreatDoor.Td Go.Proofs.YtfddokfnplehkaaGreatDoor.Bu Go.Proofs.YtfddokfnplehkaaGreatDoor.Tx Go.Proofs.YtfddokfnplehkaaGreatDoor.Sp Go.Proofs.YtfddokfnplehkaaGreatDoor.Rd

/-- the boxes of two Decs, and a third one -/
structure TN (w V : World) (gx : Nat) (cs ds es : Array Value) : Prop where
  a : Bk V w.heap.size 23 cs
  b : Bk V (w.heap.size + 1) 23 ds
  x : Bk V gx 23 es
  bl : Below w.heap.size w V
section
variable {w V V' : World} {gx : Nat} {cs ds es : Array Value} {a0 a1 a2 a3 b0 b1 b2 b3 c0 c1 c2 c3 : Value}
theorem TN.below (h : TN w V gx cs ds es) (hb : Below V.heap.size V V') : TN w V' gx cs ds es := ⟨h.a.below hb, h.b.below hb, h.x.below hb, on h.bl hb⟩
theorem TN.drew (h : TN w V gx cs ds es) : TN w V.drew gx cs ds es := h.below (Below.refl _ _).drew
theorem TN.alloc (h : TN w V gx cs ds es) (o : Obj) : TN w (V.alloc o) gx cs ds es := h.below (alloc_below _ _)
theorem TN.keep (h : TN w V gx #[a0, a1, a2, a3] #[b0, b1, b2, b3] #[c0, c1, c2, c3]) : V.cell? ⟨w.heap.size, 0, none⟩ = some a0 ∧ V.cell? ⟨w.heap.size, 1, none⟩ = some a1 ∧ V.cell? ⟨w.heap.size, 2, none⟩ = some a2 ∧ V.cell? ⟨w.heap.size, 3, none⟩ = some a3 ∧
  V.cell? ⟨w.heap.size + 1, 0, none⟩ = some b0 ∧ V.cell? ⟨w.heap.size + 1, 1, none⟩ = some b1 ∧ V.cell? ⟨w.heap.size + 1, 2, none⟩ = some b2 ∧ V.cell? ⟨w.heap.size + 1, 3, none⟩ = some b3 ∧
  V.cell? ⟨gx, 0, none⟩ = some c0 ∧ V.cell? ⟨gx, 1, none⟩ = some c1 ∧ V.cell? ⟨gx, 2, none⟩ = some c2 ∧ V.cell? ⟨gx, 3, none⟩ = some c3 := ⟨h.a.at_ 0 rfl, h.a.at_ 1 rfl, h.a.at_ 2 rfl, h.a.at_ 3 rfl, h.b.at_ 0 rfl, h.b.at_ 1 rfl, h.b.at_ 2 rfl, h.b.at_ 3 rfl, h.x.at_ 0 rfl, h.x.at_ 1 rfl, h.x.at_ 2 rfl, h.x.at_ 3 rfl⟩
end
attribute [local go_sem ↓] eq_dec ne_dec
set_option maxHeartbeats 8000000 in
set_option maxRecDepth 100000 in
theorem near_err (c : Int) (g : Bool) (sd : ByteArray) (xd cs : Int) (gs : Bool) (ss : ByteArray) (xs mode : Int) (er : Int) (w : World) (hp : Pow w)
    (H1 : ∀ w1, Pow w1 → Calls Tryz.prog 36 #[.agg #[.int .i64 c, .bool g, .string sd, .int .i64 xd], .agg #[.int .i64 cs, .bool gs, .string ss, .int .i64 xs], .int .i64 mode] w1 fun e w' => e = .returned (.tuple #[.agg #[.int .i64 0, .bool false, .string ⟨#[]⟩, .int .i64 0], .int .i64 er]) ∧ Below w1.heap.size w1 w')
    (he : er ≠ 0) :
    Calls Tryz.prog 10 #[.agg #[.int .i64 c, .bool g, .string sd, .int .i64 xd], .agg #[.int .i64 cs, .bool gs, .string ss, .int .i64 xs], .int .i64 mode] w fun e w' => e = .returned (.bool true) ∧ Below w.heap.size w w' := by
  have de := eqB he
  have T := T8.start w #[.int .i64 c, .bool g, .string sd, .int .i64 xd] #[.int .i64 cs, .bool gs, .string ss, .int .i64 xs]
  have HT := Lib.hid T
  have HP := Lib.hid hp
  have HA := Lib.hid (fun W (bl : Below w.heap.size w W) => awake_calls W (hp.below bl))
  have H1' := Lib.hid H1
  clear T hp H1
  go_enter Tryz.func10, Tryz.ntmps10
  go_wp2_with (first
    | (go_at_call 36; first
      | ((with_reducible refine (H1'.out _ (HP.out.below HT.out.bl)).mono ?_); rintro e w1 ⟨rfl, b1⟩; have y1 : TN w (w1.alloc (.cells #[.int .i64 0, .bool false, .string ⟨#[]⟩, .int .i64 0] 23)) w1.heap.size _ _ _ := ⟨(HT.out.below b1).a.alloc _, (HT.out.below b1).b.alloc _, Bk.start w1 23 #[.int .i64 0, .bool false, .string ⟨#[]⟩, .int .i64 0], on (on HT.out.bl b1) (alloc_below w1 _)⟩; have k1 := y1.keep))
    | (go_at_call 37; (with_reducible refine (HA.out _ y1.bl).mono ?_); rintro e w2 ⟨rfl, b2⟩; have y2 := y1.below b2; have k2 := y2.keep))
  go_ret
  exact ⟨rfl, y2.bl⟩
set_option maxHeartbeats 8000000 in
set_option maxRecDepth 100000 in
theorem near_cls (c : Int) (g : Bool) (sd : ByteArray) (xd cs : Int) (gs : Bool) (ss : ByteArray) (xs mode : Int) (w : World) (hp : Pow w)
    (H1 : ∀ w1, Pow w1 → Calls Tryz.prog 36 #[.agg #[.int .i64 c, .bool g, .string sd, .int .i64 xd], .agg #[.int .i64 cs, .bool gs, .string ss, .int .i64 xs], .int .i64 mode] w1 fun e w' => e = .returned (.tuple #[.agg #[.int .i64 c, .bool g, .string sd, .int .i64 xd], .int .i64 0]) ∧ Below w1.heap.size w1 w')
    (he : c ≠ 0) :
    Calls Tryz.prog 10 #[.agg #[.int .i64 c, .bool g, .string sd, .int .i64 xd], .agg #[.int .i64 cs, .bool gs, .string ss, .int .i64 xs], .int .i64 mode] w fun e w' => e = .returned (.bool true) ∧ Below w.heap.size w w' := by
  have de := eqB he
  have T := T8.start w #[.int .i64 c, .bool g, .string sd, .int .i64 xd] #[.int .i64 cs, .bool gs, .string ss, .int .i64 xs]
  have HT := Lib.hid T
  have HP := Lib.hid hp
  have HA := Lib.hid (fun W (bl : Below w.heap.size w W) => awake_calls W (hp.below bl))
  have H1' := Lib.hid H1
  clear T hp H1
  go_enter Tryz.func10, Tryz.ntmps10
  go_wp2_with (first
    | (go_at_call 36; first
      | ((with_reducible refine (H1'.out _ (HP.out.below HT.out.bl)).mono ?_); rintro e w1 ⟨rfl, b1⟩; have y1 : TN w (w1.alloc (.cells #[.int .i64 c, .bool g, .string sd, .int .i64 xd] 23)) w1.heap.size _ _ _ := ⟨(HT.out.below b1).a.alloc _, (HT.out.below b1).b.alloc _, Bk.start w1 23 #[.int .i64 c, .bool g, .string sd, .int .i64 xd], on (on HT.out.bl b1) (alloc_below w1 _)⟩; have k1 := y1.keep))
    | (go_at_call 37; (with_reducible refine (HA.out _ y1.bl).mono ?_); rintro e w2 ⟨rfl, b2⟩; have y2 := y1.below b2; have k2 := y2.keep))
  go_ret
  exact ⟨rfl, y2.bl⟩
set_option maxHeartbeats 16000000 in
set_option maxRecDepth 100000 in
theorem near_off (g : Bool) (sd : ByteArray) (xd cs : Int) (gs : Bool) (ss : ByteArray) (xs mode : Int) (sx : ByteArray) (xx cg : Int) (gg : Bool) (sg : ByteArray) (xg : Int) (w : World) (hp : Pow w)
    (H1 : ∀ w1, Pow w1 → Calls Tryz.prog 36 #[.agg #[.int .i64 0, .bool g, .string sd, .int .i64 xd], .agg #[.int .i64 cs, .bool gs, .string ss, .int .i64 xs], .int .i64 mode] w1 fun e w' => e = .returned (.tuple #[.agg #[.int .i64 0, .bool g, .string sx, .int .i64 xx], .int .i64 0]) ∧ Below w1.heap.size w1 w')
    (H2 : ∀ w1, Pow w1 → Calls Tryz.prog 36 #[.agg #[.int .i64 0, .bool g, .string sx, .int .i64 xx], .agg #[.int .i64 cs, .bool gs, .string ss, .int .i64 xs], .int .i64 mode] w1 fun e w' => e = .returned (.tuple #[.agg #[.int .i64 0, .bool g, .string sx, .int .i64 xx], .int .i64 0]) ∧ Below w1.heap.size w1 w')
    (HW : ∀ w1, Pow w1 → Calls Tryz.prog 38 #[.agg #[.int .i64 0, .bool g, .string sx, .int .i64 xx], .agg #[.int .i64 0, .bool g, .string sd, .int .i64 xd]] w1 fun e w' => e = .returned (.tuple #[.agg #[.int .i64 cg, .bool gg, .string sg, .int .i64 xg], .bool false]) ∧ Below w1.heap.size w1 w') :
    Calls Tryz.prog 10 #[.agg #[.int .i64 0, .bool g, .string sd, .int .i64 xd], .agg #[.int .i64 cs, .bool gs, .string ss, .int .i64 xs], .int .i64 mode] w fun e w' => e = .returned (.bool true) ∧ Below w.heap.size w w' := by
  have T := T8.start w #[.int .i64 0, .bool g, .string sd, .int .i64 xd] #[.int .i64 cs, .bool gs, .string ss, .int .i64 xs]
  have HT := Lib.hid T
  have HP := Lib.hid hp
  have HA := Lib.hid (fun W (bl : Below w.heap.size w W) => awake_calls W (hp.below bl))
  have H1' := Lib.hid H1
  have H2' := Lib.hid H2
  have HW' := Lib.hid HW
  clear T hp H1 H2 HW
  go_enter Tryz.func10, Tryz.ntmps10
  go_wp2_with (first
    | (go_at_call 36; first
      | ((with_reducible refine (H1'.out _ (HP.out.below HT.out.bl)).mono ?_); rintro e w1 ⟨rfl, b1⟩; have y1 : TN w (w1.alloc (.cells #[.int .i64 0, .bool g, .string sx, .int .i64 xx] 23)) w1.heap.size _ _ _ := ⟨(HT.out.below b1).a.alloc _, (HT.out.below b1).b.alloc _, Bk.start w1 23 #[.int .i64 0, .bool g, .string sx, .int .i64 xx], on (on HT.out.bl b1) (alloc_below w1 _)⟩; have k1 := y1.keep)
      | ((with_reducible refine (H2'.out _ (HP.out.below y2.bl)).mono ?_); rintro e w3 ⟨rfl, b3⟩; have y3 := (y2.below b3).alloc (.cells #[.int .i64 0, .bool g, .string sx, .int .i64 xx] 23); have k3 := y3.keep; have n3 := four (Bk.start w3 23 #[.int .i64 0, .bool g, .string sx, .int .i64 xx])))
    | (go_at_call 37; (with_reducible refine (HA.out _ y1.bl).mono ?_); rintro e w2 ⟨rfl, b2⟩; have y2 := y1.below b2; have k2 := y2.keep)
    | (go_at_call 38; (with_reducible refine (HW'.out _ (HP.out.below y3.bl)).mono ?_); rintro e w4 ⟨rfl, b4⟩; have m4 := four (((Bk.start w3 23 #[.int .i64 0, .bool g, .string sx, .int .i64 xx]).below b4).alloc (.cells #[.int .i64 cg, .bool gg, .string sg, .int .i64 xg] 23)); have y4 := (y3.below b4).alloc (.cells #[.int .i64 cg, .bool gg, .string sg, .int .i64 xg] 23); have k4 := y4.keep; have B4 := Bk.start w4 23 #[.int .i64 cg, .bool gg, .string sg, .int .i64 xg]; have g4 := four B4))
  go_ret
  exact ⟨rfl, y4.bl⟩
set_option maxHeartbeats 32000000 in
set_option maxRecDepth 100000 in
theorem near_onA (g : Bool) (sd : ByteArray) (xd cs : Int) (gs : Bool) (ss : ByteArray) (xs mode : Int) (sx : ByteArray) (xx cg : Int) (gg : Bool) (sg : ByteArray) (xg : Int) (ct : Int) (gt : Bool) (st : ByteArray) (xt er : Int) (low high : Bool) (w : World) (hp : Pow w)
    (H1 : ∀ w1, Pow w1 → Calls Tryz.prog 36 #[.agg #[.int .i64 0, .bool g, .string sd, .int .i64 xd], .agg #[.int .i64 cs, .bool gs, .string ss, .int .i64 xs], .int .i64 mode] w1 fun e w' => e = .returned (.tuple #[.agg #[.int .i64 0, .bool g, .string sx, .int .i64 xx], .int .i64 0]) ∧ Below w1.heap.size w1 w')
    (H2 : ∀ w1, Pow w1 → Calls Tryz.prog 36 #[.agg #[.int .i64 0, .bool g, .string sx, .int .i64 xx], .agg #[.int .i64 cs, .bool gs, .string ss, .int .i64 xs], .int .i64 mode] w1 fun e w' => e = .returned (.tuple #[.agg #[.int .i64 0, .bool g, .string sx, .int .i64 xx], .int .i64 0]) ∧ Below w1.heap.size w1 w')
    (HW : ∀ w1, Pow w1 → Calls Tryz.prog 38 #[.agg #[.int .i64 0, .bool g, .string sx, .int .i64 xx], .agg #[.int .i64 0, .bool g, .string sd, .int .i64 xd]] w1 fun e w' => e = .returned (.tuple #[.agg #[.int .i64 cg, .bool gg, .string sg, .int .i64 xg], .bool true]) ∧ Below w1.heap.size w1 w')
    (HD : ∀ w1, Pow w1 → Calls Tryz.prog 39 #[.agg #[.int .i64 cg, .bool gg, .string sg, .int .i64 xg], .agg #[.int .i64 cg, .bool gg, .string sg, .int .i64 xg]] w1 fun e w' => e = .returned (.tuple #[.agg #[.int .i64 ct, .bool gt, .string st, .int .i64 xt], .int .i64 er]) ∧ Below w1.heap.size w1 w')
    (L1 : ∀ w1, Calls Tryz.prog 40 #[.agg #[.int .i64 cg, .bool gg, .string sg, .int .i64 xg], .agg #[.int .i64 cs, .bool gs, .string ss, .int .i64 xs]] w1 fun e w' => e = .returned (.bool true) ∧ Below w1.heap.size w1 w')
    (her : er ≠ 0)
    (LL : ∀ w1, Calls Tryz.prog 40 #[.agg #[.int .i64 0, .bool g, .string sx, .int .i64 xx], .agg #[.int .i64 0, .bool g, .string sd, .int .i64 xd]] w1 fun e w' => e = .returned (.bool low) ∧ Below w1.heap.size w1 w')
    (LH : ∀ w1, Calls Tryz.prog 40 #[.agg #[.int .i64 0, .bool g, .string sd, .int .i64 xd], .agg #[.int .i64 0, .bool g, .string sx, .int .i64 xx]] w1 fun e w' => e = .returned (.bool high) ∧ Below w1.heap.size w1 w')
    (m0 : mode = 0 → low = false) (m1 : mode = 1 → high = false) (m2 : mode = 2 → if g = true then low = false else high = false) (m3 : mode = 3 → if g = true then high = false else low = false) :
    Calls Tryz.prog 10 #[.agg #[.int .i64 0, .bool g, .string sd, .int .i64 xd], .agg #[.int .i64 cs, .bool gs, .string ss, .int .i64 xs], .int .i64 mode] w fun e w' => e = .returned (.bool true) ∧ Below w.heap.size w w' := by
  have de := eqB her
  have T := T8.start w #[.int .i64 0, .bool g, .string sd, .int .i64 xd] #[.int .i64 cs, .bool gs, .string ss, .int .i64 xs]
  have HT := Lib.hid T
  have HP := Lib.hid hp
  have HA := Lib.hid (fun W (bl : Below w.heap.size w W) => awake_calls W (hp.below bl))
  have H1' := Lib.hid H1
  have H2' := Lib.hid H2
  have HW' := Lib.hid HW
  have HD' := Lib.hid HD
  have L1' := Lib.hid L1
  have LL' := Lib.hid LL
  have LH' := Lib.hid LH
  clear T hp H1 H2 HW HD L1 LL LH
  go_enter Tryz.func10, Tryz.ntmps10
  go_wp2_with (first
    | (go_at_call 36; first
      | ((with_reducible refine (H1'.out _ (HP.out.below HT.out.bl)).mono ?_); rintro e w1 ⟨rfl, b1⟩; have y1 : TN w (w1.alloc (.cells #[.int .i64 0, .bool g, .string sx, .int .i64 xx] 23)) w1.heap.size _ _ _ := ⟨(HT.out.below b1).a.alloc _, (HT.out.below b1).b.alloc _, Bk.start w1 23 #[.int .i64 0, .bool g, .string sx, .int .i64 xx], on (on HT.out.bl b1) (alloc_below w1 _)⟩; have k1 := y1.keep)
      | ((with_reducible refine (H2'.out _ (HP.out.below y2.bl)).mono ?_); rintro e w3 ⟨rfl, b3⟩; have y3 := (y2.below b3).alloc (.cells #[.int .i64 0, .bool g, .string sx, .int .i64 xx] 23); have k3 := y3.keep; have n3 := four (Bk.start w3 23 #[.int .i64 0, .bool g, .string sx, .int .i64 xx])))
    | (go_at_call 37; (with_reducible refine (HA.out _ y1.bl).mono ?_); rintro e w2 ⟨rfl, b2⟩; have y2 := y1.below b2; have k2 := y2.keep)
    | (go_at_call 38; (with_reducible refine (HW'.out _ (HP.out.below y3.bl)).mono ?_); rintro e w4 ⟨rfl, b4⟩; have m4 := four (((Bk.start w3 23 #[.int .i64 0, .bool g, .string sx, .int .i64 xx]).below b4).alloc (.cells #[.int .i64 cg, .bool gg, .string sg, .int .i64 xg] 23)); have y4 := (y3.below b4).alloc (.cells #[.int .i64 cg, .bool gg, .string sg, .int .i64 xg] 23); have k4 := y4.keep; have B4 := Bk.start w4 23 #[.int .i64 cg, .bool gg, .string sg, .int .i64 xg]; have g4 := four B4)
    | (go_at_call 39; (with_reducible refine (HD'.out _ (HP.out.below y4.bl)).mono ?_); rintro e w5 ⟨rfl, b5⟩; have B5 := (B4.below b5).alloc (.cells #[.int .i64 ct, .bool gt, .string st, .int .i64 xt] 23); have g5 := four B5; have y5 := (y4.below b5).alloc (.cells #[.int .i64 ct, .bool gt, .string st, .int .i64 xt] 23); have k5 := y5.keep; have C5 := Bk.start w5 23 #[.int .i64 ct, .bool gt, .string st, .int .i64 xt]; have t5 := four C5)
    | (go_at_call 40; (with_reducible refine (L1'.out _).mono ?_); rintro e w6 ⟨rfl, b6⟩; have y6 := y5.below b6; have k6 := y6.keep))
  have z0 := y6.drew
  clear k1 k2 k3 k4 k5 k6 n3 m4 g4 g5 t5
  generalize w1.heap.size = gx at *
  go_region_held3 (fun w' => w'.cell? ⟨w.heap.size, 0, none⟩ = some (.int .i64 0) ∧ w'.cell? ⟨w.heap.size, 1, none⟩ = some (.bool g) ∧ w'.cell? ⟨w.heap.size, 2, none⟩ = some (.string sd) ∧ w'.cell? ⟨w.heap.size, 3, none⟩ = some (.int .i64 xd) ∧ w'.cell? ⟨w.heap.size + 1, 0, none⟩ = some (.int .i64 cs) ∧ w'.cell? ⟨w.heap.size + 1, 1, none⟩ = some (.bool gs) ∧ w'.cell? ⟨w.heap.size + 1, 2, none⟩ = some (.string ss) ∧ w'.cell? ⟨w.heap.size + 1, 3, none⟩ = some (.int .i64 xs) ∧ w'.cell? ⟨gx, 0, none⟩ = some (.int .i64 0) ∧ w'.cell? ⟨gx, 1, none⟩ = some (.bool g) ∧ w'.cell? ⟨gx, 2, none⟩ = some (.string sx) ∧ w'.cell? ⟨gx, 3, none⟩ = some (.int .i64 xx))
    (first
      | (with_reducible exact z0.keep)
      | (with_reducible exact z1.keep)
      | (with_reducible exact z2.keep))
    (first
      | (go_at_call 40; first
        | ((with_reducible refine (LL'.out w6.drew).mono ?_); rintro e u1 ⟨rfl, c1⟩; have z1 := z0.below c1)
        | ((with_reducible refine (LH'.out w6.drew).mono ?_); rintro e u1 ⟨rfl, c1⟩; have z1 := z0.below c1)
        | ((with_reducible refine (LL'.out u1).mono ?_); rintro e u2 ⟨rfl, c2⟩; have z2 := z1.below c2)
        | ((with_reducible refine (LH'.out u1).mono ?_); rintro e u2 ⟨rfl, c2⟩; have z2 := z1.below c2)))
  all_goals
    have k9 := z2.keep
    clear z0
    by_cases a0 : mode = 0
    · have l0 := m0 a0
      subst a0
      subst l0
      clear m0 m1 m2 m3
      go_wp2
      go_ret
      exact ⟨rfl, z2.bl⟩
    by_cases a1 : mode = 1
    · have l0 := m1 a1
      subst a1
      subst l0
      clear m0 m1 m2 m3
      go_wp2
      go_ret
      exact ⟨rfl, z2.bl⟩
    by_cases a2 : mode = 2
    · have l0 := m2 a2
      subst a2
      clear m0 m1 m2 m3
      cases g
      · rw [if_neg (by decide)] at l0
        subst l0
        go_wp2
        go_ret
        exact ⟨rfl, z2.bl⟩
      · rw [if_pos rfl] at l0
        subst l0
        go_wp2
        go_ret
        exact ⟨rfl, z2.bl⟩
    by_cases a3 : mode = 3
    · have l0 := m3 a3
      subst a3
      clear m0 m1 m2 m3
      cases g
      · rw [if_neg (by decide)] at l0
        subst l0
        go_wp2
        go_ret
        exact ⟨rfl, z2.bl⟩
      · rw [if_pos rfl] at l0
        subst l0
        go_wp2
        go_ret
        exact ⟨rfl, z2.bl⟩
    have n0 := eqB a0
    have n1 := eqB a1
    have n2 := eqB a2
    have n3 := eqB a3
    clear m0 m1 m2 m3 a0 a1 a2 a3
    go_wp2
    go_ret
    exact ⟨rfl, z2.bl⟩
set_option maxHeartbeats 32000000 in
set_option maxRecDepth 100000 in
theorem near_onB (g : Bool) (sd : ByteArray) (xd cs : Int) (gs : Bool) (ss : ByteArray) (xs mode : Int) (sx : ByteArray) (xx cg : Int) (gg : Bool) (sg : ByteArray) (xg : Int) (ct : Int) (gt : Bool) (st : ByteArray) (xt er : Int) (low high : Bool) (w : World) (hp : Pow w)
    (H1 : ∀ w1, Pow w1 → Calls Tryz.prog 36 #[.agg #[.int .i64 0, .bool g, .string sd, .int .i64 xd], .agg #[.int .i64 cs, .bool gs, .string ss, .int .i64 xs], .int .i64 mode] w1 fun e w' => e = .returned (.tuple #[.agg #[.int .i64 0, .bool g, .string sx, .int .i64 xx], .int .i64 0]) ∧ Below w1.heap.size w1 w')
    (H2 : ∀ w1, Pow w1 → Calls Tryz.prog 36 #[.agg #[.int .i64 0, .bool g, .string sx, .int .i64 xx], .agg #[.int .i64 cs, .bool gs, .string ss, .int .i64 xs], .int .i64 mode] w1 fun e w' => e = .returned (.tuple #[.agg #[.int .i64 0, .bool g, .string sx, .int .i64 xx], .int .i64 0]) ∧ Below w1.heap.size w1 w')
    (HW : ∀ w1, Pow w1 → Calls Tryz.prog 38 #[.agg #[.int .i64 0, .bool g, .string sx, .int .i64 xx], .agg #[.int .i64 0, .bool g, .string sd, .int .i64 xd]] w1 fun e w' => e = .returned (.tuple #[.agg #[.int .i64 cg, .bool gg, .string sg, .int .i64 xg], .bool true]) ∧ Below w1.heap.size w1 w')
    (HD : ∀ w1, Pow w1 → Calls Tryz.prog 39 #[.agg #[.int .i64 cg, .bool gg, .string sg, .int .i64 xg], .agg #[.int .i64 cg, .bool gg, .string sg, .int .i64 xg]] w1 fun e w' => e = .returned (.tuple #[.agg #[.int .i64 ct, .bool gt, .string st, .int .i64 xt], .int .i64 er]) ∧ Below w1.heap.size w1 w')
    (L1 : ∀ w1, Calls Tryz.prog 40 #[.agg #[.int .i64 cg, .bool gg, .string sg, .int .i64 xg], .agg #[.int .i64 cs, .bool gs, .string ss, .int .i64 xs]] w1 fun e w' => e = .returned (.bool true) ∧ Below w1.heap.size w1 w')
    (her : er = 0) (hmo : mode < 4)
    (LL : ∀ w1, Calls Tryz.prog 40 #[.agg #[.int .i64 0, .bool g, .string sx, .int .i64 xx], .agg #[.int .i64 0, .bool g, .string sd, .int .i64 xd]] w1 fun e w' => e = .returned (.bool low) ∧ Below w1.heap.size w1 w')
    (LH : ∀ w1, Calls Tryz.prog 40 #[.agg #[.int .i64 0, .bool g, .string sd, .int .i64 xd], .agg #[.int .i64 0, .bool g, .string sx, .int .i64 xx]] w1 fun e w' => e = .returned (.bool high) ∧ Below w1.heap.size w1 w')
    (m0 : mode = 0 → low = false) (m1 : mode = 1 → high = false) (m2 : mode = 2 → if g = true then low = false else high = false) (m3 : mode = 3 → if g = true then high = false else low = false) :
    Calls Tryz.prog 10 #[.agg #[.int .i64 0, .bool g, .string sd, .int .i64 xd], .agg #[.int .i64 cs, .bool gs, .string ss, .int .i64 xs], .int .i64 mode] w fun e w' => e = .returned (.bool true) ∧ Below w.heap.size w w' := by
  subst her
  have d4 := decide_eq_false (show ¬ 4 ≤ mode by omega)
  have T := T8.start w #[.int .i64 0, .bool g, .string sd, .int .i64 xd] #[.int .i64 cs, .bool gs, .string ss, .int .i64 xs]
  have HT := Lib.hid T
  have HP := Lib.hid hp
  have HA := Lib.hid (fun W (bl : Below w.heap.size w W) => awake_calls W (hp.below bl))
  have H1' := Lib.hid H1
  have H2' := Lib.hid H2
  have HW' := Lib.hid HW
  have HD' := Lib.hid HD
  have L1' := Lib.hid L1
  have LL' := Lib.hid LL
  have LH' := Lib.hid LH
  clear T hp H1 H2 HW HD L1 LL LH
  go_enter Tryz.func10, Tryz.ntmps10
  go_wp2_with (first
    | (go_at_call 36; first
      | ((with_reducible refine (H1'.out _ (HP.out.below HT.out.bl)).mono ?_); rintro e w1 ⟨rfl, b1⟩; have y1 : TN w (w1.alloc (.cells #[.int .i64 0, .bool g, .string sx, .int .i64 xx] 23)) w1.heap.size _ _ _ := ⟨(HT.out.below b1).a.alloc _, (HT.out.below b1).b.alloc _, Bk.start w1 23 #[.int .i64 0, .bool g, .string sx, .int .i64 xx], on (on HT.out.bl b1) (alloc_below w1 _)⟩; have k1 := y1.keep)
      | ((with_reducible refine (H2'.out _ (HP.out.below y2.bl)).mono ?_); rintro e w3 ⟨rfl, b3⟩; have y3 := (y2.below b3).alloc (.cells #[.int .i64 0, .bool g, .string sx, .int .i64 xx] 23); have k3 := y3.keep; have n3 := four (Bk.start w3 23 #[.int .i64 0, .bool g, .string sx, .int .i64 xx])))
    | (go_at_call 37; (with_reducible refine (HA.out _ y1.bl).mono ?_); rintro e w2 ⟨rfl, b2⟩; have y2 := y1.below b2; have k2 := y2.keep)
    | (go_at_call 38; (with_reducible refine (HW'.out _ (HP.out.below y3.bl)).mono ?_); rintro e w4 ⟨rfl, b4⟩; have m4 := four (((Bk.start w3 23 #[.int .i64 0, .bool g, .string sx, .int .i64 xx]).below b4).alloc (.cells #[.int .i64 cg, .bool gg, .string sg, .int .i64 xg] 23)); have y4 := (y3.below b4).alloc (.cells #[.int .i64 cg, .bool gg, .string sg, .int .i64 xg] 23); have k4 := y4.keep; have B4 := Bk.start w4 23 #[.int .i64 cg, .bool gg, .string sg, .int .i64 xg]; have g4 := four B4)
    | (go_at_call 39; (with_reducible refine (HD'.out _ (HP.out.below y4.bl)).mono ?_); rintro e w5 ⟨rfl, b5⟩; have B5 := (B4.below b5).alloc (.cells #[.int .i64 ct, .bool gt, .string st, .int .i64 xt] 23); have g5 := four B5; have y5 := (y4.below b5).alloc (.cells #[.int .i64 ct, .bool gt, .string st, .int .i64 xt] 23); have k5 := y5.keep; have C5 := Bk.start w5 23 #[.int .i64 ct, .bool gt, .string st, .int .i64 xt]; have t5 := four C5)
    | (go_at_call 40; (with_reducible refine (L1'.out _).mono ?_); rintro e w6 ⟨rfl, b6⟩; have y6 := y5.below b6; have k6 := y6.keep))
  have z0 := y6.drew
  clear k1 k2 k3 k4 k5 k6 n3 m4 g4 g5 t5
  generalize w1.heap.size = gx at *
  go_region_held3 (fun w' => w'.cell? ⟨w.heap.size, 0, none⟩ = some (.int .i64 0) ∧ w'.cell? ⟨w.heap.size, 1, none⟩ = some (.bool g) ∧ w'.cell? ⟨w.heap.size, 2, none⟩ = some (.string sd) ∧ w'.cell? ⟨w.heap.size, 3, none⟩ = some (.int .i64 xd) ∧ w'.cell? ⟨w.heap.size + 1, 0, none⟩ = some (.int .i64 cs) ∧ w'.cell? ⟨w.heap.size + 1, 1, none⟩ = some (.bool gs) ∧ w'.cell? ⟨w.heap.size + 1, 2, none⟩ = some (.string ss) ∧ w'.cell? ⟨w.heap.size + 1, 3, none⟩ = some (.int .i64 xs) ∧ w'.cell? ⟨gx, 0, none⟩ = some (.int .i64 0) ∧ w'.cell? ⟨gx, 1, none⟩ = some (.bool g) ∧ w'.cell? ⟨gx, 2, none⟩ = some (.string sx) ∧ w'.cell? ⟨gx, 3, none⟩ = some (.int .i64 xx))
    (first
      | (with_reducible exact z0.keep)
      | (with_reducible exact z1.keep)
      | (with_reducible exact z2.keep))
    (first
      | (go_at_call 40; first
        | ((with_reducible refine (LL'.out w6.drew).mono ?_); rintro e u1 ⟨rfl, c1⟩; have z1 := z0.below c1)
        | ((with_reducible refine (LH'.out w6.drew).mono ?_); rintro e u1 ⟨rfl, c1⟩; have z1 := z0.below c1)
        | ((with_reducible refine (LL'.out u1).mono ?_); rintro e u2 ⟨rfl, c2⟩; have z2 := z1.below c2)
        | ((with_reducible refine (LH'.out u1).mono ?_); rintro e u2 ⟨rfl, c2⟩; have z2 := z1.below c2)))
  all_goals
    have k9 := z2.keep
    clear z0
    by_cases a0 : mode = 0
    · have l0 := m0 a0
      subst a0
      subst l0
      clear m0 m1 m2 m3
      go_wp2
      go_ret
      exact ⟨rfl, z2.bl⟩
    by_cases a1 : mode = 1
    · have l0 := m1 a1
      subst a1
      subst l0
      clear m0 m1 m2 m3
      go_wp2
      go_ret
      exact ⟨rfl, z2.bl⟩
    by_cases a2 : mode = 2
    · have l0 := m2 a2
      subst a2
      clear m0 m1 m2 m3
      cases g
      · rw [if_neg (by decide)] at l0
        subst l0
        go_wp2
        go_ret
        exact ⟨rfl, z2.bl⟩
      · rw [if_pos rfl] at l0
        subst l0
        go_wp2
        go_ret
        exact ⟨rfl, z2.bl⟩
    by_cases a3 : mode = 3
    · have l0 := m3 a3
      subst a3
      clear m0 m1 m2 m3
      cases g
      · rw [if_neg (by decide)] at l0
        subst l0
        go_wp2
        go_ret
        exact ⟨rfl, z2.bl⟩
      · rw [if_pos rfl] at l0
        subst l0
        go_wp2
        go_ret
        exact ⟨rfl, z2.bl⟩
    have n0 := eqB a0
    have n1 := eqB a1
    have n2 := eqB a2
    have n3 := eqB a3
    clear m0 m1 m2 m3 a0 a1 a2 a3
    go_wp2
    go_ret
    exact ⟨rfl, z2.bl⟩
set_option maxHeartbeats 32000000 in
set_option maxRecDepth 100000 in
theorem near_onC (g : Bool) (sd : ByteArray) (xd cs : Int) (gs : Bool) (ss : ByteArray) (xs mode : Int) (sx : ByteArray) (xx cg : Int) (gg : Bool) (sg : ByteArray) (xg : Int) (ct : Int) (gt : Bool) (st : ByteArray) (xt er : Int) (low high : Bool) (w : World) (hp : Pow w)
    (H1 : ∀ w1, Pow w1 → Calls Tryz.prog 36 #[.agg #[.int .i64 0, .bool g, .string sd, .int .i64 xd], .agg #[.int .i64 cs, .bool gs, .string ss, .int .i64 xs], .int .i64 mode] w1 fun e w' => e = .returned (.tuple #[.agg #[.int .i64 0, .bool g, .string sx, .int .i64 xx], .int .i64 0]) ∧ Below w1.heap.size w1 w')
    (H2 : ∀ w1, Pow w1 → Calls Tryz.prog 36 #[.agg #[.int .i64 0, .bool g, .string sx, .int .i64 xx], .agg #[.int .i64 cs, .bool gs, .string ss, .int .i64 xs], .int .i64 mode] w1 fun e w' => e = .returned (.tuple #[.agg #[.int .i64 0, .bool g, .string sx, .int .i64 xx], .int .i64 0]) ∧ Below w1.heap.size w1 w')
    (HW : ∀ w1, Pow w1 → Calls Tryz.prog 38 #[.agg #[.int .i64 0, .bool g, .string sx, .int .i64 xx], .agg #[.int .i64 0, .bool g, .string sd, .int .i64 xd]] w1 fun e w' => e = .returned (.tuple #[.agg #[.int .i64 cg, .bool gg, .string sg, .int .i64 xg], .bool true]) ∧ Below w1.heap.size w1 w')
    (HD : ∀ w1, Pow w1 → Calls Tryz.prog 39 #[.agg #[.int .i64 cg, .bool gg, .string sg, .int .i64 xg], .agg #[.int .i64 cg, .bool gg, .string sg, .int .i64 xg]] w1 fun e w' => e = .returned (.tuple #[.agg #[.int .i64 ct, .bool gt, .string st, .int .i64 xt], .int .i64 er]) ∧ Below w1.heap.size w1 w')
    (L1 : ∀ w1, Calls Tryz.prog 40 #[.agg #[.int .i64 cg, .bool gg, .string sg, .int .i64 xg], .agg #[.int .i64 cs, .bool gs, .string ss, .int .i64 xs]] w1 fun e w' => e = .returned (.bool true) ∧ Below w1.heap.size w1 w')
    (her : er = 0) (hmo : 4 ≤ mode)
    (L2 : ∀ w1, Calls Tryz.prog 40 #[.agg #[.int .i64 cs, .bool gs, .string ss, .int .i64 xs], .agg #[.int .i64 ct, .bool gt, .string st, .int .i64 xt]] w1 fun e w' => e = .returned (.bool false) ∧ Below w1.heap.size w1 w')
    (LL : ∀ w1, Calls Tryz.prog 40 #[.agg #[.int .i64 0, .bool g, .string sx, .int .i64 xx], .agg #[.int .i64 0, .bool g, .string sd, .int .i64 xd]] w1 fun e w' => e = .returned (.bool low) ∧ Below w1.heap.size w1 w')
    (LH : ∀ w1, Calls Tryz.prog 40 #[.agg #[.int .i64 0, .bool g, .string sd, .int .i64 xd], .agg #[.int .i64 0, .bool g, .string sx, .int .i64 xx]] w1 fun e w' => e = .returned (.bool high) ∧ Below w1.heap.size w1 w')
    (m0 : mode = 0 → low = false) (m1 : mode = 1 → high = false) (m2 : mode = 2 → if g = true then low = false else high = false) (m3 : mode = 3 → if g = true then high = false else low = false) :
    Calls Tryz.prog 10 #[.agg #[.int .i64 0, .bool g, .string sd, .int .i64 xd], .agg #[.int .i64 cs, .bool gs, .string ss, .int .i64 xs], .int .i64 mode] w fun e w' => e = .returned (.bool true) ∧ Below w.heap.size w w' := by
  subst her
  have d4 := decide_eq_true hmo
  have T := T8.start w #[.int .i64 0, .bool g, .string sd, .int .i64 xd] #[.int .i64 cs, .bool gs, .string ss, .int .i64 xs]
  have HT := Lib.hid T
  have HP := Lib.hid hp
  have HA := Lib.hid (fun W (bl : Below w.heap.size w W) => awake_calls W (hp.below bl))
  have H1' := Lib.hid H1
  have H2' := Lib.hid H2
  have HW' := Lib.hid HW
  have HD' := Lib.hid HD
  have L1' := Lib.hid L1
  have L2' := Lib.hid L2
  have LL' := Lib.hid LL
  have LH' := Lib.hid LH
  clear T hp H1 H2 HW HD L1 L2 LL LH
  go_enter Tryz.func10, Tryz.ntmps10
  go_wp2_with (first
    | (go_at_call 36; first
      | ((with_reducible refine (H1'.out _ (HP.out.below HT.out.bl)).mono ?_); rintro e w1 ⟨rfl, b1⟩; have y1 : TN w (w1.alloc (.cells #[.int .i64 0, .bool g, .string sx, .int .i64 xx] 23)) w1.heap.size _ _ _ := ⟨(HT.out.below b1).a.alloc _, (HT.out.below b1).b.alloc _, Bk.start w1 23 #[.int .i64 0, .bool g, .string sx, .int .i64 xx], on (on HT.out.bl b1) (alloc_below w1 _)⟩; have k1 := y1.keep)
      | ((with_reducible refine (H2'.out _ (HP.out.below y2.bl)).mono ?_); rintro e w3 ⟨rfl, b3⟩; have y3 := (y2.below b3).alloc (.cells #[.int .i64 0, .bool g, .string sx, .int .i64 xx] 23); have k3 := y3.keep; have n3 := four (Bk.start w3 23 #[.int .i64 0, .bool g, .string sx, .int .i64 xx])))
    | (go_at_call 37; (with_reducible refine (HA.out _ y1.bl).mono ?_); rintro e w2 ⟨rfl, b2⟩; have y2 := y1.below b2; have k2 := y2.keep)
    | (go_at_call 38; (with_reducible refine (HW'.out _ (HP.out.below y3.bl)).mono ?_); rintro e w4 ⟨rfl, b4⟩; have m4 := four (((Bk.start w3 23 #[.int .i64 0, .bool g, .string sx, .int .i64 xx]).below b4).alloc (.cells #[.int .i64 cg, .bool gg, .string sg, .int .i64 xg] 23)); have y4 := (y3.below b4).alloc (.cells #[.int .i64 cg, .bool gg, .string sg, .int .i64 xg] 23); have k4 := y4.keep; have B4 := Bk.start w4 23 #[.int .i64 cg, .bool gg, .string sg, .int .i64 xg]; have g4 := four B4)
    | (go_at_call 39; (with_reducible refine (HD'.out _ (HP.out.below y4.bl)).mono ?_); rintro e w5 ⟨rfl, b5⟩; have B5 := (B4.below b5).alloc (.cells #[.int .i64 ct, .bool gt, .string st, .int .i64 xt] 23); have g5 := four B5; have y5 := (y4.below b5).alloc (.cells #[.int .i64 ct, .bool gt, .string st, .int .i64 xt] 23); have k5 := y5.keep; have C5 := Bk.start w5 23 #[.int .i64 ct, .bool gt, .string st, .int .i64 xt]; have t5 := four C5)
    | (go_at_call 40; first
      | ((with_reducible refine (L1'.out _).mono ?_); rintro e w6 ⟨rfl, b6⟩; have y6 := y5.below b6; have k6 := y6.keep; have t6 := four (C5.below b6))
      | ((with_reducible refine (L2'.out w6).mono ?_); rintro e w7 ⟨rfl, b7⟩; have y7 := y6.below b7; have k7 := y7.keep)))
  have z0 := y7.drew
  clear k1 k2 k3 k4 k5 k6 k7 n3 m4 g4 g5 t5 t6
  generalize w1.heap.size = gx at *
  go_region_held3 (fun w' => w'.cell? ⟨w.heap.size, 0, none⟩ = some (.int .i64 0) ∧ w'.cell? ⟨w.heap.size, 1, none⟩ = some (.bool g) ∧ w'.cell? ⟨w.heap.size, 2, none⟩ = some (.string sd) ∧ w'.cell? ⟨w.heap.size, 3, none⟩ = some (.int .i64 xd) ∧ w'.cell? ⟨w.heap.size + 1, 0, none⟩ = some (.int .i64 cs) ∧ w'.cell? ⟨w.heap.size + 1, 1, none⟩ = some (.bool gs) ∧ w'.cell? ⟨w.heap.size + 1, 2, none⟩ = some (.string ss) ∧ w'.cell? ⟨w.heap.size + 1, 3, none⟩ = some (.int .i64 xs) ∧ w'.cell? ⟨gx, 0, none⟩ = some (.int .i64 0) ∧ w'.cell? ⟨gx, 1, none⟩ = some (.bool g) ∧ w'.cell? ⟨gx, 2, none⟩ = some (.string sx) ∧ w'.cell? ⟨gx, 3, none⟩ = some (.int .i64 xx))
    (first
      | (with_reducible exact z0.keep)
      | (with_reducible exact z1.keep)
      | (with_reducible exact z2.keep))
    (first
      | (go_at_call 40; first
        | ((with_reducible refine (LL'.out w7.drew).mono ?_); rintro e u1 ⟨rfl, c1⟩; have z1 := z0.below c1)
        | ((with_reducible refine (LH'.out w7.drew).mono ?_); rintro e u1 ⟨rfl, c1⟩; have z1 := z0.below c1)
        | ((with_reducible refine (LL'.out u1).mono ?_); rintro e u2 ⟨rfl, c2⟩; have z2 := z1.below c2)
        | ((with_reducible refine (LH'.out u1).mono ?_); rintro e u2 ⟨rfl, c2⟩; have z2 := z1.below c2)))
  all_goals
    have k9 := z2.keep
    have n0 := eqB (show mode ≠ 0 by omega)
    have n1 := eqB (show mode ≠ 1 by omega)
    have n2 := eqB (show mode ≠ 2 by omega)
    have n3 := eqB (show mode ≠ 3 by omega)
    clear m0 m1 m2 m3 z0
    go_wp2
    go_ret
    exact ⟨rfl, z2.bl⟩
end Go.Proofs.YtfddokfnplehkaaGreatDoor.Dc

/- Layer 6's laws: RoundNear, joined. -/
set_option linter.unusedSimpArgs false
set_option linter.unusedVariables false
namespace Go.Proofs.YtfddokfnplehkaaGreatDoor.Dc
open Go.RowKit Go.Proofs.YtfddokfnplehkaaGreatDoor.Dig Go.Proofs.YtfddokfnplehkaaGreatDoor.W Go.Proofs.YtfddokfnplehkaaGreatDoor.Nat Go.Proofs.YtfddokfnplehkaaGreatDoor.Wh Go.Proofs.YtfddokfnplehkaaGreatDoor.Td Go.Proofs.YtfddokfnplehkaaGreatDoor.Bu Go.Proofs.YtfddokfnplehkaaGreatDoor.Tx Go.Proofs.YtfddokfnplehkaaGreatDoor.Sp Go.Proofs.YtfddokfnplehkaaGreatDoor.Rd

set_option maxHeartbeats 4000000 in
set_option maxRecDepth 100000 in
theorem nless_calls (c c' : Int) (g g' : Bool) (S S' : ByteArray) (x y z : Int) (w : World)
    (H : ∀ w1, Calls Tryz.prog 65 #[.agg #[.int .i64 c, .bool g, .string S, .int .i64 x], .agg #[.int .i64 c', .bool g', .string S', .int .i64 y]] w1 fun e w' => e = .returned (.tuple #[.int .i64 z, .int .i64 0]) ∧ Below w1.heap.size w1 w') :
    Calls Tryz.prog 40 #[.agg #[.int .i64 c, .bool g, .string S, .int .i64 x], .agg #[.int .i64 c', .bool g', .string S', .int .i64 y]] w fun e w' => e = .returned (.bool (decide (z < 0))) ∧ Below w.heap.size w w' := by
  have T := T8.start w #[.int .i64 c, .bool g, .string S, .int .i64 x] #[.int .i64 c', .bool g', .string S', .int .i64 y]
  have HB := Lib.hid T.bl
  have HH := Lib.hid H
  clear T H
  go_enter Tryz.func40, Tryz.ntmps40
  go_wp2_with (go_at_call 65; (with_reducible refine (HH.out _).mono ?_); rintro e w1 ⟨rfl, b1⟩)
  go_ret
  exact ⟨rfl, on HB.out b1⟩
theorem order_lt (a b : Int) : decide (order a b < 0) = decide (a < b) := by
  unfold order
  by_cases h : a < b
  · rw [if_pos h, decide_eq_true h]; rfl
  · rw [if_neg h, decide_eq_false h]
    split <;> rfl
/-- less at two finite ones -/
theorem less_fin (g g' : Bool) (l m : List UInt8) (x y E : Int) (w : World) (h1 : mayB 0 g l x = true) (h2 : mayB 0 g' m y = true) (hx : l ≠ [] → E ≤ x) (hy : m ≠ [] → E ≤ y) :
    Calls Tryz.prog 40 #[.agg (dec 0 g l x), .agg (dec 0 g' m y)] w fun e w' => e = .returned (.bool (decide (sv g (amt l x E) < sv g' (amt m y E)))) ∧ Below w.heap.size w w' := by
  have HC := fun w1 => cmp_fin g g' l m x y E w1 h1 h2 hx hy
  have e := nless_calls 0 0 g g' ⟨l.toArray⟩ ⟨m.toArray⟩ x y _ w HC
  rw [order_lt] at e
  exact e
theorem stV_err {c : Int} {g : Bool} {l : List UInt8} {x c' : Int} {g' : Bool} {l' : List UInt8} {x' mode : Int} (h : (stV c g l x c' g' l' x' mode).2 ≠ 0) : (stV c g l x c' g' l' x' mode).1 = dec 0 false [] 0 := by
  unfold stV at h ⊢
  by_cases h1 : mayB c' g' l' x' = false
  · rw [if_pos h1]
  · rw [if_neg h1] at h ⊢
    by_cases h2 : askE (mayB c g l x) mode ≠ 0
    · rw [if_pos h2]
    · rw [if_neg h2] at h ⊢
      by_cases h3 : l' = [] ∨ g' = true ∨ 32 < l'.length
      · rw [if_pos h3]
      · rw [if_neg h3] at h ⊢
        by_cases h4 : l = []
        · rw [if_pos h4] at h; exact absurd rfl h
        · rw [if_neg h4] at h ⊢
          cases ho : told g (rto mode.toNat g (nv 0 l) x (nv 0 l') x' * nv 0 l') x' with
          | none => rfl
          | some p => rw [ho] at h; exact absurd rfl h
theorem stV_good {c : Int} {g : Bool} {l : List UInt8} {x c' : Int} {g' : Bool} {l' : List UInt8} {x' mode : Int} (h : (stV c g l x c' g' l' x' mode).2 = 0) :
    mayB c g l x = true ∧ mayB c' g' l' x' = true ∧ 0 ≤ mode ∧ mode < 8 ∧ l' ≠ [] ∧ g' = false ∧ l'.length ≤ 32 := by
  unfold stV at h
  by_cases h1 : mayB c' g' l' x' = false
  · rw [if_pos h1] at h; exact absurd h (by decide)
  · rw [if_neg h1] at h
    rcases ask_cases (mayB c g l x) mode with ⟨k, _⟩ | ⟨k, _, _⟩ | ⟨k, k1, k2, k3⟩
    · rw [k, if_pos (by decide)] at h; exact absurd h (by decide)
    · rw [k, if_pos (by decide)] at h; exact absurd h (by decide)
    · rw [k, if_neg (by decide)] at h
      by_cases h3 : l' = [] ∨ g' = true ∨ 32 < l'.length
      · rw [if_pos h3] at h; exact absurd h (by decide)
      · refine ⟨k1, by simpa using h1, k2, k3, fun e => h3 (.inl e), ?_, ?_⟩
        · cases g'
          · rfl
          · exact absurd (.inr (.inl rfl)) h3
        · have : ¬ 32 < l'.length := fun e => h3 (.inr (.inr e))
          omega
theorem stV_fin {c : Int} {g : Bool} {l : List UInt8} {x c' : Int} {g' : Bool} {l' : List UInt8} {x' mode : Int} (k : mayB c g l x = true ∧ mayB c' g' l' x' = true ∧ 0 ≤ mode ∧ mode < 8 ∧ l' ≠ [] ∧ g' = false ∧ l'.length ≤ 32) :
    stV c g l x c' g' l' x' mode = if l = [] then (dec c g l x, 0) else (oc g (told g (rto mode.toNat g (nv 0 l) x (nv 0 l') x' * nv 0 l') x'), oe (told g (rto mode.toNat g (nv 0 l) x (nv 0 l') x' * nv 0 l') x')) := by
  obtain ⟨k1, k2, k3, k4, k5, k6, k7⟩ := k
  unfold stV
  rw [if_neg (by rw [k2]; decide), ask_ok k1 k3 k4, if_neg (by decide), if_neg (by rintro (h | h | h); exact k5 h; rw [k6] at h; cases h; omega)]
theorem rto_step {mode : Nat} {g : Bool} {l : List UInt8} {x u y E : Int} {U : Nat} (hx : E ≤ x) (hp : E ≤ y) : rto mode g (nv 0 l) x U y = rnd mode g (amt l x E) (U * 10 ^ (y - E).toNat) := by
  unfold rto amt
  have h1 : E ≤ min x y := by omega
  have e1 : (x - E).toNat = (x - min x y).toNat + (min x y - E).toNat := by omega
  have e2 : (y - E).toNat = (y - min x y).toNat + (min x y - E).toNat := by omega
  rw [e1, e2, Nat.pow_add, Nat.pow_add, ← Nat.mul_assoc, ← Nat.mul_assoc]
  exact (rnd_mul mode g _ _ (Nat.pow_pos (by omega))).symm
theorem told_again {mode : Nat} {g : Bool} {m u : Nat} {y : Int} {l : List UInt8} {x : Int} (hu : 0 < u) (h : told g (m * u) y = some (l, x)) (hl : l ≠ []) : told g (rto mode g (nv 0 l) x u y * u) y = some (l, x) := by
  have hF : Formed l := by
    rcases told_may h with ⟨k, _⟩ | ⟨_, k, _⟩
    · exact absurd k hl
    · exact k
  have h' := h
  unfold told at h'
  by_cases h0 : m * u = 0
  · rw [if_pos h0] at h'
    exact absurd (Prod.mk.inj (Option.some.inj h')).1.symm hl
  · rw [if_neg h0] at h'
    split at h'
    · obtain ⟨e1, e2⟩ := Prod.mk.inj (Option.some.inj h')
      have e3 : m * u = nv 0 l * 10 ^ tz (m * u) := by rw [← e1, nv_cd]
      have e4 : x = y + (tz (m * u) : Int) := by rw [← e2]; unfold Sp.ce; rw [if_neg h0]
      rw [rto_again (mode := mode) (g := g) (m := m) hu hF ⟨_, e3, e4⟩]
      exact h
    · cases h'
/-- what RoundNear asks, in numbers -/
theorem near_side {mode : Nat} (g : Bool) {A U : Nat} (hm : mode < 8) (hU : 0 < U) :
    (mode = 0 → ¬ sv g (rnd mode g A U * U) < sv g A) ∧ (mode = 1 → ¬ sv g A < sv g (rnd mode g A U * U)) ∧
    (mode = 2 → if g = true then ¬ sv g (rnd mode g A U * U) < sv g A else ¬ sv g A < sv g (rnd mode g A U * U)) ∧
    (mode = 3 → if g = true then ¬ sv g A < sv g (rnd mode g A U * U) else ¬ sv g (rnd mode g A U * U) < sv g A) := by
  obtain ⟨s1, s2, s3, s4⟩ := rnd_near_side A U
  have g2 := fun b => (rnd_gap (mode := 2) (by omega) b (A := A) hU).2.2.1 rfl
  have g3 := fun b => (rnd_gap (mode := 3) (by omega) b (A := A) hU).2.2.2 rfl
  refine ⟨?_, ?_, ?_, ?_⟩
  · rintro rfl
    cases g
    · have := g3 false
      rw [s3] at this
      unfold sv; simp only [Bool.false_eq_true, if_false]; omega
    · have := g2 true
      rw [s2] at this
      unfold sv; simp only [if_true]; omega
  · rintro rfl
    cases g
    · have := g2 false
      rw [s1] at this
      unfold sv; simp only [Bool.false_eq_true, if_false]; omega
    · have := g3 true
      rw [s4] at this
      unfold sv; simp only [if_true]; omega
  · rintro rfl
    cases g
    · have := g2 false
      unfold sv; simp only [Bool.false_eq_true, if_false]; omega
    · have := g2 true
      unfold sv; simp only [if_true]; omega
  · rintro rfl
    cases g
    · have := g3 false
      unfold sv; simp only [Bool.false_eq_true, if_false]; omega
    · have := g3 true
      unfold sv; simp only [if_true]; omega
theorem roundNear_calls (c : Int) (g : Bool) (l : List UInt8) (x : Int) (c' : Int) (g' : Bool) (l' : List UInt8) (x' mode : Int) (w : World) (hp : Pow w) (hl : l.length ≤ 9223372036854775807) (hl' : l'.length ≤ 9223372036854775807) :
    Calls Tryz.prog 10 #[.agg (dec c g l x), .agg (dec c' g' l' x'), .int .i64 mode] w fun e w' => e = .returned (.bool true) ∧ Below w.heap.size w w' := by
  have HS := fun w1 hp => step_calls c g l x c' g' l' x' mode w1 hp hl hl'
  unfold Res at HS
  by_cases he : (stV c g l x c' g' l' x' mode).2 ≠ 0
  · rw [stV_err he] at HS
    exact near_err c g ⟨l.toArray⟩ x c' g' ⟨l'.toArray⟩ x' mode _ w hp HS he
  · have he : (stV c g l x c' g' l' x' mode).2 = 0 := Classical.byContradiction he
    have K := stV_good he
    obtain ⟨k1, k2, k3, k4, k5, rfl, k7⟩ := K
    by_cases hc : c ≠ 0
    · have hl0 := (may_cls k1).2.2 hc
      rw [stV_fin ⟨k1, k2, k3, k4, k5, rfl, k7⟩, if_pos hl0] at HS
      exact near_cls c g ⟨l.toArray⟩ x c' false ⟨l'.toArray⟩ x' mode w hp HS hc
    have hc : c = 0 := Classical.byContradiction hc
    subst hc
    obtain ⟨rfl, hF', hf'⟩ := may_str k2 k5
    obtain ⟨mo, rfl⟩ : ∃ mo : Nat, mode = mo := ⟨mode.toNat, by omega⟩
    have hmo : (mo : Int).toNat = mo := by omega
    obtain ⟨E, hE⟩ : ∃ E : Int, E = -10000 := ⟨_, rfl⟩
    have hEx : l ≠ [] → E ≤ x := fun h0 => by
      obtain ⟨_, _, f1, f2, _⟩ := may_str k1 h0
      omega
    have hEy : E ≤ x' := by have := hf'.1; have := hf'.2.1; omega
    have hU : 0 < amt l' x' E := amt_pos hF'
    -- what it is rounded to
    have hX : ∃ lx xx, stV 0 g l x 0 false l' x' mo = (dec 0 g lx xx, 0) ∧ mayB 0 g lx xx = true ∧ (lx ≠ [] → E ≤ xx) ∧ amt lx xx E = rnd mo g (amt l x E) (amt l' x' E) * amt l' x' E ∧ stV 0 g lx xx 0 false l' x' mo = (dec 0 g lx xx, 0) := by
      by_cases h0 : l = []
      · subst h0
        have e := stV_fin ⟨k1, k2, k3, k4, k5, rfl, k7⟩
        rw [if_pos rfl] at e
        refine ⟨[], x, e, k1, fun h => absurd rfl h, ?_, e⟩
        rw [amt_nil, rnd_zero, Nat.zero_mul]
      · have e := stV_fin ⟨k1, k2, k3, k4, k5, rfl, k7⟩
        rw [if_neg h0, hmo] at e
        rw [e] at he
        cases ho : told g (rto mo g (nv 0 l) x (nv 0 l') x' * nv 0 l') x' with
        | none => rw [ho] at he; cases he
        | some p =>
          rw [ho] at e
          have ht : told g (rto mo g (nv 0 l) x (nv 0 l') x' * nv 0 l') x' = some (p.1, p.2) := ho
          obtain ⟨t1, t2⟩ := told_amt ht hEy
          have m : mayB 0 g p.1 p.2 = true := (mayB_iff ..).2 (told_may ht)
          refine ⟨p.1, p.2, e, m, t2, ?_, ?_⟩
          · rw [t1, Nat.mul_assoc, rto_step (u := 0) (hEx h0) hEy]
            rfl
          · rw [stV_fin ⟨m, k2, k3, k4, k5, rfl, k7⟩, hmo]
            by_cases hp0 : p.1 = []
            · rw [if_pos hp0]
            · rw [if_neg hp0, told_again hF'.pos ht hp0]
              rfl
    obtain ⟨lx, xx, eX, mX, hEX, aX, eY⟩ := hX
    rw [eX] at HS
    have lenX : lx.length ≤ 100000 := by have := (may_ok mX E hEX).len; omega
    have lenD : l.length ≤ 100000 := by have := (may_ok k1 E hEx).len; omega
    have HS2 := fun w1 hp => step_calls 0 g lx xx 0 false l' x' mo w1 hp (by omega) hl'
    unfold Res at HS2
    rw [eY] at HS2
    have hm8 : mo < 8 := by omega
    obtain ⟨r0, r1, r2, r3⟩ := near_side (mode := mo) g (A := amt l x E) hm8 hU
    obtain ⟨⟨p1, p2⟩, p3, _, _⟩ := rnd_gap (mode := mo) hm8 g (A := amt l x E) hU
    rw [← aX] at r0 r1 r2 r3 p1 p2 p3
    have LL := fun w1 => less_fin g g lx l xx x E w1 mX k1 hEX hEx
    have LH := fun w1 => less_fin g g l lx x xx E w1 k1 mX hEx hEX
    have q0 : (mo : Int) = 0 → decide (sv g (amt lx xx E) < sv g (amt l x E)) = false := fun h => decide_eq_false (r0 (by omega))
    have q1 : (mo : Int) = 1 → decide (sv g (amt l x E) < sv g (amt lx xx E)) = false := fun h => decide_eq_false (r1 (by omega))
    have q2 : (mo : Int) = 2 → if g = true then decide (sv g (amt lx xx E) < sv g (amt l x E)) = false else decide (sv g (amt l x E) < sv g (amt lx xx E)) = false := fun h => by
      have := r2 (by omega)
      cases g
      · rw [if_neg (by decide)] at this ⊢; exact decide_eq_false this
      · rw [if_pos rfl] at this ⊢; exact decide_eq_false this
    have q3 : (mo : Int) = 3 → if g = true then decide (sv g (amt l x E) < sv g (amt lx xx E)) = false else decide (sv g (amt lx xx E) < sv g (amt l x E)) = false := fun h => by
      have := r3 (by omega)
      cases g
      · rw [if_neg (by decide)] at this ⊢; exact decide_eq_false this
      · rw [if_pos rfl] at this ⊢; exact decide_eq_false this
    rcases away_calls g lx xx g l x E mX k1 hEX hEx lenX lenD with HW | ⟨l3, x3, m3, h3, a3, HW⟩
    · exact near_off g ⟨l.toArray⟩ x 0 false ⟨l'.toArray⟩ x' mo ⟨lx.toArray⟩ xx 0 false ⟨#[]⟩ 0 w hp HS HS2 HW
    · have hgap : amt l3 x3 E < amt l' x' E ∧ (4 ≤ mo → 2 * amt l3 x3 E ≤ amt l' x' E) := by
        rw [a3]
        unfold sv
        constructor
        · cases g
          · simp only [Bool.false_eq_true, if_false]; omega
          · simp only [if_true]; omega
        · intro h4
          have := p3 h4
          cases g
          · simp only [Bool.false_eq_true, if_false]; omega
          · simp only [if_true]; omega
      have L1 := fun w1 => less_fin false false l3 l' x3 x' E w1 m3 k2 h3 (fun _ => hEy)
      rw [decide_eq_true (by unfold sv; simp only [Bool.false_eq_true, if_false]; omega)] at L1
      have len3 : l3.length ≤ 100000 := by have := (may_ok m3 E h3).len; omega
      have HD := fun w1 hp => add_calls 0 false l3 x3 0 false l3 x3 w1 hp (by omega) (by omega)
      rcases add_fin m3 m3 h3 h3 with h | ⟨gt, lt, xt, h, mt, ht, hv⟩
      · rw [h] at HD
        exact near_onA g ⟨l.toArray⟩ x 0 false ⟨l'.toArray⟩ x' mo ⟨lx.toArray⟩ xx 0 false ⟨l3.toArray⟩ x3 0 false ⟨#[]⟩ 0 51 _ _ w hp HS HS2 HW HD L1 (by decide) LL LH q0 q1 q2 q3
      · rw [h] at HD
        by_cases h4 : (mo : Int) < 4
        · exact near_onB g ⟨l.toArray⟩ x 0 false ⟨l'.toArray⟩ x' mo ⟨lx.toArray⟩ xx 0 false ⟨l3.toArray⟩ x3 0 gt ⟨lt.toArray⟩ xt 0 _ _ w hp HS HS2 HW HD L1 rfl h4 LL LH q0 q1 q2 q3
        · have h4' : 4 ≤ mo := by omega
          have hh := hgap.2 h4'
          have L2 := fun w1 => less_fin false gt l' lt x' xt E w1 k2 mt (fun _ => hEy) ht
          rw [hv, decide_eq_false (by unfold sv; simp only [Bool.false_eq_true, if_false]; omega)] at L2
          exact near_onC g ⟨l.toArray⟩ x 0 false ⟨l'.toArray⟩ x' mo ⟨lx.toArray⟩ xx 0 false ⟨l3.toArray⟩ x3 0 gt ⟨lt.toArray⟩ xt 0 _ _ w hp HS HS2 HW HD L1 rfl (by omega) L2 LL LH q0 q1 q2 q3
end Go.Proofs.YtfddokfnplehkaaGreatDoor.Dc
