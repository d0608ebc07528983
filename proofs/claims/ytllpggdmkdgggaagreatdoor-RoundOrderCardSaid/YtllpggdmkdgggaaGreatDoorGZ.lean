/- Texts of one layer, joined: Dv, El, Em, Ep, Eq, Er, Eg, Es, Et, Eh. -/
import Derived.Test.YtllpggdmkdgggaaGreatDoorGP
import Derived.WalkLawsBesides
import Derived.Test.YtllpggdmkdgggaaGreatDoorGM
set_option linter.unusedVariables false
set_option linter.unusedSimpArgs false
set_option linter.unusedSectionVars false
/- Layer 6's laws: RoundPlaces. -/
set_option linter.unusedSimpArgs false
set_option linter.unusedVariables false
namespace Go.Proofs.YtllpggdmkdgggaaGreatDoor.Dc
open Go.RowKit Go.Proofs.YtllpggdmkdgggaaGreatDoor.Dig Go.Proofs.YtllpggdmkdgggaaGreatDoor.W Go.Proofs.YtllpggdmkdgggaaGreatDoor.Nat Go.Proofs.YtllpggdmkdgggaaGreatDoor.Wh Go.Proofs.YtllpggdmkdgggaaGreatDoor.Td Go.Proofs.YtllpggdmkdgggaaGreatDoor.Bu Go.Proofs.YtllpggdmkdgggaaGreatDoor.Tx Go.Proofs.YtllpggdmkdgggaaGreatDoor.Sp Go.Proofs.YtllpggdmkdgggaaGreatDoor.Rd
theorem fin_four (mode c : Int) (g : Bool) (l : List UInt8) (x place : Int) : ∃ c4 g4 l4 x4, (fin mode c g l x place).1 = #[.int .i64 c4, .bool g4, .string l4, .int .i64 x4] := by
  unfold fin
  split
  · exact ⟨_, _, _, _, rfl⟩
  · obtain ⟨g', l', x', e⟩ := oc_four g (pw mode.toNat g l x place)
    exact ⟨0, g', l', x', e⟩
theorem atV_four (c : Int) (g : Bool) (l : List UInt8) (x place mode : Int) : ∃ c4 g4 l4 x4, (atV c g l x place mode).1 = #[.int .i64 c4, .bool g4, .string l4, .int .i64 x4] := by
  unfold atV
  split
  · exact ⟨_, _, _, _, rfl⟩
  · split
    · exact ⟨_, _, _, _, rfl⟩
    · exact fin_four ..
theorem dgV_four (c : Int) (g : Bool) (l : List UInt8) (x n mode : Int) : ∃ c4 g4 l4 x4, (dgV c g l x n mode).1 = #[.int .i64 c4, .bool g4, .string l4, .int .i64 x4] := by
  unfold dgV
  split
  · exact ⟨_, _, _, _, rfl⟩
  · split
    · exact ⟨_, _, _, _, rfl⟩
    · exact fin_four ..
attribute [local go_sem ↓] eq_dec
set_option maxHeartbeats 8000000 in
set_option maxRecDepth 100000 in
theorem roundPlaces_calls (c : Int) (g : Bool) (l : List UInt8) (x place mode : Int) (w : World) (hp : Pow w) (hl : l.length ≤ 9223372036854775807) :
    Calls Tryz.prog 3 #[.agg (dec c g l x), .int .i64 place, .int .i64 mode] w fun e w' => e = .returned (.bool true) ∧ Below w.heap.size w w' := by
  have D0 := Lib.hid (Bk.start w 23 #[.int .i64 c, .bool g, .string ⟨l.toArray⟩, .int .i64 x])
  have b0 := alloc_below w (.cells #[.int .i64 c, .bool g, .string ⟨l.toArray⟩, .int .i64 x] 23)
  have H1 := Lib.hid (at_calls c g l x place mode _ (hp.below b0) hl)
  have H2 := Lib.hid (fun w1 => nat_calls c g l x place mode w1)
  have HA := Lib.hid (fun W (bl : Below w.heap.size w W) => awake_calls W (hp.below bl))
  have B0 := Lib.hid b0
  have ng := no_guard
  unfold Res at H1 H2
  obtain ⟨c4, g4, l4, x4, e4⟩ := atV_four c g l x place mode
  rw [e4] at H1 H2
  generalize (atV c g l x place mode).2 = er at *
  unfold dec str at *
  generalize (⟨l.toArray⟩ : ByteArray) = S at *
  clear hp b0 e4
  go_enter Tryz.func3, Tryz.ntmps3
  go_wp2_with (first
    | (go_at_call 11; (with_reducible refine H1.out.mono ?_); rintro e w1 ⟨rfl, b1⟩; have d1 := (D0.out.below b1).alloc (.cells #[.int .i64 c4, .bool g4, .string l4, .int .i64 x4] 23); have k1 := four d1)
    | (go_at_call 12; (with_reducible refine (H2.out _).mono ?_); rintro e w2 ⟨rfl, b2⟩; have y2 := ((Bk.start w1 23 #[.int .i64 c4, .bool g4, .string l4, .int .i64 x4]).below b2).alloc (.cells #[.int .i64 c4, .bool g4, .string l4, .int .i64 x4] 23); have z2 := Bk.start w2 23 #[.int .i64 c4, .bool g4, .string l4, .int .i64 x4]; have l2 := on (on (on (on B0.out b1) (alloc_below w1 _)) b2) (alloc_below w2 (.cells #[.int .i64 c4, .bool g4, .string l4, .int .i64 x4] 23)))
    | (go_at_call 13; (with_reducible refine (HA.out _ l2).mono ?_); rintro e w3 ⟨rfl, b3⟩; have y3 := four (y2.below b3); have z3 := four (z2.below b3); have l3 := on l2 b3))
  go_ret
  exact ⟨rfl, l3⟩
end Go.Proofs.YtllpggdmkdgggaaGreatDoor.Dc

/- Layer 6's laws: words for RoundWays and RoundOrder. -/
set_option linter.unusedSimpArgs false
set_option linter.unusedVariables false
namespace Go.Proofs.YtllpggdmkdgggaaGreatDoor.Dc
open Go.RowKit Go.Proofs.YtllpggdmkdgggaaGreatDoor.Dig Go.Proofs.YtllpggdmkdgggaaGreatDoor.W Go.Proofs.YtllpggdmkdgggaaGreatDoor.Nat Go.Proofs.YtllpggdmkdgggaaGreatDoor.Wh Go.Proofs.YtllpggdmkdgggaaGreatDoor.Td Go.Proofs.YtllpggdmkdgggaaGreatDoor.Bu Go.Proofs.YtllpggdmkdgggaaGreatDoor.Tx Go.Proofs.YtllpggdmkdgggaaGreatDoor.Sp Go.Proofs.YtllpggdmkdgggaaGreatDoor.Rd

theorem neql_agg {P : Program} {xs ys : Array Value} {r : Bool} {w : World} {t : TypeId} (h : (Op.equalIn 10000 t (.agg xs) (.agg ys)).run P w = .ok r w) : (binOp .neq t (.agg xs) (.agg ys)).run P w = .ok (.bool (!r)) w := by
  simp only [binOp]
  simp [Op.equal, Op.maxDepth, h]
theorem ne_dec (c x : Int) (g : Bool) (l : ByteArray) (w : World) : (binOp .neq 23 (.agg #[.int .i64 c, .bool g, .string l, .int .i64 x]) (.agg #[.int .i64 c, .bool g, .string l, .int .i64 x])).run Tryz.prog w = .ok (.bool false) w := by
  have e := neql_agg (eq_four 9998 w c c x x g g l l)
  rw [e]
  simp
theorem place_nil (c : Int) (g : Bool) (S : ByteArray) (x : Int) (w : World) (e1 : S.toList.isEmpty = true) (e2 : (S.toList == []) = true) :
    Calls Tryz.prog 20 #[.agg #[.int .i64 c, .bool g, .string S, .int .i64 x]] w fun e w' => e = .returned (.int .i64 0) ∧ Below w.heap.size w w' := by
  have HB := Lib.hid (alloc_below w (.cells #[.int .i64 c, .bool g, .string S, .int .i64 x] 23))
  go_enter Tryz.func20, Tryz.ntmps20
  go_wp2
  go_ret
  exact ⟨rfl, HB.out⟩
/-- two blocks that a law holds -/
structure TU (w V : World) (gx : Nat) (cs ds : Array Value) : Prop where
  a : Bk V w.heap.size 23 cs
  x : Bk V gx 23 ds
  lt : w.heap.size < gx
  bl : Below w.heap.size w V
section
variable {w V V' : World} {gx : Nat} {cs ds : Array Value} {a0 a1 a2 a3 b0 b1 b2 b3 : Value}
theorem TU.below (h : TU w V gx cs ds) (hb : Below V.heap.size V V') : TU w V' gx cs ds := ⟨h.a.below hb, h.x.below hb, h.lt, on h.bl hb⟩
theorem TU.drew (h : TU w V gx cs ds) : TU w V.drew gx cs ds := ⟨h.a.drew, h.x.drew, h.lt, h.bl.drew⟩
theorem TU.alloc (h : TU w V gx cs ds) (o : Obj) : TU w (V.alloc o) gx cs ds := h.below (alloc_below _ _)
theorem TU.farC (h : TU w V gx cs ds) {p : Addr} (hp : gx < p.block) (v : Value) : TU w (V.setCell p v) gx cs ds :=
  ⟨h.a.far v (by have := h.lt; omega), h.x.far v (by omega), h.lt, h.bl.setCell (by have := h.lt; omega) v⟩
theorem TU.far4 (h : TU w V gx cs ds) {q : Nat} (hp : gx < q) (a b c d : Value) : TU w ((((V.setCell ⟨q, 0, none⟩ a).setCell ⟨q, 1, none⟩ b).setCell ⟨q, 2, none⟩ c).setCell ⟨q, 3, none⟩ d) gx cs ds :=
  (((h.farC (p := (⟨q, 0, none⟩ : Addr)) hp a).farC (p := (⟨q, 1, none⟩ : Addr)) hp b).farC (p := (⟨q, 2, none⟩ : Addr)) hp c).farC (p := (⟨q, 3, none⟩ : Addr)) hp d
theorem TU.keep (h : TU w V gx #[a0, a1, a2, a3] #[b0, b1, b2, b3]) : V.cell? ⟨w.heap.size, 0, none⟩ = some a0 ∧ V.cell? ⟨w.heap.size, 1, none⟩ = some a1 ∧ V.cell? ⟨w.heap.size, 2, none⟩ = some a2 ∧ V.cell? ⟨w.heap.size, 3, none⟩ = some a3 ∧
  V.cell? ⟨gx, 0, none⟩ = some b0 ∧ V.cell? ⟨gx, 1, none⟩ = some b1 ∧ V.cell? ⟨gx, 2, none⟩ = some b2 ∧ V.cell? ⟨gx, 3, none⟩ = some b3 := ⟨h.a.at_ 0 rfl, h.a.at_ 1 rfl, h.a.at_ 2 rfl, h.a.at_ 3 rfl, h.x.at_ 0 rfl, h.x.at_ 1 rfl, h.x.at_ 2 rfl, h.x.at_ 3 rfl⟩
theorem TU.four (h : TU w V gx #[a0, a1, a2, a3] ds) : V.cell? ⟨w.heap.size, 0, none⟩ = some a0 ∧ V.cell? ⟨w.heap.size, 1, none⟩ = some a1 ∧ V.cell? ⟨w.heap.size, 2, none⟩ = some a2 ∧ V.cell? ⟨w.heap.size, 3, none⟩ = some a3 := ⟨h.a.at_ 0 rfl, h.a.at_ 1 rfl, h.a.at_ 2 rfl, h.a.at_ 3 rfl⟩
end
theorem eight' {w : World} {g : Nat} {t : TypeId} {a0 a1 a2 a3 : Value} (C : Bk w g t #[a0, a1, a2, a3]) :
    w.cell? ⟨g, 0, none⟩ = some a0 ∧ w.cell? ⟨g, 1, none⟩ = some a1 ∧ w.cell? ⟨g, 2, none⟩ = some a2 ∧ w.cell? ⟨g, 3, none⟩ = some a3 ∧ w.frozen? ⟨g, 0, none⟩ = false ∧ w.frozen? ⟨g, 1, none⟩ = false ∧ w.frozen? ⟨g, 2, none⟩ = false ∧ w.frozen? ⟨g, 3, none⟩ = false := ⟨C.at_ 0 rfl, C.at_ 1 rfl, C.at_ 2 rfl, C.at_ 3 rfl, C.fr 0, C.fr 1, C.fr 2, C.fr 3⟩
end Go.Proofs.YtllpggdmkdgggaaGreatDoor.Dc

/- Layer 6's laws: where nothing is refused. -/
set_option linter.unusedSimpArgs false
set_option linter.unusedVariables false
namespace Go.Proofs.YtllpggdmkdgggaaGreatDoor.Dc
open Go.RowKit Go.Proofs.YtllpggdmkdgggaaGreatDoor.Dig Go.Proofs.YtllpggdmkdgggaaGreatDoor.W Go.Proofs.YtllpggdmkdgggaaGreatDoor.Nat Go.Proofs.YtllpggdmkdgggaaGreatDoor.Wh Go.Proofs.YtllpggdmkdgggaaGreatDoor.Td Go.Proofs.YtllpggdmkdgggaaGreatDoor.Bu Go.Proofs.YtllpggdmkdgggaaGreatDoor.Tx Go.Proofs.YtllpggdmkdgggaaGreatDoor.Sp Go.Proofs.YtllpggdmkdgggaaGreatDoor.Rd

theorem ask_ok {m : Bool} {mode : Int} (h : m = true) (h0 : 0 ≤ mode) (h1 : mode < 8) : askE m mode = 0 := by unfold askE; rw [h, if_neg (by decide), if_neg (by omega)]
theorem atV_ok {c : Int} {g : Bool} {l : List UInt8} {x place mode : Int} (hm : mayB c g l x = true) (h0 : 0 ≤ mode) (h1 : mode < 8) (hp : -4000 ≤ place ∧ place ≤ 4000) : atV c g l x place mode = fin mode c g l x place := by
  unfold atV; rw [ask_ok hm h0 h1, if_neg (by decide), if_neg (by omega)]
theorem dgV_ok {c : Int} {g : Bool} {l : List UInt8} {x n mode : Int} (hm : mayB c g l x = true) (h0 : 0 ≤ mode) (h1 : mode < 8) (hn : 1 ≤ n) (hn2 : n ≤ 1000) : dgV c g l x n mode = fin mode c g l x ((l.length : Int) + x - n) := by
  unfold dgV; rw [ask_ok hm h0 h1, if_neg (by decide), if_neg (by omega)]
theorem stV_ok {c : Int} {g : Bool} {l : List UInt8} {x place mode : Int} (hm : mayB c g l x = true) (h0 : 0 ≤ mode) (h1 : mode < 8) (hp : -1990 ≤ place ∧ place ≤ 1990) : stV c g l x 0 false [49] place mode = fin mode c g l x place := by
  have hF := formed_1
  have hms : mayB 0 false [49] place = true := by
    rw [may_form hF, decide_eq_true]
    refine ⟨by decide, ?_, ?_⟩
    · show -2000 ≤ (1 : Int) + place; omega
    · show (1 : Int) + place ≤ 2000; omega
  unfold stV fin
  rw [hms, if_neg (by decide), ask_ok hm h0 h1, if_neg (by decide), if_neg (by decide)]
  have e1 : nv 0 [49] = 1 := by decide
  rw [e1, Nat.mul_one]
  rfl
theorem fin_nil (mode c : Int) (g : Bool) (x place : Int) : fin mode c g [] x place = (dec c g [] x, 0) := by unfold fin; rw [if_pos rfl]
theorem fin_some {mode c : Int} {g : Bool} {l : List UInt8} {x place : Int} (h : l ≠ []) : fin mode c g l x place = (oc g (pw mode.toNat g l x place), oe (pw mode.toNat g l x place)) := by unfold fin; rw [if_neg h]
end Go.Proofs.YtllpggdmkdgggaaGreatDoor.Dc

/- Layer 5: how two stand: cmp.Compare, cmp.Or; dec.key, amounts. -/
set_option linter.unusedSimpArgs false
set_option linter.unusedVariables false
namespace Go.Proofs.YtllpggdmkdgggaaGreatDoor.Dc
open Go.RowKit Go.Proofs.YtllpggdmkdgggaaGreatDoor.Dig Go.Proofs.YtllpggdmkdgggaaGreatDoor.W Go.Proofs.YtllpggdmkdgggaaGreatDoor.Nat Go.Proofs.YtllpggdmkdgggaaGreatDoor.Wh Go.Proofs.YtllpggdmkdgggaaGreatDoor.Td Go.Proofs.YtllpggdmkdgggaaGreatDoor.Bu Go.Proofs.YtllpggdmkdgggaaGreatDoor.Tx Go.Proofs.YtllpggdmkdgggaaGreatDoor.Sp Go.Proofs.YtllpggdmkdgggaaGreatDoor.Rd

theorem isnan_str (s : ByteArray) (w : World) : Calls Tryz.prog 114 #[.string s] w fun e w' => e = .returned (.bool false) ∧ w = w' := by
  go_enter Tryz.func114, Tryz.ntmps114
  go_wp2
  go_ret
  exact ⟨rfl, rfl⟩
/-- how two texts stand -/
def cmpS (s t : List UInt8) : Int := if Go.Op.bytesLess s t then -1 else if s == t then 0 else 1
theorem comp_str (s t : List UInt8) (w : World) :
    Calls Tryz.prog 68 #[.string ⟨s.toArray⟩, .string ⟨t.toArray⟩] w fun e w' => e = .returned (.int .i64 (cmpS s t)) ∧ w' = w := by
  unfold cmpS
  cases h1 : Go.Op.bytesLess s t <;> cases h2 : s == t
  all_goals
    go_enter Tryz.func68, Tryz.ntmps68
    go_wp2_with (go_at_call 114; (with_reducible refine (isnan_str _ _).mono ?_); rintro e w1 ⟨rfl, rfl⟩)
    go_ret
    exact ⟨rfl, rfl⟩
theorem comp_int (x y : Int) (w : World) : Calls Tryz.prog 38 #[.int .i64 x, .int .i64 y] w fun e w' => e = .returned (.int .i64 (Lib.compareInt x y)) ∧ w' = w := Tryz.cmp_Compare_int x y w
/-- the first that is not nought -/
theorem or_calls (b : Nat) (c1 c2 r : Int) (hr : (c1 ≠ 0 ∧ r = c1) ∨ (c1 = 0 ∧ r = c2)) (w : World) (h1 : w.cell? ⟨b, 0, none⟩ = some (.int .i64 c1)) (h2 : w.cell? ⟨b, 1, none⟩ = some (.int .i64 c2)) :
    Calls Tryz.prog 67 #[.slice (some ⟨b, 0, none⟩) 2 2] w fun e w' => e = .returned (.int .i64 r) ∧ w' = w := by
  rcases hr with ⟨k, rfl⟩ | ⟨rfl, rfl⟩
  · have kb := eqB k
    go_enter Tryz.func67, Tryz.ntmps67
    go_wp2
    go_loop [5, 8] (fun v z => z = .int .i64 0) (fun _ z => 2 - (intOf z).toNat)
    case atStart => exact rfl
    case round =>
      subst hrel
      go_wp2
      go_ret
      exact ⟨rfl, rfl⟩
  · go_enter Tryz.func67, Tryz.ntmps67
    go_wp2
    go_loop [5, 8] (fun v z => z = .int .i64 0 ∨ z = .int .i64 1 ∨ (z = .int .i64 2 ∧ Hid (r = 0))) (fun _ z => 2 - (intOf z).toNat)
    case atStart => exact .inl rfl
    case round =>
      rcases hrel with rfl | rfl | ⟨rfl, hr⟩
      · go_wp2
        go_round
        case rel => exact .inr (.inl rfl)
        case measure => decide
      · by_cases k : r = 0
        · have K := Lib.hid k
          have kb : (r == 0) = true := beq_iff_eq.2 k
          go_wp2
          go_round
          case rel => exact .inr (.inr ⟨rfl, K⟩)
          case measure => decide
        · have kb := eqB k
          go_wp2
          go_ret
          exact ⟨rfl, rfl⟩
      · go_wp2
        go_ret
        exact ⟨by rw [hr.out]; rfl, rfl⟩
/-- of a class in the order -/
def keyV (c : Int) (g : Bool) : Int := if c = 2 then 2 else if c = 0 then 0 else if g then -1 else 1
theorem key_calls (c : Int) (g : Bool) (S : ByteArray) (x : Int) (w : World) :
    Calls Tryz.prog 39 #[.agg #[.int .i64 c, .bool g, .string S, .int .i64 x]] w fun e w' => e = .returned (.int .i64 (keyV c g)) ∧ Below w.heap.size w w' := by
  have HB := Lib.hid (alloc_below w (.cells #[.int .i64 c, .bool g, .string S, .int .i64 x] 23))
  unfold keyV
  by_cases h1 : c = 2
  · subst h1
    rw [if_pos rfl]
    go_enter Tryz.func39, Tryz.ntmps39
    go_wp2
    go_ret
    exact ⟨rfl, HB.out⟩
  · rw [if_neg h1]
    have e1 := eqB h1
    by_cases h2 : c = 0
    · subst h2
      rw [if_pos rfl]
      go_enter Tryz.func39, Tryz.ntmps39
      go_wp2
      go_ret
      exact ⟨rfl, HB.out⟩
    · rw [if_neg h2]
      have e2 := eqB h2
      cases g
      · go_enter Tryz.func39, Tryz.ntmps39
        go_wp2
        go_ret
        exact ⟨rfl, HB.out⟩
      · go_enter Tryz.func39, Tryz.ntmps39
        go_wp2
        go_ret
        exact ⟨rfl, HB.out⟩
/-- two boxes of a Dec each -/
structure T8 (w W : World) (cs ds : Array Value) : Prop where
  a : Bk W w.heap.size 23 cs
  b : Bk W (w.heap.size + 1) 23 ds
  bl : Below w.heap.size w W
section
variable {w W W' : World} {cs ds : Array Value} {a0 a1 a2 a3 b0 b1 b2 b3 : Value}
theorem T8.start (w : World) (cs ds : Array Value) : T8 w ((w.alloc (.cells cs 23)).alloc (.cells ds 23)) cs ds := by
  obtain ⟨h1, h2, h3⟩ := bk_two w cs ds 23 23
  exact ⟨h1, h2, h3⟩
theorem T8.below (h : T8 w W cs ds) (hb : Below W.heap.size W W') : T8 w W' cs ds := ⟨h.a.below hb, h.b.below hb, on h.bl hb⟩
theorem T8.drew (h : T8 w W cs ds) : T8 w W.drew cs ds := ⟨h.a.drew, h.b.drew, h.bl.drew⟩
theorem T8.alloc (h : T8 w W cs ds) (o : Obj) : T8 w (W.alloc o) cs ds := h.below (alloc_below _ _)
theorem T8.keep (h : T8 w W #[a0, a1, a2, a3] #[b0, b1, b2, b3]) : W.cell? ⟨w.heap.size, 0, none⟩ = some a0 ∧ W.cell? ⟨w.heap.size, 1, none⟩ = some a1 ∧ W.cell? ⟨w.heap.size, 2, none⟩ = some a2 ∧ W.cell? ⟨w.heap.size, 3, none⟩ = some a3 ∧
  W.cell? ⟨w.heap.size + 1, 0, none⟩ = some b0 ∧ W.cell? ⟨w.heap.size + 1, 1, none⟩ = some b1 ∧ W.cell? ⟨w.heap.size + 1, 2, none⟩ = some b2 ∧ W.cell? ⟨w.heap.size + 1, 3, none⟩ = some b3 := ⟨h.a.at_ 0 rfl, h.a.at_ 1 rfl, h.a.at_ 2 rfl, h.a.at_ 3 rfl, h.b.at_ 0 rfl, h.b.at_ 1 rfl, h.b.at_ 2 rfl, h.b.at_ 3 rfl⟩
end
set_option maxHeartbeats 16000000 in
set_option maxRecDepth 100000 in
theorem amounts_some (c c' : Int) (g g' : Bool) (l m : List UInt8) (x y px py r : Int) (hr : (Lib.compareInt px py ≠ 0 ∧ r = Lib.compareInt px py) ∨ (Lib.compareInt px py = 0 ∧ r = cmpS l m)) (w : World) (hl : 0 < l.length) (hm : 0 < m.length)
    (H1 : ∀ w1, Calls Tryz.prog 20 #[.agg (dec c g l x)] w1 fun e w' => e = .returned (.int .i64 px) ∧ Below w1.heap.size w1 w')
    (H2 : ∀ w1, Calls Tryz.prog 20 #[.agg (dec c' g' m y)] w1 fun e w' => e = .returned (.int .i64 py) ∧ Below w1.heap.size w1 w') :
    Calls Tryz.prog 40 #[.agg (dec c g l x), .agg (dec c' g' m y)] w fun e w' => e = .returned (.int .i64 r) ∧ Below w.heap.size w w' := by
  have T := T8.start w #[.int .i64 c, .bool g, .string ⟨l.toArray⟩, .int .i64 x] #[.int .i64 c', .bool g', .string ⟨m.toArray⟩, .int .i64 y]
  have HS := Lib.hid (fun w1 => comp_str l m w1)
  rw [← size_of l] at hl
  rw [← size_of m] at hm
  obtain ⟨e1, e2⟩ := emp hl
  obtain ⟨i1, i2⟩ := emp hm
  have HI := Lib.hid (fun w1 => comp_int px py w1)
  unfold dec str at *
  have G1 := Lib.hid H1
  have G2 := Lib.hid H2
  generalize cmpS l m = c2 at *
  generalize Lib.compareInt px py = c1 at *
  generalize (⟨l.toArray⟩ : ByteArray) = S at *
  generalize (⟨m.toArray⟩ : ByteArray) = S' at *
  obtain ⟨V, hV⟩ : ∃ V, V = ((w.alloc (.cells #[.int .i64 c, .bool g, .string S, .int .i64 x] 23)).alloc (.cells #[.int .i64 c', .bool g', .string S', .int .i64 y] 23)) := ⟨_, rfl⟩
  rw [← hV] at T
  have HV := Lib.hid hV
  have z0 := T.drew
  have HR := Lib.hid hr
  clear H1 H2 hV hl hm T hr
  go_enter Tryz.func40, Tryz.ntmps40
  go_wp2
  rw [← HV.out]
  go_region_held3 (fun w' => w'.cell? ⟨w.heap.size, 0, none⟩ = some (.int .i64 c) ∧ w'.cell? ⟨w.heap.size, 1, none⟩ = some (.bool g) ∧ w'.cell? ⟨w.heap.size, 2, none⟩ = some (.string S) ∧ w'.cell? ⟨w.heap.size, 3, none⟩ = some (.int .i64 x) ∧ w'.cell? ⟨w.heap.size + 1, 0, none⟩ = some (.int .i64 c') ∧ w'.cell? ⟨w.heap.size + 1, 1, none⟩ = some (.bool g') ∧ w'.cell? ⟨w.heap.size + 1, 2, none⟩ = some (.string S') ∧ w'.cell? ⟨w.heap.size + 1, 3, none⟩ = some (.int .i64 y))
    (first
      | (with_reducible exact z0.keep)
      | (with_reducible exact z12.keep)
      | (with_reducible exact z1.keep)
      | (with_reducible exact z2.keep)
      | (with_reducible exact zb.keep))
    (first
      | (go_at_call 20; first
        | ((with_reducible refine (G1.out V.drew).mono ?_); rintro e w1 ⟨rfl, b1⟩; have z1 := z0.below b1)
        | ((with_reducible refine (G2.out V.drew).mono ?_); rintro e w2 ⟨rfl, b2⟩; have z2 := z0.below b2)
        | ((with_reducible refine (G1.out w2).mono ?_); rintro e w1 ⟨rfl, b1⟩; have z12 := z2.below b1; have zb := z12.alloc (.cells #[.int .i64 c1, .int .i64 c2] 3); have sb := Bk.start w1 3 #[.int .i64 c1, .int .i64 c2]; have s0 := sb.at_ 0 rfl; have s1 := sb.at_ 1 rfl)
        | ((with_reducible refine (G2.out w1).mono ?_); rintro e w2 ⟨rfl, b2⟩; have z12 := z1.below b2; have zb := z12.alloc (.cells #[.int .i64 c1, .int .i64 c2] 3); have sb := Bk.start w2 3 #[.int .i64 c1, .int .i64 c2]; have s0 := sb.at_ 0 rfl; have s1 := sb.at_ 1 rfl))
      | (go_at_call 38; (with_reducible refine (HI.out _).mono ?_); rintro e w3 ⟨rfl, rfl⟩)
      | (go_at_call 68; (with_reducible refine (HS.out _).mono ?_); rintro e w3 ⟨rfl, rfl⟩)
      | (go_at_call 67; (with_reducible refine (or_calls _ c1 c2 r HR.out _ s0 s1).mono ?_); rintro e w3 ⟨rfl, rfl⟩))
  all_goals
    go_wp2
    go_ret
    exact ⟨rfl, zb.bl⟩
end Go.Proofs.YtllpggdmkdgggaaGreatDoor.Dc

/- Layer 5: dec.Cmp. -/
set_option linter.unusedSimpArgs false
set_option linter.unusedVariables false
namespace Go.Proofs.YtllpggdmkdgggaaGreatDoor.Dc
open Go.RowKit Go.Proofs.YtllpggdmkdgggaaGreatDoor.Dig Go.Proofs.YtllpggdmkdgggaaGreatDoor.W Go.Proofs.YtllpggdmkdgggaaGreatDoor.Nat Go.Proofs.YtllpggdmkdgggaaGreatDoor.Wh Go.Proofs.YtllpggdmkdgggaaGreatDoor.Td Go.Proofs.YtllpggdmkdgggaaGreatDoor.Bu Go.Proofs.YtllpggdmkdgggaaGreatDoor.Tx Go.Proofs.YtllpggdmkdgggaaGreatDoor.Sp Go.Proofs.YtllpggdmkdgggaaGreatDoor.Rd

set_option maxHeartbeats 8000000 in
set_option maxRecDepth 100000 in
theorem amounts_none (c c' : Int) (g g' : Bool) (S S' : ByteArray) (x y : Int) (w : World) (hS : S.size ≤ 1000) (hS' : S'.size ≤ 1000) (h : S.size = 0 ∨ S'.size = 0) :
    Calls Tryz.prog 40 #[.agg #[.int .i64 c, .bool g, .string S, .int .i64 x], .agg #[.int .i64 c', .bool g', .string S', .int .i64 y]] w fun e w' => e = .returned (.int .i64 (Lib.compareInt S.size S'.size)) ∧ Below w.heap.size w w' := by
  have T := T8.start w #[.int .i64 c, .bool g, .string S, .int .i64 x] #[.int .i64 c', .bool g', .string S', .int .i64 y]
  have HI := Lib.hid (fun w1 => comp_int S.size S'.size w1)
  have HB := Lib.hid T.bl
  clear T
  obtain ⟨r, hr⟩ : ∃ r, Lib.compareInt S.size S'.size = r := ⟨_, rfl⟩
  rw [hr] at HI ⊢
  clear hr
  by_cases h1 : S.size = 0
  · have e1 := empty_of h1
    have e2 : (S.toList == []) = true := by
      have := nil_of h1
      rw [Lib.toList_data, this]; rfl
    clear h
    clear h1
    go_enter Tryz.func40, Tryz.ntmps40
    go_wp2_with (go_at_call 38; (with_reducible refine (HI.out _).mono ?_); rintro e w3 ⟨rfl, rfl⟩)
    go_ret
    exact ⟨rfl, HB.out⟩
  · have h2 : S'.size = 0 := h.resolve_left h1
    have e1 := emp (Nat.pos_of_ne_zero h1)
    obtain ⟨e1, e2⟩ := e1
    have i1 := empty_of h2
    have i2 : (S'.toList == []) = true := by
      have := nil_of h2
      rw [Lib.toList_data, this]; rfl
    clear h h1
    clear h2
    go_enter Tryz.func40, Tryz.ntmps40
    go_wp2_with (go_at_call 38; (with_reducible refine (HI.out _).mono ?_); rintro e w3 ⟨rfl, rfl⟩)
    go_ret
    exact ⟨rfl, HB.out⟩
/-- an amount, counted in 10^e -/
def amt (l : List UInt8) (x e : Int) : Nat := nv 0 l * 10 ^ (x - e).toNat
/-- digits that may be: none, or formed ones in their bounds -/
def Ok (l : List UInt8) (x e : Int) : Prop := l = [] ∨ (Formed l ∧ fits l x ∧ e ≤ x)
theorem Ok.len {l : List UInt8} {x e : Int} (h : Ok l x e) : l.length ≤ 1000 := by
  rcases h with rfl | ⟨_, hf, _⟩
  · decide
  · exact hf.1
theorem amt_nil (x e : Int) : amt [] x e = 0 := by unfold amt; rw [nv_nil, Nat.zero_mul]
theorem amt_pos {l : List UInt8} {x e : Int} (h : Formed l) : 0 < amt l x e := Nat.mul_pos h.pos (Nat.pow_pos (by omega))
theorem amounts_calls (g g' : Bool) (l m : List UInt8) (x y e : Int) (w : World) (hl : Ok l x e) (hm : Ok m y e) :
    Calls Tryz.prog 40 #[.agg (dec 0 g l x), .agg (dec 0 g' m y)] w fun z w' => z = .returned (.int .i64 (stand (amt l x e) (amt m y e))) ∧ Below w.heap.size w w' := by
  by_cases h : l = [] ∨ m = []
  · have e1 := amounts_none 0 0 g g' ⟨l.toArray⟩ ⟨m.toArray⟩ x y w (by rw [size_of]; exact hl.len) (by rw [size_of]; exact hm.len) (by
      rcases h with h | h
      · left; rw [size_of, h]; rfl
      · right; rw [size_of, h]; rfl)
    rw [size_of, size_of] at e1
    have e2 : Lib.compareInt l.length m.length = stand (amt l x e) (amt m y e) := by
      unfold Lib.compareInt stand
      rcases hl with rfl | ⟨hF, hf, hx⟩
      · rw [amt_nil]
        rcases hm with rfl | ⟨hF', hf', hy⟩
        · rw [amt_nil]; rfl
        · have k1 := hF'.len
          have k2 := amt_pos (x := y) (e := e) hF'
          rw [if_pos (show ((([] : List UInt8).length : Nat) : Int) < (m.length : Int) by simp; omega), if_pos k2]
      · rcases h with h | rfl
        · exact absurd h hF.ne
        · rw [amt_nil]
          have k1 := hF.len
          have k2 := amt_pos (x := x) (e := e) hF
          rw [if_neg (show ¬ (l.length : Int) < ((([] : List UInt8).length : Nat) : Int) by simp), if_pos (show (l.length : Int) > ((([] : List UInt8).length : Nat) : Int) by simp; omega), if_neg (by omega), if_neg (by omega)]
    rw [e2] at e1
    exact e1
  · have hl' := hl.resolve_left (fun k => h (.inl k))
    have hm' := hm.resolve_left (fun k => h (.inr k))
    obtain ⟨hF, hf, hx⟩ := hl'
    obtain ⟨hF', hf', hy⟩ := hm'
    have e1 := byPlace_stand hF hF' hx hy
    unfold amt
    rw [← e1]
    refine amounts_some 0 0 g g' l m x y ((l.length : Int) + x) ((m.length : Int) + y) _ ?_ w hF.len hF'.len (fun w1 => place_calls g l x w1 hF hf) (fun w1 => place_calls g' m y w1 hF' hf')
    unfold byPlace cmpS Lib.compareInt
    by_cases k1 : (l.length : Int) + x < (m.length : Int) + y
    · simp only [if_pos k1]; exact .inl (by simp)
    · simp only [if_neg k1]
      by_cases k2 : (m.length : Int) + y < (l.length : Int) + x
      · simp only [gt_iff_lt, if_pos k2]; exact .inl (by simp)
      · simp only [gt_iff_lt, if_neg k2]
        exact .inr (by simp)
set_option maxHeartbeats 8000000 in
set_option maxRecDepth 100000 in
theorem cmp_key (c c' : Int) (g g' : Bool) (S S' : ByteArray) (x y k1 k2 cc : Int) (w : World) (hc : cc ≠ 0 ∨ c ≠ 0)
    (M1 : ∀ w1, Calls Tryz.prog 35 #[.agg #[.int .i64 c, .bool g, .string S, .int .i64 x]] w1 fun e w' => e = .returned (.bool true) ∧ Below w1.heap.size w1 w')
    (M2 : ∀ w1, Calls Tryz.prog 35 #[.agg #[.int .i64 c', .bool g', .string S', .int .i64 y]] w1 fun e w' => e = .returned (.bool true) ∧ Below w1.heap.size w1 w')
    (K1 : ∀ w1, Calls Tryz.prog 39 #[.agg #[.int .i64 c, .bool g, .string S, .int .i64 x]] w1 fun e w' => e = .returned (.int .i64 k1) ∧ Below w1.heap.size w1 w')
    (K2 : ∀ w1, Calls Tryz.prog 39 #[.agg #[.int .i64 c', .bool g', .string S', .int .i64 y]] w1 fun e w' => e = .returned (.int .i64 k2) ∧ Below w1.heap.size w1 w')
    (KC : ∀ w1, Calls Tryz.prog 38 #[.int .i64 k1, .int .i64 k2] w1 fun e w' => e = .returned (.int .i64 cc) ∧ w' = w1) :
    Calls Tryz.prog 22 #[.agg #[.int .i64 c, .bool g, .string S, .int .i64 x], .agg #[.int .i64 c', .bool g', .string S', .int .i64 y]] w fun e w' => e = .returned (.tuple #[.int .i64 cc, .int .i64 0]) ∧ Below w.heap.size w w' := by
  have T := T8.start w #[.int .i64 c, .bool g, .string S, .int .i64 x] #[.int .i64 c', .bool g', .string S', .int .i64 y]
  have G1 := Lib.hid M1
  have G2 := Lib.hid M2
  have L1 := Lib.hid K1
  have L2 := Lib.hid K2
  have LC := Lib.hid KC
  have HT := Lib.hid T
  clear M1 M2 K1 K2 KC T
  rcases hc with hc | hc
  · have kc := eqB hc
    go_enter Tryz.func22, Tryz.ntmps22
    go_wp2_with (go_at_call 35; first
      | ((with_reducible refine (G1.out ((w.alloc (.cells #[.int .i64 c, .bool g, .string S, .int .i64 x] 23)).alloc (.cells #[.int .i64 c', .bool g', .string S', .int .i64 y] 23))).mono ?_); rintro e w1 ⟨rfl, b1⟩; have t1 := HT.out.below b1; have q1 := t1.keep)
      | ((with_reducible refine (G2.out w1).mono ?_); rintro e w2 ⟨rfl, b2⟩; have t2 := t1.below b2))
    have z0 := t2.drew
    clear q1
    go_region_held3 (fun w' => w'.cell? ⟨w.heap.size, 0, none⟩ = some (.int .i64 c) ∧ w'.cell? ⟨w.heap.size, 1, none⟩ = some (.bool g) ∧ w'.cell? ⟨w.heap.size, 2, none⟩ = some (.string S) ∧ w'.cell? ⟨w.heap.size, 3, none⟩ = some (.int .i64 x) ∧ w'.cell? ⟨w.heap.size + 1, 0, none⟩ = some (.int .i64 c') ∧ w'.cell? ⟨w.heap.size + 1, 1, none⟩ = some (.bool g') ∧ w'.cell? ⟨w.heap.size + 1, 2, none⟩ = some (.string S') ∧ w'.cell? ⟨w.heap.size + 1, 3, none⟩ = some (.int .i64 y))
      (first
        | (with_reducible exact z0.keep)
        | (with_reducible exact z12.keep)
        | (with_reducible exact z1.keep)
        | (with_reducible exact z2.keep))
      (first
        | (go_at_call 39; first
          | ((with_reducible refine (L1.out w2.drew).mono ?_); rintro e w3 ⟨rfl, b3⟩; have z1 := z0.below b3)
          | ((with_reducible refine (L2.out w2.drew).mono ?_); rintro e w4 ⟨rfl, b4⟩; have z2 := z0.below b4)
          | ((with_reducible refine (L1.out w4).mono ?_); rintro e w3 ⟨rfl, b3⟩; have z12 := z2.below b3)
          | ((with_reducible refine (L2.out w3).mono ?_); rintro e w4 ⟨rfl, b4⟩; have z12 := z1.below b4))
        | (go_at_call 38; (with_reducible refine (LC.out _).mono ?_); rintro e w5 ⟨rfl, rfl⟩))
    all_goals
      have k12 := z12.keep
      go_wp2
      go_ret2
      exact ⟨rfl, z12.bl⟩
  · by_cases hz : cc = 0
    · have kc := eqB hc
      subst hz
      go_enter Tryz.func22, Tryz.ntmps22
      go_wp2_with (go_at_call 35; first
        | ((with_reducible refine (G1.out ((w.alloc (.cells #[.int .i64 c, .bool g, .string S, .int .i64 x] 23)).alloc (.cells #[.int .i64 c', .bool g', .string S', .int .i64 y] 23))).mono ?_); rintro e w1 ⟨rfl, b1⟩; have t1 := HT.out.below b1; have q1 := t1.keep)
        | ((with_reducible refine (G2.out w1).mono ?_); rintro e w2 ⟨rfl, b2⟩; have t2 := t1.below b2))
      have z0 := t2.drew
      clear q1
      go_region_held3 (fun w' => w'.cell? ⟨w.heap.size, 0, none⟩ = some (.int .i64 c) ∧ w'.cell? ⟨w.heap.size, 1, none⟩ = some (.bool g) ∧ w'.cell? ⟨w.heap.size, 2, none⟩ = some (.string S) ∧ w'.cell? ⟨w.heap.size, 3, none⟩ = some (.int .i64 x) ∧ w'.cell? ⟨w.heap.size + 1, 0, none⟩ = some (.int .i64 c') ∧ w'.cell? ⟨w.heap.size + 1, 1, none⟩ = some (.bool g') ∧ w'.cell? ⟨w.heap.size + 1, 2, none⟩ = some (.string S') ∧ w'.cell? ⟨w.heap.size + 1, 3, none⟩ = some (.int .i64 y))
        (first
          | (with_reducible exact z0.keep)
          | (with_reducible exact z12.keep)
          | (with_reducible exact z1.keep)
          | (with_reducible exact z2.keep))
        (first
          | (go_at_call 39; first
            | ((with_reducible refine (L1.out w2.drew).mono ?_); rintro e w3 ⟨rfl, b3⟩; have z1 := z0.below b3)
            | ((with_reducible refine (L2.out w2.drew).mono ?_); rintro e w4 ⟨rfl, b4⟩; have z2 := z0.below b4)
            | ((with_reducible refine (L1.out w4).mono ?_); rintro e w3 ⟨rfl, b3⟩; have z12 := z2.below b3)
            | ((with_reducible refine (L2.out w3).mono ?_); rintro e w4 ⟨rfl, b4⟩; have z12 := z1.below b4))
          | (go_at_call 38; (with_reducible refine (LC.out _).mono ?_); rintro e w5 ⟨rfl, rfl⟩))
      all_goals
        have k12 := z12.keep
        go_wp2
        go_ret2
        exact ⟨rfl, z12.bl⟩
    · have kc := eqB hz
      go_enter Tryz.func22, Tryz.ntmps22
      go_wp2_with (go_at_call 35; first
        | ((with_reducible refine (G1.out ((w.alloc (.cells #[.int .i64 c, .bool g, .string S, .int .i64 x] 23)).alloc (.cells #[.int .i64 c', .bool g', .string S', .int .i64 y] 23))).mono ?_); rintro e w1 ⟨rfl, b1⟩; have t1 := HT.out.below b1; have q1 := t1.keep)
        | ((with_reducible refine (G2.out w1).mono ?_); rintro e w2 ⟨rfl, b2⟩; have t2 := t1.below b2))
      have z0 := t2.drew
      clear q1
      go_region_held3 (fun w' => w'.cell? ⟨w.heap.size, 0, none⟩ = some (.int .i64 c) ∧ w'.cell? ⟨w.heap.size, 1, none⟩ = some (.bool g) ∧ w'.cell? ⟨w.heap.size, 2, none⟩ = some (.string S) ∧ w'.cell? ⟨w.heap.size, 3, none⟩ = some (.int .i64 x) ∧ w'.cell? ⟨w.heap.size + 1, 0, none⟩ = some (.int .i64 c') ∧ w'.cell? ⟨w.heap.size + 1, 1, none⟩ = some (.bool g') ∧ w'.cell? ⟨w.heap.size + 1, 2, none⟩ = some (.string S') ∧ w'.cell? ⟨w.heap.size + 1, 3, none⟩ = some (.int .i64 y))
        (first
          | (with_reducible exact z0.keep)
          | (with_reducible exact z12.keep)
          | (with_reducible exact z1.keep)
          | (with_reducible exact z2.keep))
        (first
          | (go_at_call 39; first
            | ((with_reducible refine (L1.out w2.drew).mono ?_); rintro e w3 ⟨rfl, b3⟩; have z1 := z0.below b3)
            | ((with_reducible refine (L2.out w2.drew).mono ?_); rintro e w4 ⟨rfl, b4⟩; have z2 := z0.below b4)
            | ((with_reducible refine (L1.out w4).mono ?_); rintro e w3 ⟨rfl, b3⟩; have z12 := z2.below b3)
            | ((with_reducible refine (L2.out w3).mono ?_); rintro e w4 ⟨rfl, b4⟩; have z12 := z1.below b4))
          | (go_at_call 38; (with_reducible refine (LC.out _).mono ?_); rintro e w5 ⟨rfl, rfl⟩))
      all_goals
        have k12 := z12.keep
        go_wp2
        go_ret2
        exact ⟨rfl, z12.bl⟩
set_option maxHeartbeats 8000000 in
set_option maxRecDepth 100000 in
theorem cmp_zero (g g' : Bool) (S S' : ByteArray) (x y k1 k2 : Int) (w : World) (e1 : S.toList.isEmpty = true) (e2 : (S.toList == []) = true) (i1 : S'.toList.isEmpty = true) (i2 : (S'.toList == []) = true)
    (M1 : ∀ w1, Calls Tryz.prog 35 #[.agg #[.int .i64 0, .bool g, .string S, .int .i64 x]] w1 fun e w' => e = .returned (.bool true) ∧ Below w1.heap.size w1 w')
    (M2 : ∀ w1, Calls Tryz.prog 35 #[.agg #[.int .i64 0, .bool g', .string S', .int .i64 y]] w1 fun e w' => e = .returned (.bool true) ∧ Below w1.heap.size w1 w')
    (K1 : ∀ w1, Calls Tryz.prog 39 #[.agg #[.int .i64 0, .bool g, .string S, .int .i64 x]] w1 fun e w' => e = .returned (.int .i64 k1) ∧ Below w1.heap.size w1 w')
    (K2 : ∀ w1, Calls Tryz.prog 39 #[.agg #[.int .i64 0, .bool g', .string S', .int .i64 y]] w1 fun e w' => e = .returned (.int .i64 k2) ∧ Below w1.heap.size w1 w')
    (KC : ∀ w1, Calls Tryz.prog 38 #[.int .i64 k1, .int .i64 k2] w1 fun e w' => e = .returned (.int .i64 0) ∧ w' = w1) :
    Calls Tryz.prog 22 #[.agg #[.int .i64 0, .bool g, .string S, .int .i64 x], .agg #[.int .i64 0, .bool g', .string S', .int .i64 y]] w fun e w' => e = .returned (.tuple #[.int .i64 0, .int .i64 0]) ∧ Below w.heap.size w w' := by
  have T := T8.start w #[.int .i64 0, .bool g, .string S, .int .i64 x] #[.int .i64 0, .bool g', .string S', .int .i64 y]
  have G1 := Lib.hid M1
  have G2 := Lib.hid M2
  have L1 := Lib.hid K1
  have L2 := Lib.hid K2
  have LC := Lib.hid KC
  have HT := Lib.hid T
  clear M1 M2 K1 K2 KC T
  go_enter Tryz.func22, Tryz.ntmps22
  go_wp2_with (go_at_call 35; first
    | ((with_reducible refine (G1.out ((w.alloc (.cells #[.int .i64 0, .bool g, .string S, .int .i64 x] 23)).alloc (.cells #[.int .i64 0, .bool g', .string S', .int .i64 y] 23))).mono ?_); rintro e w1 ⟨rfl, b1⟩; have t1 := HT.out.below b1; have q1 := t1.keep)
    | ((with_reducible refine (G2.out w1).mono ?_); rintro e w2 ⟨rfl, b2⟩; have t2 := t1.below b2))
  have z0 := t2.drew
  clear q1
  go_region_held3 (fun w' => w'.cell? ⟨w.heap.size, 0, none⟩ = some (.int .i64 0) ∧ w'.cell? ⟨w.heap.size, 1, none⟩ = some (.bool g) ∧ w'.cell? ⟨w.heap.size, 2, none⟩ = some (.string S) ∧ w'.cell? ⟨w.heap.size, 3, none⟩ = some (.int .i64 x) ∧ w'.cell? ⟨w.heap.size + 1, 0, none⟩ = some (.int .i64 0) ∧ w'.cell? ⟨w.heap.size + 1, 1, none⟩ = some (.bool g') ∧ w'.cell? ⟨w.heap.size + 1, 2, none⟩ = some (.string S') ∧ w'.cell? ⟨w.heap.size + 1, 3, none⟩ = some (.int .i64 y))
    (first
      | (with_reducible exact z0.keep)
      | (with_reducible exact z12.keep)
      | (with_reducible exact z1.keep)
      | (with_reducible exact z2.keep))
    (first
      | (go_at_call 39; first
        | ((with_reducible refine (L1.out w2.drew).mono ?_); rintro e w3 ⟨rfl, b3⟩; have z1 := z0.below b3)
        | ((with_reducible refine (L2.out w2.drew).mono ?_); rintro e w4 ⟨rfl, b4⟩; have z2 := z0.below b4)
        | ((with_reducible refine (L1.out w4).mono ?_); rintro e w3 ⟨rfl, b3⟩; have z12 := z2.below b3)
        | ((with_reducible refine (L2.out w3).mono ?_); rintro e w4 ⟨rfl, b4⟩; have z12 := z1.below b4))
      | (go_at_call 38; (with_reducible refine (LC.out _).mono ?_); rintro e w5 ⟨rfl, rfl⟩))
  all_goals
    have k12 := z12.keep
    go_wp2
    go_ret2
    exact ⟨rfl, z12.bl⟩
set_option maxHeartbeats 8000000 in
set_option maxRecDepth 100000 in
theorem cmp_nn  (S S' : ByteArray) (x y k1 k2 : Int) (w : World) (s1 s2 : Bool) (hs : (s1 && s2) = false) (e1 : S.toList.isEmpty = s1) (e2 : (S.toList == []) = s1) (i1 : S'.toList.isEmpty = s2) (i2 : (S'.toList == []) = s2) (r : Int) (HA : ∀ w1, Calls Tryz.prog 40 #[.agg #[.int .i64 0, .bool true, .string S', .int .i64 y], .agg #[.int .i64 0, .bool true, .string S, .int .i64 x]] w1 fun e w' => e = .returned (.int .i64 r) ∧ Below w1.heap.size w1 w')
    (M1 : ∀ w1, Calls Tryz.prog 35 #[.agg #[.int .i64 0, .bool true, .string S, .int .i64 x]] w1 fun e w' => e = .returned (.bool true) ∧ Below w1.heap.size w1 w')
    (M2 : ∀ w1, Calls Tryz.prog 35 #[.agg #[.int .i64 0, .bool true, .string S', .int .i64 y]] w1 fun e w' => e = .returned (.bool true) ∧ Below w1.heap.size w1 w')
    (K1 : ∀ w1, Calls Tryz.prog 39 #[.agg #[.int .i64 0, .bool true, .string S, .int .i64 x]] w1 fun e w' => e = .returned (.int .i64 k1) ∧ Below w1.heap.size w1 w')
    (K2 : ∀ w1, Calls Tryz.prog 39 #[.agg #[.int .i64 0, .bool true, .string S', .int .i64 y]] w1 fun e w' => e = .returned (.int .i64 k2) ∧ Below w1.heap.size w1 w')
    (KC : ∀ w1, Calls Tryz.prog 38 #[.int .i64 k1, .int .i64 k2] w1 fun e w' => e = .returned (.int .i64 0) ∧ w' = w1) :
    Calls Tryz.prog 22 #[.agg #[.int .i64 0, .bool true, .string S, .int .i64 x], .agg #[.int .i64 0, .bool true, .string S', .int .i64 y]] w fun e w' => e = .returned (.tuple #[.int .i64 r, .int .i64 0]) ∧ Below w.heap.size w w' := by
  have T := T8.start w #[.int .i64 0, .bool true, .string S, .int .i64 x] #[.int .i64 0, .bool true, .string S', .int .i64 y]
  have G1 := Lib.hid M1
  have G2 := Lib.hid M2
  have L1 := Lib.hid K1
  have L2 := Lib.hid K2
  have LC := Lib.hid KC
  have HT := Lib.hid T
  clear M1 M2 K1 K2 KC T
  have LA := Lib.hid HA
  clear HA
  cases s1 <;> cases s2
  · skip
    go_enter Tryz.func22, Tryz.ntmps22
    go_wp2_with (go_at_call 35; first
      | ((with_reducible refine (G1.out ((w.alloc (.cells #[.int .i64 0, .bool true, .string S, .int .i64 x] 23)).alloc (.cells #[.int .i64 0, .bool true, .string S', .int .i64 y] 23))).mono ?_); rintro e w1 ⟨rfl, b1⟩; have t1 := HT.out.below b1; have q1 := t1.keep)
      | ((with_reducible refine (G2.out w1).mono ?_); rintro e w2 ⟨rfl, b2⟩; have t2 := t1.below b2))
    have z0 := t2.drew
    clear q1
    go_region_held3 (fun w' => w'.cell? ⟨w.heap.size, 0, none⟩ = some (.int .i64 0) ∧ w'.cell? ⟨w.heap.size, 1, none⟩ = some (.bool true) ∧ w'.cell? ⟨w.heap.size, 2, none⟩ = some (.string S) ∧ w'.cell? ⟨w.heap.size, 3, none⟩ = some (.int .i64 x) ∧ w'.cell? ⟨w.heap.size + 1, 0, none⟩ = some (.int .i64 0) ∧ w'.cell? ⟨w.heap.size + 1, 1, none⟩ = some (.bool true) ∧ w'.cell? ⟨w.heap.size + 1, 2, none⟩ = some (.string S') ∧ w'.cell? ⟨w.heap.size + 1, 3, none⟩ = some (.int .i64 y))
      (first
        | (with_reducible exact z0.keep)
        | (with_reducible exact z12.keep)
        | (with_reducible exact z1.keep)
        | (with_reducible exact z2.keep))
      (first
        | (go_at_call 39; first
          | ((with_reducible refine (L1.out w2.drew).mono ?_); rintro e w3 ⟨rfl, b3⟩; have z1 := z0.below b3)
          | ((with_reducible refine (L2.out w2.drew).mono ?_); rintro e w4 ⟨rfl, b4⟩; have z2 := z0.below b4)
          | ((with_reducible refine (L1.out w4).mono ?_); rintro e w3 ⟨rfl, b3⟩; have z12 := z2.below b3)
          | ((with_reducible refine (L2.out w3).mono ?_); rintro e w4 ⟨rfl, b4⟩; have z12 := z1.below b4))
        | (go_at_call 38; (with_reducible refine (LC.out _).mono ?_); rintro e w5 ⟨rfl, rfl⟩))
    all_goals
      have k12 := z12.keep
      go_wp2_with (go_at_call 40; (with_reducible refine (LA.out _).mono ?_); rintro e w6 ⟨rfl, b6⟩)
      go_ret2
      exact ⟨rfl, on z12.bl b6⟩
  · skip
    go_enter Tryz.func22, Tryz.ntmps22
    go_wp2_with (go_at_call 35; first
      | ((with_reducible refine (G1.out ((w.alloc (.cells #[.int .i64 0, .bool true, .string S, .int .i64 x] 23)).alloc (.cells #[.int .i64 0, .bool true, .string S', .int .i64 y] 23))).mono ?_); rintro e w1 ⟨rfl, b1⟩; have t1 := HT.out.below b1; have q1 := t1.keep)
      | ((with_reducible refine (G2.out w1).mono ?_); rintro e w2 ⟨rfl, b2⟩; have t2 := t1.below b2))
    have z0 := t2.drew
    clear q1
    go_region_held3 (fun w' => w'.cell? ⟨w.heap.size, 0, none⟩ = some (.int .i64 0) ∧ w'.cell? ⟨w.heap.size, 1, none⟩ = some (.bool true) ∧ w'.cell? ⟨w.heap.size, 2, none⟩ = some (.string S) ∧ w'.cell? ⟨w.heap.size, 3, none⟩ = some (.int .i64 x) ∧ w'.cell? ⟨w.heap.size + 1, 0, none⟩ = some (.int .i64 0) ∧ w'.cell? ⟨w.heap.size + 1, 1, none⟩ = some (.bool true) ∧ w'.cell? ⟨w.heap.size + 1, 2, none⟩ = some (.string S') ∧ w'.cell? ⟨w.heap.size + 1, 3, none⟩ = some (.int .i64 y))
      (first
        | (with_reducible exact z0.keep)
        | (with_reducible exact z12.keep)
        | (with_reducible exact z1.keep)
        | (with_reducible exact z2.keep))
      (first
        | (go_at_call 39; first
          | ((with_reducible refine (L1.out w2.drew).mono ?_); rintro e w3 ⟨rfl, b3⟩; have z1 := z0.below b3)
          | ((with_reducible refine (L2.out w2.drew).mono ?_); rintro e w4 ⟨rfl, b4⟩; have z2 := z0.below b4)
          | ((with_reducible refine (L1.out w4).mono ?_); rintro e w3 ⟨rfl, b3⟩; have z12 := z2.below b3)
          | ((with_reducible refine (L2.out w3).mono ?_); rintro e w4 ⟨rfl, b4⟩; have z12 := z1.below b4))
        | (go_at_call 38; (with_reducible refine (LC.out _).mono ?_); rintro e w5 ⟨rfl, rfl⟩))
    all_goals
      have k12 := z12.keep
      go_wp2_with (go_at_call 40; (with_reducible refine (LA.out _).mono ?_); rintro e w6 ⟨rfl, b6⟩)
      go_ret2
      exact ⟨rfl, on z12.bl b6⟩
  · skip
    go_enter Tryz.func22, Tryz.ntmps22
    go_wp2_with (go_at_call 35; first
      | ((with_reducible refine (G1.out ((w.alloc (.cells #[.int .i64 0, .bool true, .string S, .int .i64 x] 23)).alloc (.cells #[.int .i64 0, .bool true, .string S', .int .i64 y] 23))).mono ?_); rintro e w1 ⟨rfl, b1⟩; have t1 := HT.out.below b1; have q1 := t1.keep)
      | ((with_reducible refine (G2.out w1).mono ?_); rintro e w2 ⟨rfl, b2⟩; have t2 := t1.below b2))
    have z0 := t2.drew
    clear q1
    go_region_held3 (fun w' => w'.cell? ⟨w.heap.size, 0, none⟩ = some (.int .i64 0) ∧ w'.cell? ⟨w.heap.size, 1, none⟩ = some (.bool true) ∧ w'.cell? ⟨w.heap.size, 2, none⟩ = some (.string S) ∧ w'.cell? ⟨w.heap.size, 3, none⟩ = some (.int .i64 x) ∧ w'.cell? ⟨w.heap.size + 1, 0, none⟩ = some (.int .i64 0) ∧ w'.cell? ⟨w.heap.size + 1, 1, none⟩ = some (.bool true) ∧ w'.cell? ⟨w.heap.size + 1, 2, none⟩ = some (.string S') ∧ w'.cell? ⟨w.heap.size + 1, 3, none⟩ = some (.int .i64 y))
      (first
        | (with_reducible exact z0.keep)
        | (with_reducible exact z12.keep)
        | (with_reducible exact z1.keep)
        | (with_reducible exact z2.keep))
      (first
        | (go_at_call 39; first
          | ((with_reducible refine (L1.out w2.drew).mono ?_); rintro e w3 ⟨rfl, b3⟩; have z1 := z0.below b3)
          | ((with_reducible refine (L2.out w2.drew).mono ?_); rintro e w4 ⟨rfl, b4⟩; have z2 := z0.below b4)
          | ((with_reducible refine (L1.out w4).mono ?_); rintro e w3 ⟨rfl, b3⟩; have z12 := z2.below b3)
          | ((with_reducible refine (L2.out w3).mono ?_); rintro e w4 ⟨rfl, b4⟩; have z12 := z1.below b4))
        | (go_at_call 38; (with_reducible refine (LC.out _).mono ?_); rintro e w5 ⟨rfl, rfl⟩))
    all_goals
      have k12 := z12.keep
      go_wp2_with (go_at_call 40; (with_reducible refine (LA.out _).mono ?_); rintro e w6 ⟨rfl, b6⟩)
      go_ret2
      exact ⟨rfl, on z12.bl b6⟩
  · cases hs
set_option maxHeartbeats 8000000 in
set_option maxRecDepth 100000 in
theorem cmp_pp  (S S' : ByteArray) (x y k1 k2 : Int) (w : World) (s1 s2 : Bool) (hs : (s1 && s2) = false) (e1 : S.toList.isEmpty = s1) (e2 : (S.toList == []) = s1) (i1 : S'.toList.isEmpty = s2) (i2 : (S'.toList == []) = s2) (r : Int) (HA : ∀ w1, Calls Tryz.prog 40 #[.agg #[.int .i64 0, .bool false, .string S, .int .i64 x], .agg #[.int .i64 0, .bool false, .string S', .int .i64 y]] w1 fun e w' => e = .returned (.int .i64 r) ∧ Below w1.heap.size w1 w')
    (M1 : ∀ w1, Calls Tryz.prog 35 #[.agg #[.int .i64 0, .bool false, .string S, .int .i64 x]] w1 fun e w' => e = .returned (.bool true) ∧ Below w1.heap.size w1 w')
    (M2 : ∀ w1, Calls Tryz.prog 35 #[.agg #[.int .i64 0, .bool false, .string S', .int .i64 y]] w1 fun e w' => e = .returned (.bool true) ∧ Below w1.heap.size w1 w')
    (K1 : ∀ w1, Calls Tryz.prog 39 #[.agg #[.int .i64 0, .bool false, .string S, .int .i64 x]] w1 fun e w' => e = .returned (.int .i64 k1) ∧ Below w1.heap.size w1 w')
    (K2 : ∀ w1, Calls Tryz.prog 39 #[.agg #[.int .i64 0, .bool false, .string S', .int .i64 y]] w1 fun e w' => e = .returned (.int .i64 k2) ∧ Below w1.heap.size w1 w')
    (KC : ∀ w1, Calls Tryz.prog 38 #[.int .i64 k1, .int .i64 k2] w1 fun e w' => e = .returned (.int .i64 0) ∧ w' = w1) :
    Calls Tryz.prog 22 #[.agg #[.int .i64 0, .bool false, .string S, .int .i64 x], .agg #[.int .i64 0, .bool false, .string S', .int .i64 y]] w fun e w' => e = .returned (.tuple #[.int .i64 r, .int .i64 0]) ∧ Below w.heap.size w w' := by
  have T := T8.start w #[.int .i64 0, .bool false, .string S, .int .i64 x] #[.int .i64 0, .bool false, .string S', .int .i64 y]
  have G1 := Lib.hid M1
  have G2 := Lib.hid M2
  have L1 := Lib.hid K1
  have L2 := Lib.hid K2
  have LC := Lib.hid KC
  have HT := Lib.hid T
  clear M1 M2 K1 K2 KC T
  have LA := Lib.hid HA
  clear HA
  cases s1 <;> cases s2
  · skip
    go_enter Tryz.func22, Tryz.ntmps22
    go_wp2_with (go_at_call 35; first
      | ((with_reducible refine (G1.out ((w.alloc (.cells #[.int .i64 0, .bool false, .string S, .int .i64 x] 23)).alloc (.cells #[.int .i64 0, .bool false, .string S', .int .i64 y] 23))).mono ?_); rintro e w1 ⟨rfl, b1⟩; have t1 := HT.out.below b1; have q1 := t1.keep)
      | ((with_reducible refine (G2.out w1).mono ?_); rintro e w2 ⟨rfl, b2⟩; have t2 := t1.below b2))
    have z0 := t2.drew
    clear q1
    go_region_held3 (fun w' => w'.cell? ⟨w.heap.size, 0, none⟩ = some (.int .i64 0) ∧ w'.cell? ⟨w.heap.size, 1, none⟩ = some (.bool false) ∧ w'.cell? ⟨w.heap.size, 2, none⟩ = some (.string S) ∧ w'.cell? ⟨w.heap.size, 3, none⟩ = some (.int .i64 x) ∧ w'.cell? ⟨w.heap.size + 1, 0, none⟩ = some (.int .i64 0) ∧ w'.cell? ⟨w.heap.size + 1, 1, none⟩ = some (.bool false) ∧ w'.cell? ⟨w.heap.size + 1, 2, none⟩ = some (.string S') ∧ w'.cell? ⟨w.heap.size + 1, 3, none⟩ = some (.int .i64 y))
      (first
        | (with_reducible exact z0.keep)
        | (with_reducible exact z12.keep)
        | (with_reducible exact z1.keep)
        | (with_reducible exact z2.keep))
      (first
        | (go_at_call 39; first
          | ((with_reducible refine (L1.out w2.drew).mono ?_); rintro e w3 ⟨rfl, b3⟩; have z1 := z0.below b3)
          | ((with_reducible refine (L2.out w2.drew).mono ?_); rintro e w4 ⟨rfl, b4⟩; have z2 := z0.below b4)
          | ((with_reducible refine (L1.out w4).mono ?_); rintro e w3 ⟨rfl, b3⟩; have z12 := z2.below b3)
          | ((with_reducible refine (L2.out w3).mono ?_); rintro e w4 ⟨rfl, b4⟩; have z12 := z1.below b4))
        | (go_at_call 38; (with_reducible refine (LC.out _).mono ?_); rintro e w5 ⟨rfl, rfl⟩))
    all_goals
      have k12 := z12.keep
      go_wp2_with (go_at_call 40; (with_reducible refine (LA.out _).mono ?_); rintro e w6 ⟨rfl, b6⟩)
      go_ret2
      exact ⟨rfl, on z12.bl b6⟩
  · skip
    go_enter Tryz.func22, Tryz.ntmps22
    go_wp2_with (go_at_call 35; first
      | ((with_reducible refine (G1.out ((w.alloc (.cells #[.int .i64 0, .bool false, .string S, .int .i64 x] 23)).alloc (.cells #[.int .i64 0, .bool false, .string S', .int .i64 y] 23))).mono ?_); rintro e w1 ⟨rfl, b1⟩; have t1 := HT.out.below b1; have q1 := t1.keep)
      | ((with_reducible refine (G2.out w1).mono ?_); rintro e w2 ⟨rfl, b2⟩; have t2 := t1.below b2))
    have z0 := t2.drew
    clear q1
    go_region_held3 (fun w' => w'.cell? ⟨w.heap.size, 0, none⟩ = some (.int .i64 0) ∧ w'.cell? ⟨w.heap.size, 1, none⟩ = some (.bool false) ∧ w'.cell? ⟨w.heap.size, 2, none⟩ = some (.string S) ∧ w'.cell? ⟨w.heap.size, 3, none⟩ = some (.int .i64 x) ∧ w'.cell? ⟨w.heap.size + 1, 0, none⟩ = some (.int .i64 0) ∧ w'.cell? ⟨w.heap.size + 1, 1, none⟩ = some (.bool false) ∧ w'.cell? ⟨w.heap.size + 1, 2, none⟩ = some (.string S') ∧ w'.cell? ⟨w.heap.size + 1, 3, none⟩ = some (.int .i64 y))
      (first
        | (with_reducible exact z0.keep)
        | (with_reducible exact z12.keep)
        | (with_reducible exact z1.keep)
        | (with_reducible exact z2.keep))
      (first
        | (go_at_call 39; first
          | ((with_reducible refine (L1.out w2.drew).mono ?_); rintro e w3 ⟨rfl, b3⟩; have z1 := z0.below b3)
          | ((with_reducible refine (L2.out w2.drew).mono ?_); rintro e w4 ⟨rfl, b4⟩; have z2 := z0.below b4)
          | ((with_reducible refine (L1.out w4).mono ?_); rintro e w3 ⟨rfl, b3⟩; have z12 := z2.below b3)
          | ((with_reducible refine (L2.out w3).mono ?_); rintro e w4 ⟨rfl, b4⟩; have z12 := z1.below b4))
        | (go_at_call 38; (with_reducible refine (LC.out _).mono ?_); rintro e w5 ⟨rfl, rfl⟩))
    all_goals
      have k12 := z12.keep
      go_wp2_with (go_at_call 40; (with_reducible refine (LA.out _).mono ?_); rintro e w6 ⟨rfl, b6⟩)
      go_ret2
      exact ⟨rfl, on z12.bl b6⟩
  · skip
    go_enter Tryz.func22, Tryz.ntmps22
    go_wp2_with (go_at_call 35; first
      | ((with_reducible refine (G1.out ((w.alloc (.cells #[.int .i64 0, .bool false, .string S, .int .i64 x] 23)).alloc (.cells #[.int .i64 0, .bool false, .string S', .int .i64 y] 23))).mono ?_); rintro e w1 ⟨rfl, b1⟩; have t1 := HT.out.below b1; have q1 := t1.keep)
      | ((with_reducible refine (G2.out w1).mono ?_); rintro e w2 ⟨rfl, b2⟩; have t2 := t1.below b2))
    have z0 := t2.drew
    clear q1
    go_region_held3 (fun w' => w'.cell? ⟨w.heap.size, 0, none⟩ = some (.int .i64 0) ∧ w'.cell? ⟨w.heap.size, 1, none⟩ = some (.bool false) ∧ w'.cell? ⟨w.heap.size, 2, none⟩ = some (.string S) ∧ w'.cell? ⟨w.heap.size, 3, none⟩ = some (.int .i64 x) ∧ w'.cell? ⟨w.heap.size + 1, 0, none⟩ = some (.int .i64 0) ∧ w'.cell? ⟨w.heap.size + 1, 1, none⟩ = some (.bool false) ∧ w'.cell? ⟨w.heap.size + 1, 2, none⟩ = some (.string S') ∧ w'.cell? ⟨w.heap.size + 1, 3, none⟩ = some (.int .i64 y))
      (first
        | (with_reducible exact z0.keep)
        | (with_reducible exact z12.keep)
        | (with_reducible exact z1.keep)
        | (with_reducible exact z2.keep))
      (first
        | (go_at_call 39; first
          | ((with_reducible refine (L1.out w2.drew).mono ?_); rintro e w3 ⟨rfl, b3⟩; have z1 := z0.below b3)
          | ((with_reducible refine (L2.out w2.drew).mono ?_); rintro e w4 ⟨rfl, b4⟩; have z2 := z0.below b4)
          | ((with_reducible refine (L1.out w4).mono ?_); rintro e w3 ⟨rfl, b3⟩; have z12 := z2.below b3)
          | ((with_reducible refine (L2.out w3).mono ?_); rintro e w4 ⟨rfl, b4⟩; have z12 := z1.below b4))
        | (go_at_call 38; (with_reducible refine (LC.out _).mono ?_); rintro e w5 ⟨rfl, rfl⟩))
    all_goals
      have k12 := z12.keep
      go_wp2_with (go_at_call 40; (with_reducible refine (LA.out _).mono ?_); rintro e w6 ⟨rfl, b6⟩)
      go_ret2
      exact ⟨rfl, on z12.bl b6⟩
  · cases hs
set_option maxHeartbeats 8000000 in
set_option maxRecDepth 100000 in
theorem cmp_np  (S S' : ByteArray) (x y k1 k2 : Int) (w : World) (s1 s2 : Bool) (hs : (s1 && s2) = false) (e1 : S.toList.isEmpty = s1) (e2 : (S.toList == []) = s1) (i1 : S'.toList.isEmpty = s2) (i2 : (S'.toList == []) = s2)
    (M1 : ∀ w1, Calls Tryz.prog 35 #[.agg #[.int .i64 0, .bool true, .string S, .int .i64 x]] w1 fun e w' => e = .returned (.bool true) ∧ Below w1.heap.size w1 w')
    (M2 : ∀ w1, Calls Tryz.prog 35 #[.agg #[.int .i64 0, .bool false, .string S', .int .i64 y]] w1 fun e w' => e = .returned (.bool true) ∧ Below w1.heap.size w1 w')
    (K1 : ∀ w1, Calls Tryz.prog 39 #[.agg #[.int .i64 0, .bool true, .string S, .int .i64 x]] w1 fun e w' => e = .returned (.int .i64 k1) ∧ Below w1.heap.size w1 w')
    (K2 : ∀ w1, Calls Tryz.prog 39 #[.agg #[.int .i64 0, .bool false, .string S', .int .i64 y]] w1 fun e w' => e = .returned (.int .i64 k2) ∧ Below w1.heap.size w1 w')
    (KC : ∀ w1, Calls Tryz.prog 38 #[.int .i64 k1, .int .i64 k2] w1 fun e w' => e = .returned (.int .i64 0) ∧ w' = w1) :
    Calls Tryz.prog 22 #[.agg #[.int .i64 0, .bool true, .string S, .int .i64 x], .agg #[.int .i64 0, .bool false, .string S', .int .i64 y]] w fun e w' => e = .returned (.tuple #[.int .i64 (-1), .int .i64 0]) ∧ Below w.heap.size w w' := by
  have T := T8.start w #[.int .i64 0, .bool true, .string S, .int .i64 x] #[.int .i64 0, .bool false, .string S', .int .i64 y]
  have G1 := Lib.hid M1
  have G2 := Lib.hid M2
  have L1 := Lib.hid K1
  have L2 := Lib.hid K2
  have LC := Lib.hid KC
  have HT := Lib.hid T
  clear M1 M2 K1 K2 KC T
  cases s1 <;> cases s2
  · skip
    go_enter Tryz.func22, Tryz.ntmps22
    go_wp2_with (go_at_call 35; first
      | ((with_reducible refine (G1.out ((w.alloc (.cells #[.int .i64 0, .bool true, .string S, .int .i64 x] 23)).alloc (.cells #[.int .i64 0, .bool false, .string S', .int .i64 y] 23))).mono ?_); rintro e w1 ⟨rfl, b1⟩; have t1 := HT.out.below b1; have q1 := t1.keep)
      | ((with_reducible refine (G2.out w1).mono ?_); rintro e w2 ⟨rfl, b2⟩; have t2 := t1.below b2))
    have z0 := t2.drew
    clear q1
    go_region_held3 (fun w' => w'.cell? ⟨w.heap.size, 0, none⟩ = some (.int .i64 0) ∧ w'.cell? ⟨w.heap.size, 1, none⟩ = some (.bool true) ∧ w'.cell? ⟨w.heap.size, 2, none⟩ = some (.string S) ∧ w'.cell? ⟨w.heap.size, 3, none⟩ = some (.int .i64 x) ∧ w'.cell? ⟨w.heap.size + 1, 0, none⟩ = some (.int .i64 0) ∧ w'.cell? ⟨w.heap.size + 1, 1, none⟩ = some (.bool false) ∧ w'.cell? ⟨w.heap.size + 1, 2, none⟩ = some (.string S') ∧ w'.cell? ⟨w.heap.size + 1, 3, none⟩ = some (.int .i64 y))
      (first
        | (with_reducible exact z0.keep)
        | (with_reducible exact z12.keep)
        | (with_reducible exact z1.keep)
        | (with_reducible exact z2.keep))
      (first
        | (go_at_call 39; first
          | ((with_reducible refine (L1.out w2.drew).mono ?_); rintro e w3 ⟨rfl, b3⟩; have z1 := z0.below b3)
          | ((with_reducible refine (L2.out w2.drew).mono ?_); rintro e w4 ⟨rfl, b4⟩; have z2 := z0.below b4)
          | ((with_reducible refine (L1.out w4).mono ?_); rintro e w3 ⟨rfl, b3⟩; have z12 := z2.below b3)
          | ((with_reducible refine (L2.out w3).mono ?_); rintro e w4 ⟨rfl, b4⟩; have z12 := z1.below b4))
        | (go_at_call 38; (with_reducible refine (LC.out _).mono ?_); rintro e w5 ⟨rfl, rfl⟩))
    all_goals
      have k12 := z12.keep
      go_wp2
      go_ret2
      exact ⟨rfl, z12.bl⟩
  · skip
    go_enter Tryz.func22, Tryz.ntmps22
    go_wp2_with (go_at_call 35; first
      | ((with_reducible refine (G1.out ((w.alloc (.cells #[.int .i64 0, .bool true, .string S, .int .i64 x] 23)).alloc (.cells #[.int .i64 0, .bool false, .string S', .int .i64 y] 23))).mono ?_); rintro e w1 ⟨rfl, b1⟩; have t1 := HT.out.below b1; have q1 := t1.keep)
      | ((with_reducible refine (G2.out w1).mono ?_); rintro e w2 ⟨rfl, b2⟩; have t2 := t1.below b2))
    have z0 := t2.drew
    clear q1
    go_region_held3 (fun w' => w'.cell? ⟨w.heap.size, 0, none⟩ = some (.int .i64 0) ∧ w'.cell? ⟨w.heap.size, 1, none⟩ = some (.bool true) ∧ w'.cell? ⟨w.heap.size, 2, none⟩ = some (.string S) ∧ w'.cell? ⟨w.heap.size, 3, none⟩ = some (.int .i64 x) ∧ w'.cell? ⟨w.heap.size + 1, 0, none⟩ = some (.int .i64 0) ∧ w'.cell? ⟨w.heap.size + 1, 1, none⟩ = some (.bool false) ∧ w'.cell? ⟨w.heap.size + 1, 2, none⟩ = some (.string S') ∧ w'.cell? ⟨w.heap.size + 1, 3, none⟩ = some (.int .i64 y))
      (first
        | (with_reducible exact z0.keep)
        | (with_reducible exact z12.keep)
        | (with_reducible exact z1.keep)
        | (with_reducible exact z2.keep))
      (first
        | (go_at_call 39; first
          | ((with_reducible refine (L1.out w2.drew).mono ?_); rintro e w3 ⟨rfl, b3⟩; have z1 := z0.below b3)
          | ((with_reducible refine (L2.out w2.drew).mono ?_); rintro e w4 ⟨rfl, b4⟩; have z2 := z0.below b4)
          | ((with_reducible refine (L1.out w4).mono ?_); rintro e w3 ⟨rfl, b3⟩; have z12 := z2.below b3)
          | ((with_reducible refine (L2.out w3).mono ?_); rintro e w4 ⟨rfl, b4⟩; have z12 := z1.below b4))
        | (go_at_call 38; (with_reducible refine (LC.out _).mono ?_); rintro e w5 ⟨rfl, rfl⟩))
    all_goals
      have k12 := z12.keep
      go_wp2
      go_ret2
      exact ⟨rfl, z12.bl⟩
  · skip
    go_enter Tryz.func22, Tryz.ntmps22
    go_wp2_with (go_at_call 35; first
      | ((with_reducible refine (G1.out ((w.alloc (.cells #[.int .i64 0, .bool true, .string S, .int .i64 x] 23)).alloc (.cells #[.int .i64 0, .bool false, .string S', .int .i64 y] 23))).mono ?_); rintro e w1 ⟨rfl, b1⟩; have t1 := HT.out.below b1; have q1 := t1.keep)
      | ((with_reducible refine (G2.out w1).mono ?_); rintro e w2 ⟨rfl, b2⟩; have t2 := t1.below b2))
    have z0 := t2.drew
    clear q1
    go_region_held3 (fun w' => w'.cell? ⟨w.heap.size, 0, none⟩ = some (.int .i64 0) ∧ w'.cell? ⟨w.heap.size, 1, none⟩ = some (.bool true) ∧ w'.cell? ⟨w.heap.size, 2, none⟩ = some (.string S) ∧ w'.cell? ⟨w.heap.size, 3, none⟩ = some (.int .i64 x) ∧ w'.cell? ⟨w.heap.size + 1, 0, none⟩ = some (.int .i64 0) ∧ w'.cell? ⟨w.heap.size + 1, 1, none⟩ = some (.bool false) ∧ w'.cell? ⟨w.heap.size + 1, 2, none⟩ = some (.string S') ∧ w'.cell? ⟨w.heap.size + 1, 3, none⟩ = some (.int .i64 y))
      (first
        | (with_reducible exact z0.keep)
        | (with_reducible exact z12.keep)
        | (with_reducible exact z1.keep)
        | (with_reducible exact z2.keep))
      (first
        | (go_at_call 39; first
          | ((with_reducible refine (L1.out w2.drew).mono ?_); rintro e w3 ⟨rfl, b3⟩; have z1 := z0.below b3)
          | ((with_reducible refine (L2.out w2.drew).mono ?_); rintro e w4 ⟨rfl, b4⟩; have z2 := z0.below b4)
          | ((with_reducible refine (L1.out w4).mono ?_); rintro e w3 ⟨rfl, b3⟩; have z12 := z2.below b3)
          | ((with_reducible refine (L2.out w3).mono ?_); rintro e w4 ⟨rfl, b4⟩; have z12 := z1.below b4))
        | (go_at_call 38; (with_reducible refine (LC.out _).mono ?_); rintro e w5 ⟨rfl, rfl⟩))
    all_goals
      have k12 := z12.keep
      go_wp2
      go_ret2
      exact ⟨rfl, z12.bl⟩
  · cases hs
set_option maxHeartbeats 8000000 in
set_option maxRecDepth 100000 in
theorem cmp_pn  (S S' : ByteArray) (x y k1 k2 : Int) (w : World) (s1 s2 : Bool) (hs : (s1 && s2) = false) (e1 : S.toList.isEmpty = s1) (e2 : (S.toList == []) = s1) (i1 : S'.toList.isEmpty = s2) (i2 : (S'.toList == []) = s2)
    (M1 : ∀ w1, Calls Tryz.prog 35 #[.agg #[.int .i64 0, .bool false, .string S, .int .i64 x]] w1 fun e w' => e = .returned (.bool true) ∧ Below w1.heap.size w1 w')
    (M2 : ∀ w1, Calls Tryz.prog 35 #[.agg #[.int .i64 0, .bool true, .string S', .int .i64 y]] w1 fun e w' => e = .returned (.bool true) ∧ Below w1.heap.size w1 w')
    (K1 : ∀ w1, Calls Tryz.prog 39 #[.agg #[.int .i64 0, .bool false, .string S, .int .i64 x]] w1 fun e w' => e = .returned (.int .i64 k1) ∧ Below w1.heap.size w1 w')
    (K2 : ∀ w1, Calls Tryz.prog 39 #[.agg #[.int .i64 0, .bool true, .string S', .int .i64 y]] w1 fun e w' => e = .returned (.int .i64 k2) ∧ Below w1.heap.size w1 w')
    (KC : ∀ w1, Calls Tryz.prog 38 #[.int .i64 k1, .int .i64 k2] w1 fun e w' => e = .returned (.int .i64 0) ∧ w' = w1) :
    Calls Tryz.prog 22 #[.agg #[.int .i64 0, .bool false, .string S, .int .i64 x], .agg #[.int .i64 0, .bool true, .string S', .int .i64 y]] w fun e w' => e = .returned (.tuple #[.int .i64 1, .int .i64 0]) ∧ Below w.heap.size w w' := by
  have T := T8.start w #[.int .i64 0, .bool false, .string S, .int .i64 x] #[.int .i64 0, .bool true, .string S', .int .i64 y]
  have G1 := Lib.hid M1
  have G2 := Lib.hid M2
  have L1 := Lib.hid K1
  have L2 := Lib.hid K2
  have LC := Lib.hid KC
  have HT := Lib.hid T
  clear M1 M2 K1 K2 KC T
  cases s1 <;> cases s2
  · skip
    go_enter Tryz.func22, Tryz.ntmps22
    go_wp2_with (go_at_call 35; first
      | ((with_reducible refine (G1.out ((w.alloc (.cells #[.int .i64 0, .bool false, .string S, .int .i64 x] 23)).alloc (.cells #[.int .i64 0, .bool true, .string S', .int .i64 y] 23))).mono ?_); rintro e w1 ⟨rfl, b1⟩; have t1 := HT.out.below b1; have q1 := t1.keep)
      | ((with_reducible refine (G2.out w1).mono ?_); rintro e w2 ⟨rfl, b2⟩; have t2 := t1.below b2))
    have z0 := t2.drew
    clear q1
    go_region_held3 (fun w' => w'.cell? ⟨w.heap.size, 0, none⟩ = some (.int .i64 0) ∧ w'.cell? ⟨w.heap.size, 1, none⟩ = some (.bool false) ∧ w'.cell? ⟨w.heap.size, 2, none⟩ = some (.string S) ∧ w'.cell? ⟨w.heap.size, 3, none⟩ = some (.int .i64 x) ∧ w'.cell? ⟨w.heap.size + 1, 0, none⟩ = some (.int .i64 0) ∧ w'.cell? ⟨w.heap.size + 1, 1, none⟩ = some (.bool true) ∧ w'.cell? ⟨w.heap.size + 1, 2, none⟩ = some (.string S') ∧ w'.cell? ⟨w.heap.size + 1, 3, none⟩ = some (.int .i64 y))
      (first
        | (with_reducible exact z0.keep)
        | (with_reducible exact z12.keep)
        | (with_reducible exact z1.keep)
        | (with_reducible exact z2.keep))
      (first
        | (go_at_call 39; first
          | ((with_reducible refine (L1.out w2.drew).mono ?_); rintro e w3 ⟨rfl, b3⟩; have z1 := z0.below b3)
          | ((with_reducible refine (L2.out w2.drew).mono ?_); rintro e w4 ⟨rfl, b4⟩; have z2 := z0.below b4)
          | ((with_reducible refine (L1.out w4).mono ?_); rintro e w3 ⟨rfl, b3⟩; have z12 := z2.below b3)
          | ((with_reducible refine (L2.out w3).mono ?_); rintro e w4 ⟨rfl, b4⟩; have z12 := z1.below b4))
        | (go_at_call 38; (with_reducible refine (LC.out _).mono ?_); rintro e w5 ⟨rfl, rfl⟩))
    all_goals
      have k12 := z12.keep
      go_wp2
      go_ret2
      exact ⟨rfl, z12.bl⟩
  · skip
    go_enter Tryz.func22, Tryz.ntmps22
    go_wp2_with (go_at_call 35; first
      | ((with_reducible refine (G1.out ((w.alloc (.cells #[.int .i64 0, .bool false, .string S, .int .i64 x] 23)).alloc (.cells #[.int .i64 0, .bool true, .string S', .int .i64 y] 23))).mono ?_); rintro e w1 ⟨rfl, b1⟩; have t1 := HT.out.below b1; have q1 := t1.keep)
      | ((with_reducible refine (G2.out w1).mono ?_); rintro e w2 ⟨rfl, b2⟩; have t2 := t1.below b2))
    have z0 := t2.drew
    clear q1
    go_region_held3 (fun w' => w'.cell? ⟨w.heap.size, 0, none⟩ = some (.int .i64 0) ∧ w'.cell? ⟨w.heap.size, 1, none⟩ = some (.bool false) ∧ w'.cell? ⟨w.heap.size, 2, none⟩ = some (.string S) ∧ w'.cell? ⟨w.heap.size, 3, none⟩ = some (.int .i64 x) ∧ w'.cell? ⟨w.heap.size + 1, 0, none⟩ = some (.int .i64 0) ∧ w'.cell? ⟨w.heap.size + 1, 1, none⟩ = some (.bool true) ∧ w'.cell? ⟨w.heap.size + 1, 2, none⟩ = some (.string S') ∧ w'.cell? ⟨w.heap.size + 1, 3, none⟩ = some (.int .i64 y))
      (first
        | (with_reducible exact z0.keep)
        | (with_reducible exact z12.keep)
        | (with_reducible exact z1.keep)
        | (with_reducible exact z2.keep))
      (first
        | (go_at_call 39; first
          | ((with_reducible refine (L1.out w2.drew).mono ?_); rintro e w3 ⟨rfl, b3⟩; have z1 := z0.below b3)
          | ((with_reducible refine (L2.out w2.drew).mono ?_); rintro e w4 ⟨rfl, b4⟩; have z2 := z0.below b4)
          | ((with_reducible refine (L1.out w4).mono ?_); rintro e w3 ⟨rfl, b3⟩; have z12 := z2.below b3)
          | ((with_reducible refine (L2.out w3).mono ?_); rintro e w4 ⟨rfl, b4⟩; have z12 := z1.below b4))
        | (go_at_call 38; (with_reducible refine (LC.out _).mono ?_); rintro e w5 ⟨rfl, rfl⟩))
    all_goals
      have k12 := z12.keep
      go_wp2
      go_ret2
      exact ⟨rfl, z12.bl⟩
  · skip
    go_enter Tryz.func22, Tryz.ntmps22
    go_wp2_with (go_at_call 35; first
      | ((with_reducible refine (G1.out ((w.alloc (.cells #[.int .i64 0, .bool false, .string S, .int .i64 x] 23)).alloc (.cells #[.int .i64 0, .bool true, .string S', .int .i64 y] 23))).mono ?_); rintro e w1 ⟨rfl, b1⟩; have t1 := HT.out.below b1; have q1 := t1.keep)
      | ((with_reducible refine (G2.out w1).mono ?_); rintro e w2 ⟨rfl, b2⟩; have t2 := t1.below b2))
    have z0 := t2.drew
    clear q1
    go_region_held3 (fun w' => w'.cell? ⟨w.heap.size, 0, none⟩ = some (.int .i64 0) ∧ w'.cell? ⟨w.heap.size, 1, none⟩ = some (.bool false) ∧ w'.cell? ⟨w.heap.size, 2, none⟩ = some (.string S) ∧ w'.cell? ⟨w.heap.size, 3, none⟩ = some (.int .i64 x) ∧ w'.cell? ⟨w.heap.size + 1, 0, none⟩ = some (.int .i64 0) ∧ w'.cell? ⟨w.heap.size + 1, 1, none⟩ = some (.bool true) ∧ w'.cell? ⟨w.heap.size + 1, 2, none⟩ = some (.string S') ∧ w'.cell? ⟨w.heap.size + 1, 3, none⟩ = some (.int .i64 y))
      (first
        | (with_reducible exact z0.keep)
        | (with_reducible exact z12.keep)
        | (with_reducible exact z1.keep)
        | (with_reducible exact z2.keep))
      (first
        | (go_at_call 39; first
          | ((with_reducible refine (L1.out w2.drew).mono ?_); rintro e w3 ⟨rfl, b3⟩; have z1 := z0.below b3)
          | ((with_reducible refine (L2.out w2.drew).mono ?_); rintro e w4 ⟨rfl, b4⟩; have z2 := z0.below b4)
          | ((with_reducible refine (L1.out w4).mono ?_); rintro e w3 ⟨rfl, b3⟩; have z12 := z2.below b3)
          | ((with_reducible refine (L2.out w3).mono ?_); rintro e w4 ⟨rfl, b4⟩; have z12 := z1.below b4))
        | (go_at_call 38; (with_reducible refine (LC.out _).mono ?_); rintro e w5 ⟨rfl, rfl⟩))
    all_goals
      have k12 := z12.keep
      go_wp2
      go_ret2
      exact ⟨rfl, z12.bl⟩
  · cases hs
end Go.Proofs.YtllpggdmkdgggaaGreatDoor.Dc

/- Layer 5: dec.Cmp, joined: how two finite ones stand; two of a class. -/
set_option linter.unusedSimpArgs false
set_option linter.unusedVariables false
namespace Go.Proofs.YtllpggdmkdgggaaGreatDoor.Dc
open Go.RowKit Go.Proofs.YtllpggdmkdgggaaGreatDoor.Dig Go.Proofs.YtllpggdmkdgggaaGreatDoor.W Go.Proofs.YtllpggdmkdgggaaGreatDoor.Nat Go.Proofs.YtllpggdmkdgggaaGreatDoor.Wh Go.Proofs.YtllpggdmkdgggaaGreatDoor.Td Go.Proofs.YtllpggdmkdgggaaGreatDoor.Bu Go.Proofs.YtllpggdmkdgggaaGreatDoor.Tx Go.Proofs.YtllpggdmkdgggaaGreatDoor.Sp Go.Proofs.YtllpggdmkdgggaaGreatDoor.Rd

theorem may_ok {g : Bool} {l : List UInt8} {x : Int} (h : mayB 0 g l x = true) (e : Int) (he : l ≠ [] → e ≤ x) : Ok l x e := by
  by_cases hl : l = []
  · exact .inl hl
  · obtain ⟨_, hF, hf⟩ := may_str h hl
    exact .inr ⟨hF, hf, he hl⟩
theorem emp_iff (l : List UInt8) : (⟨l.toArray⟩ : ByteArray).toList.isEmpty = decide (l = []) ∧ ((⟨l.toArray⟩ : ByteArray).toList == []) = decide (l = []) := by
  rw [toL]
  cases l with
  | nil => exact ⟨rfl, rfl⟩
  | cons a r => exact ⟨rfl, rfl⟩
theorem amt_zero {l : List UInt8} {x e : Int} (h : Ok l x e) : amt l x e = 0 ↔ l = [] := by
  rcases h with rfl | ⟨hF, _, _⟩
  · simp [amt_nil]
  · have := amt_pos (x := x) (e := e) hF
    have := hF.ne
    constructor
    · intro k; omega
    · intro k; exact absurd k this
/-- how two finite ones stand -/
theorem cmp_fin (g g' : Bool) (l m : List UInt8) (x y e : Int) (w : World) (h1 : mayB 0 g l x = true) (h2 : mayB 0 g' m y = true) (hx : l ≠ [] → e ≤ x) (hy : m ≠ [] → e ≤ y) :
    Calls Tryz.prog 22 #[.agg (dec 0 g l x), .agg (dec 0 g' m y)] w fun z w' => z = .returned (.tuple #[.int .i64 (order (sv g (amt l x e)) (sv g' (amt m y e))), .int .i64 0]) ∧ Below w.heap.size w w' := by
  have o1 := may_ok h1 e hx
  have o2 := may_ok h2 e hy
  have M1 := fun w1 => dmay_calls 0 g l x w1 (by have := o1.len; omega)
  have M2 := fun w1 => dmay_calls 0 g' m y w1 (by have := o2.len; omega)
  rw [h1] at M1
  rw [h2] at M2
  have K1 := fun w1 => key_calls 0 g ⟨l.toArray⟩ x w1
  have K2 := fun w1 => key_calls 0 g' ⟨m.toArray⟩ y w1
  rw [show keyV 0 g = 0 from rfl] at K1
  rw [show keyV 0 g' = 0 from rfl] at K2
  have KC := fun w1 => comp_int 0 0 w1
  rw [show Lib.compareInt 0 0 = 0 from rfl] at KC
  obtain ⟨e1, e2⟩ := emp_iff l
  obtain ⟨i1, i2⟩ := emp_iff m
  by_cases hl : l = []
  · by_cases hm : m = []
    · have er : order (sv g (amt l x e)) (sv g' (amt m y e)) = 0 := by
        rw [(amt_zero o1).2 hl, (amt_zero o2).2 hm]
        cases g <;> cases g' <;> rfl
      rw [er]
      rw [decide_eq_true hl] at e1 e2
      rw [decide_eq_true hm] at i1 i2
      exact cmp_zero g g' ⟨l.toArray⟩ ⟨m.toArray⟩ x y 0 0 w e1 e2 i1 i2 M1 M2 K1 K2 KC
    · exact main o1 o2 M1 M2 K1 K2 KC e1 e2 i1 i2 (by rw [decide_eq_false hm, Bool.and_false])
  · exact main o1 o2 M1 M2 K1 K2 KC e1 e2 i1 i2 (by rw [decide_eq_false hl, Bool.false_and])
where
  main {g g' : Bool} {l m : List UInt8} {x y e : Int} {w : World} (o1 : Ok l x e) (o2 : Ok m y e)
      (M1 : ∀ w1, Calls Tryz.prog 35 #[.agg (dec 0 g l x)] w1 fun e w' => e = .returned (.bool true) ∧ Below w1.heap.size w1 w')
      (M2 : ∀ w1, Calls Tryz.prog 35 #[.agg (dec 0 g' m y)] w1 fun e w' => e = .returned (.bool true) ∧ Below w1.heap.size w1 w')
      (K1 : ∀ w1, Calls Tryz.prog 39 #[.agg (dec 0 g l x)] w1 fun e w' => e = .returned (.int .i64 0) ∧ Below w1.heap.size w1 w')
      (K2 : ∀ w1, Calls Tryz.prog 39 #[.agg (dec 0 g' m y)] w1 fun e w' => e = .returned (.int .i64 0) ∧ Below w1.heap.size w1 w')
      (KC : ∀ w1, Calls Tryz.prog 38 #[.int .i64 0, .int .i64 0] w1 fun e w' => e = .returned (.int .i64 0) ∧ w' = w1)
      (e1 : (⟨l.toArray⟩ : ByteArray).toList.isEmpty = decide (l = [])) (e2 : ((⟨l.toArray⟩ : ByteArray).toList == []) = decide (l = []))
      (i1 : (⟨m.toArray⟩ : ByteArray).toList.isEmpty = decide (m = [])) (i2 : ((⟨m.toArray⟩ : ByteArray).toList == []) = decide (m = [])) (hs : (decide (l = []) && decide (m = [])) = false) :
      Calls Tryz.prog 22 #[.agg (dec 0 g l x), .agg (dec 0 g' m y)] w fun z w' => z = .returned (.tuple #[.int .i64 (order (sv g (amt l x e)) (sv g' (amt m y e))), .int .i64 0]) ∧ Below w.heap.size w w' := by
    have hpos : amt l x e ≠ 0 ∨ amt m y e ≠ 0 := by
      by_cases hl : l = []
      · right
        intro k
        rw [decide_eq_true hl, decide_eq_true ((amt_zero o2).1 k)] at hs
        cases hs
      · left
        intro k
        exact hl ((amt_zero o1).1 k)
    cases g <;> cases g'
    · rw [order_pos]
      exact cmp_pp ⟨l.toArray⟩ ⟨m.toArray⟩ x y 0 0 w _ _ hs e1 e2 i1 i2 _ (fun w1 => amounts_calls false false l m x y e w1 o1 o2) M1 M2 K1 K2 KC
    · have er : order (sv false (amt l x e)) (sv true (amt m y e)) = 1 := by
        unfold order sv
        simp only [Bool.false_eq_true, if_false, if_true]
        rw [if_neg (by omega), if_neg (by omega)]
      rw [er]
      exact cmp_pn ⟨l.toArray⟩ ⟨m.toArray⟩ x y 0 0 w _ _ hs e1 e2 i1 i2 M1 M2 K1 K2 KC
    · have er : order (sv true (amt l x e)) (sv false (amt m y e)) = -1 := by
        unfold order sv
        simp only [Bool.false_eq_true, if_false, if_true]
        rw [if_pos (by omega)]
      rw [er]
      exact cmp_np ⟨l.toArray⟩ ⟨m.toArray⟩ x y 0 0 w _ _ hs e1 e2 i1 i2 M1 M2 K1 K2 KC
    · rw [order_neg]
      exact cmp_nn ⟨l.toArray⟩ ⟨m.toArray⟩ x y 0 0 w _ _ hs e1 e2 i1 i2 _ (fun w1 => amounts_calls true true m l y x e w1 o2 o1) M1 M2 K1 K2 KC
/-- two that are not both finite: by their classes alone -/
theorem cmp_cls (c c' : Int) (g g' : Bool) (l m : List UInt8) (x y : Int) (w : World) (h1 : mayB c g l x = true) (h2 : mayB c' g' m y = true) (hl : l.length ≤ 100000) (hm : m.length ≤ 100000) (hc : Lib.compareInt (keyV c g) (keyV c' g') ≠ 0 ∨ c ≠ 0) :
    Calls Tryz.prog 22 #[.agg (dec c g l x), .agg (dec c' g' m y)] w fun z w' => z = .returned (.tuple #[.int .i64 (Lib.compareInt (keyV c g) (keyV c' g')), .int .i64 0]) ∧ Below w.heap.size w w' := by
  have M1 := fun w1 => dmay_calls c g l x w1 (by omega)
  have M2 := fun w1 => dmay_calls c' g' m y w1 (by omega)
  rw [h1] at M1
  rw [h2] at M2
  exact cmp_key c c' g g' ⟨l.toArray⟩ ⟨m.toArray⟩ x y (keyV c g) (keyV c' g') _ w hc M1 M2 (fun w1 => key_calls c g _ x w1) (fun w1 => key_calls c' g' _ y w1) (fun w1 => comp_int _ _ w1)
end Go.Proofs.YtllpggdmkdgggaaGreatDoor.Dc

/- Layer 6's laws: RoundRises. -/
set_option linter.unusedSimpArgs false
set_option linter.unusedVariables false
namespace Go.Proofs.YtllpggdmkdgggaaGreatDoor.Dc
open Go.RowKit Go.Proofs.YtllpggdmkdgggaaGreatDoor.Dig Go.Proofs.YtllpggdmkdgggaaGreatDoor.W Go.Proofs.YtllpggdmkdgggaaGreatDoor.Nat Go.Proofs.YtllpggdmkdgggaaGreatDoor.Wh Go.Proofs.YtllpggdmkdgggaaGreatDoor.Td Go.Proofs.YtllpggdmkdgggaaGreatDoor.Bu Go.Proofs.YtllpggdmkdgggaaGreatDoor.Tx Go.Proofs.YtllpggdmkdgggaaGreatDoor.Sp Go.Proofs.YtllpggdmkdgggaaGreatDoor.Rd

theorem told_amt {g : Bool} {N : Nat} {E0 E : Int} {l : List UInt8} {x : Int} (h : told g N E0 = some (l, x)) (hE : E ≤ E0) : amt l x E = N * 10 ^ (E0 - E).toNat ∧ (l ≠ [] → E ≤ x) := by
  unfold told at h
  by_cases h0 : N = 0
  · rw [if_pos h0] at h
    obtain ⟨rfl, rfl⟩ := Prod.mk.inj (Option.some.inj h)
    rw [h0, amt_nil, Nat.zero_mul]
    exact ⟨rfl, fun k => absurd rfl k⟩
  · rw [if_neg h0] at h
    split at h
    · obtain ⟨rfl, rfl⟩ := Prod.mk.inj (Option.some.inj h)
      have hc : Sp.ce N E0 = E0 + (tz N : Int) := by unfold Sp.ce; rw [if_neg h0]
      rw [hc]
      refine ⟨?_, fun _ => by omega⟩
      unfold amt
      rw [show (E0 + (tz N : Int) - E).toNat = tz N + (E0 - E).toNat by omega, Nat.pow_add, ← Nat.mul_assoc, nv_cd]
    · cases h
/-- what is rounded, counted in the lower unit -/
theorem rto_amt {mode : Nat} {g : Bool} {l : List UInt8} {x place E : Int} (hx : E ≤ x) (hp : E ≤ place) : rto mode g (nv 0 l) x 1 place = rnd mode g (amt l x E) (10 ^ (place - E).toNat) := by
  unfold rto amt
  have h1 : E ≤ min x place := by omega
  have e1 : (x - E).toNat = (x - min x place).toNat + (min x place - E).toNat := by omega
  have e2 : (place - E).toNat = (place - min x place).toNat + (min x place - E).toNat := by omega
  rw [e1, e2, Nat.pow_add, Nat.pow_add, ← Nat.mul_assoc, Nat.one_mul]
  exact (rnd_mul mode g _ _ (Nat.pow_pos (by omega))).symm
/-- a finite number that may be, rounded: its amount -/
theorem fin_amt {mode : Nat} {g : Bool} {l : List UInt8} {x place E : Int} (hm : mayB 0 g l x = true) (hE : l ≠ [] → E ≤ x) (hp : E ≤ place) (h : (fin mode 0 g l x place).2 = 0) :
    ∃ l' x', (fin mode 0 g l x place).1 = dec 0 g l' x' ∧ mayB 0 g l' x' = true ∧ (l' ≠ [] → E ≤ x') ∧ amt l' x' E = rnd mode g (amt l x E) (10 ^ (place - E).toNat) * 10 ^ (place - E).toNat := by
  by_cases h0 : l = []
  · subst h0
    rw [fin_nil]
    refine ⟨[], x, rfl, hm, fun k => absurd rfl k, ?_⟩
    rw [amt_nil, rnd_zero, Nat.zero_mul]
  · rw [fin_some h0] at h ⊢
    rw [show ((mode : Nat) : Int).toNat = mode by omega] at h ⊢
    cases ho : pw mode g l x place with
    | none => rw [ho] at h; cases h
    | some p =>
      have ht : told g (rto mode g (nv 0 l) x 1 place) place = some (p.1, p.2) := ho
      obtain ⟨t1, t2⟩ := told_amt ht hp
      refine ⟨p.1, p.2, rfl, (mayB_iff ..).2 (told_may ht), t2, ?_⟩
      rw [t1, rto_amt (hE h0) hp]
theorem key_ne {c : Int} {g : Bool} (h : c ≠ 0) : keyV c g ≠ 0 := by
  unfold keyV
  by_cases h2 : c = 2
  · rw [if_pos h2]; decide
  · rw [if_neg h2, if_neg h]
    cases g <;> decide
theorem key_zero (g : Bool) : keyV 0 g = 0 := rfl
theorem cmpI_zero {a : Int} (h : a ≠ 0) : Lib.compareInt 0 a ≠ 0 ∧ Lib.compareInt a 0 ≠ 0 := by
  unfold Lib.compareInt
  rcases Int.lt_trichotomy a 0 with k | k | k
  · rw [if_neg (by omega), if_pos (by omega), if_pos k]; decide
  · exact absurd k h
  · rw [if_pos k, if_neg (by omega), if_pos (by omega)]; decide
set_option maxHeartbeats 8000000 in
set_option maxRecDepth 100000 in
theorem rises_off (ca : Int) (ga : Bool) (sa : ByteArray) (xa cb : Int) (gb : Bool) (sb : ByteArray) (xb pl mo c1 : Int) (g1 : Bool) (l1 : ByteArray) (x1 e1 c2 : Int) (g2 : Bool) (l2 : ByteArray) (x2 e2 : Int) (w : World) (hp : Pow w)
    (H1 : ∀ w1, Pow w1 → Calls Tryz.prog 11 #[.agg #[.int .i64 ca, .bool ga, .string sa, .int .i64 xa], .int .i64 pl, .int .i64 mo] w1 fun e w' => e = .returned (.tuple #[.agg #[.int .i64 c1, .bool g1, .string l1, .int .i64 x1], .int .i64 e1]) ∧ Below w1.heap.size w1 w')
    (H2 : ∀ w1, Pow w1 → Calls Tryz.prog 11 #[.agg #[.int .i64 cb, .bool gb, .string sb, .int .i64 xb], .int .i64 pl, .int .i64 mo] w1 fun e w' => e = .returned (.tuple #[.agg #[.int .i64 c2, .bool g2, .string l2, .int .i64 x2], .int .i64 e2]) ∧ Below w1.heap.size w1 w') (h : e1 ≠ 0 ∨ e2 ≠ 0) :
    Calls Tryz.prog 8 #[.agg #[.int .i64 ca, .bool ga, .string sa, .int .i64 xa], .agg #[.int .i64 cb, .bool gb, .string sb, .int .i64 xb], .agg #[.int .i64 pl, .int .i64 mo]] w fun e w' => e = .returned (.bool true) ∧ Below w.heap.size w w' := by
  obtain ⟨A0, B0, P0, b0⟩ := bk_three w #[.int .i64 ca, .bool ga, .string sa, .int .i64 xa] #[.int .i64 cb, .bool gb, .string sb, .int .i64 xb] #[.int .i64 pl, .int .i64 mo] 23 23 36
  have HP := Lib.hid hp
  have HA := Lib.hid (fun W (bl : Below w.heap.size w W) => awake_calls W (hp.below bl))
  have G1 := Lib.hid H1
  have G2 := Lib.hid H2
  have HB := Lib.hid b0
  have TA := Lib.hid A0
  have TB := Lib.hid B0
  have TP := Lib.hid P0
  clear hp b0 H1 H2 A0 B0 P0
  by_cases k1 : e1 = 0
  · have k2 : e2 ≠ 0 := h.resolve_left (fun k => k k1)
    subst k1
    have d2 := eqB k2
    clear h
    go_enter Tryz.func8, Tryz.ntmps8
    go_wp2_with (first
      | (go_at_call 11; first
        | ((with_reducible refine (G1.out _ (HP.out.below HB.out)).mono ?_); rintro e w1 ⟨rfl, b1⟩; have l1' := on (on HB.out b1) (alloc_below w1 (.cells #[.int .i64 c1, .bool g1, .string l1, .int .i64 x1] 23)); have ta := (TA.out.below b1).alloc (.cells #[.int .i64 c1, .bool g1, .string l1, .int .i64 x1] 23); have tb := (TB.out.below b1).alloc (.cells #[.int .i64 c1, .bool g1, .string l1, .int .i64 x1] 23); have tp := (TP.out.below b1).alloc (.cells #[.int .i64 c1, .bool g1, .string l1, .int .i64 x1] 23); have tx := Bk.start w1 23 #[.int .i64 c1, .bool g1, .string l1, .int .i64 x1]; have ka := four ta; have kb := four tb; have kp := pair tp)
        | ((with_reducible refine (G2.out _ (HP.out.below l1')).mono ?_); rintro e w2 ⟨rfl, b2⟩; have l2' := on (on l1' b2) (alloc_below w2 (.cells #[.int .i64 c2, .bool g2, .string l2, .int .i64 x2] 23)); have ua := (ta.below b2).alloc (.cells #[.int .i64 c2, .bool g2, .string l2, .int .i64 x2] 23); have ub := (tb.below b2).alloc (.cells #[.int .i64 c2, .bool g2, .string l2, .int .i64 x2] 23); have ux := (tx.below b2).alloc (.cells #[.int .i64 c2, .bool g2, .string l2, .int .i64 x2] 23); have uy := Bk.start w2 23 #[.int .i64 c2, .bool g2, .string l2, .int .i64 x2]))
      | (go_at_call 13; (with_reducible refine (HA.out _ l2').mono ?_); rintro e w3 ⟨rfl, b3⟩; have l3' := on l2' b3; have va := ua.below b3; have vb := ub.below b3; have vx := ux.below b3; have vy := uy.below b3; have ma := four va; have mb := four vb))
    go_ret
    exact ⟨rfl, l3'⟩
  · have d1 := eqB k1
    clear h
    go_enter Tryz.func8, Tryz.ntmps8
    go_wp2_with (first
      | (go_at_call 11; first
        | ((with_reducible refine (G1.out _ (HP.out.below HB.out)).mono ?_); rintro e w1 ⟨rfl, b1⟩; have l1' := on (on HB.out b1) (alloc_below w1 (.cells #[.int .i64 c1, .bool g1, .string l1, .int .i64 x1] 23)); have ta := (TA.out.below b1).alloc (.cells #[.int .i64 c1, .bool g1, .string l1, .int .i64 x1] 23); have tb := (TB.out.below b1).alloc (.cells #[.int .i64 c1, .bool g1, .string l1, .int .i64 x1] 23); have tp := (TP.out.below b1).alloc (.cells #[.int .i64 c1, .bool g1, .string l1, .int .i64 x1] 23); have tx := Bk.start w1 23 #[.int .i64 c1, .bool g1, .string l1, .int .i64 x1]; have ka := four ta; have kb := four tb; have kp := pair tp)
        | ((with_reducible refine (G2.out _ (HP.out.below l1')).mono ?_); rintro e w2 ⟨rfl, b2⟩; have l2' := on (on l1' b2) (alloc_below w2 (.cells #[.int .i64 c2, .bool g2, .string l2, .int .i64 x2] 23)); have ua := (ta.below b2).alloc (.cells #[.int .i64 c2, .bool g2, .string l2, .int .i64 x2] 23); have ub := (tb.below b2).alloc (.cells #[.int .i64 c2, .bool g2, .string l2, .int .i64 x2] 23); have ux := (tx.below b2).alloc (.cells #[.int .i64 c2, .bool g2, .string l2, .int .i64 x2] 23); have uy := Bk.start w2 23 #[.int .i64 c2, .bool g2, .string l2, .int .i64 x2]))
      | (go_at_call 13; (with_reducible refine (HA.out _ l2').mono ?_); rintro e w3 ⟨rfl, b3⟩; have l3' := on l2' b3; have va := ua.below b3; have vb := ub.below b3; have vx := ux.below b3; have vy := uy.below b3; have ma := four va; have mb := four vb))
    go_ret
    exact ⟨rfl, l3'⟩
set_option maxHeartbeats 8000000 in
set_option maxRecDepth 100000 in
theorem rises_on (ca : Int) (ga : Bool) (sa : ByteArray) (xa cb : Int) (gb : Bool) (sb : ByteArray) (xb pl mo c1 : Int) (g1 : Bool) (l1 : ByteArray) (x1 e1 c2 : Int) (g2 : Bool) (l2 : ByteArray) (x2 e2 : Int) (way now : Int) (w : World) (hp : Pow w)
    (H1 : ∀ w1, Pow w1 → Calls Tryz.prog 11 #[.agg #[.int .i64 ca, .bool ga, .string sa, .int .i64 xa], .int .i64 pl, .int .i64 mo] w1 fun e w' => e = .returned (.tuple #[.agg #[.int .i64 c1, .bool g1, .string l1, .int .i64 x1], .int .i64 e1]) ∧ Below w1.heap.size w1 w')
    (H2 : ∀ w1, Pow w1 → Calls Tryz.prog 11 #[.agg #[.int .i64 cb, .bool gb, .string sb, .int .i64 xb], .int .i64 pl, .int .i64 mo] w1 fun e w' => e = .returned (.tuple #[.agg #[.int .i64 c2, .bool g2, .string l2, .int .i64 x2], .int .i64 e2]) ∧ Below w1.heap.size w1 w') (h1 : e1 = 0) (h2 : e2 = 0)
    (K1 : ∀ w1, Calls Tryz.prog 22 #[.agg #[.int .i64 ca, .bool ga, .string sa, .int .i64 xa], .agg #[.int .i64 cb, .bool gb, .string sb, .int .i64 xb]] w1 fun e w' => e = .returned (.tuple #[.int .i64 way, .int .i64 0]) ∧ Below w1.heap.size w1 w')
    (K2 : ∀ w1, Calls Tryz.prog 22 #[.agg #[.int .i64 c1, .bool g1, .string l1, .int .i64 x1], .agg #[.int .i64 c2, .bool g2, .string l2, .int .i64 x2]] w1 fun e w' => e = .returned (.tuple #[.int .i64 now, .int .i64 0]) ∧ Below w1.heap.size w1 w')
    (hc : (0 < way ∨ now ≤ 0) ∧ (way < 0 ∨ 0 ≤ now)) :
    Calls Tryz.prog 8 #[.agg #[.int .i64 ca, .bool ga, .string sa, .int .i64 xa], .agg #[.int .i64 cb, .bool gb, .string sb, .int .i64 xb], .agg #[.int .i64 pl, .int .i64 mo]] w fun e w' => e = .returned (.bool true) ∧ Below w.heap.size w w' := by
  obtain ⟨A0, B0, P0, b0⟩ := bk_three w #[.int .i64 ca, .bool ga, .string sa, .int .i64 xa] #[.int .i64 cb, .bool gb, .string sb, .int .i64 xb] #[.int .i64 pl, .int .i64 mo] 23 23 36
  have HP := Lib.hid hp
  have HA := Lib.hid (fun W (bl : Below w.heap.size w W) => awake_calls W (hp.below bl))
  have G1 := Lib.hid H1
  have G2 := Lib.hid H2
  have HB := Lib.hid b0
  have TA := Lib.hid A0
  have TB := Lib.hid B0
  have TP := Lib.hid P0
  clear hp b0 H1 H2 A0 B0 P0
  subst h1
  subst h2
  have C1 := Lib.hid K1
  have C2 := Lib.hid K2
  obtain ⟨hc1, hc2⟩ := hc
  clear K1 K2
  by_cases k1 : 0 < way
  · have d1 := decide_eq_true k1
    have k2 : ¬ way < 0 := by omega
    have d2 := decide_eq_false k2
    have k3 : 0 ≤ now := hc2.resolve_left k2
    have d3 := decide_eq_true k3
    clear hc1 hc2
    go_enter Tryz.func8, Tryz.ntmps8
    go_wp2_with (first
      | (go_at_call 11; first
        | ((with_reducible refine (G1.out _ (HP.out.below HB.out)).mono ?_); rintro e w1 ⟨rfl, b1⟩; have l1' := on (on HB.out b1) (alloc_below w1 (.cells #[.int .i64 c1, .bool g1, .string l1, .int .i64 x1] 23)); have ta := (TA.out.below b1).alloc (.cells #[.int .i64 c1, .bool g1, .string l1, .int .i64 x1] 23); have tb := (TB.out.below b1).alloc (.cells #[.int .i64 c1, .bool g1, .string l1, .int .i64 x1] 23); have tp := (TP.out.below b1).alloc (.cells #[.int .i64 c1, .bool g1, .string l1, .int .i64 x1] 23); have tx := Bk.start w1 23 #[.int .i64 c1, .bool g1, .string l1, .int .i64 x1]; have ka := four ta; have kb := four tb; have kp := pair tp)
        | ((with_reducible refine (G2.out _ (HP.out.below l1')).mono ?_); rintro e w2 ⟨rfl, b2⟩; have l2' := on (on l1' b2) (alloc_below w2 (.cells #[.int .i64 c2, .bool g2, .string l2, .int .i64 x2] 23)); have ua := (ta.below b2).alloc (.cells #[.int .i64 c2, .bool g2, .string l2, .int .i64 x2] 23); have ub := (tb.below b2).alloc (.cells #[.int .i64 c2, .bool g2, .string l2, .int .i64 x2] 23); have ux := (tx.below b2).alloc (.cells #[.int .i64 c2, .bool g2, .string l2, .int .i64 x2] 23); have uy := Bk.start w2 23 #[.int .i64 c2, .bool g2, .string l2, .int .i64 x2]))
      | (go_at_call 13; (with_reducible refine (HA.out _ l2').mono ?_); rintro e w3 ⟨rfl, b3⟩; have l3' := on l2' b3; have va := ua.below b3; have vb := ub.below b3; have vx := ux.below b3; have vy := uy.below b3; have ma := four va; have mb := four vb)
      | (go_at_call 22; first
        | ((with_reducible refine (C1.out w3).mono ?_); rintro e w4 ⟨rfl, b4⟩; have nx := four (vx.below b4); have ny := four (vy.below b4))
        | ((with_reducible refine (C2.out w4).mono ?_); rintro e w5 ⟨rfl, b5⟩; have l5' := on (on l3' b4) b5)))
    go_ret
    exact ⟨rfl, l5'⟩
  · have d1 := decide_eq_false k1
    have k4 : now ≤ 0 := hc1.resolve_left k1
    have d4 := decide_eq_true k4
    by_cases k2 : way < 0
    · have d2 := decide_eq_true k2
      clear hc1 hc2
      go_enter Tryz.func8, Tryz.ntmps8
      go_wp2_with (first
        | (go_at_call 11; first
          | ((with_reducible refine (G1.out _ (HP.out.below HB.out)).mono ?_); rintro e w1 ⟨rfl, b1⟩; have l1' := on (on HB.out b1) (alloc_below w1 (.cells #[.int .i64 c1, .bool g1, .string l1, .int .i64 x1] 23)); have ta := (TA.out.below b1).alloc (.cells #[.int .i64 c1, .bool g1, .string l1, .int .i64 x1] 23); have tb := (TB.out.below b1).alloc (.cells #[.int .i64 c1, .bool g1, .string l1, .int .i64 x1] 23); have tp := (TP.out.below b1).alloc (.cells #[.int .i64 c1, .bool g1, .string l1, .int .i64 x1] 23); have tx := Bk.start w1 23 #[.int .i64 c1, .bool g1, .string l1, .int .i64 x1]; have ka := four ta; have kb := four tb; have kp := pair tp)
          | ((with_reducible refine (G2.out _ (HP.out.below l1')).mono ?_); rintro e w2 ⟨rfl, b2⟩; have l2' := on (on l1' b2) (alloc_below w2 (.cells #[.int .i64 c2, .bool g2, .string l2, .int .i64 x2] 23)); have ua := (ta.below b2).alloc (.cells #[.int .i64 c2, .bool g2, .string l2, .int .i64 x2] 23); have ub := (tb.below b2).alloc (.cells #[.int .i64 c2, .bool g2, .string l2, .int .i64 x2] 23); have ux := (tx.below b2).alloc (.cells #[.int .i64 c2, .bool g2, .string l2, .int .i64 x2] 23); have uy := Bk.start w2 23 #[.int .i64 c2, .bool g2, .string l2, .int .i64 x2]))
        | (go_at_call 13; (with_reducible refine (HA.out _ l2').mono ?_); rintro e w3 ⟨rfl, b3⟩; have l3' := on l2' b3; have va := ua.below b3; have vb := ub.below b3; have vx := ux.below b3; have vy := uy.below b3; have ma := four va; have mb := four vb)
        | (go_at_call 22; first
          | ((with_reducible refine (C1.out w3).mono ?_); rintro e w4 ⟨rfl, b4⟩; have nx := four (vx.below b4); have ny := four (vy.below b4))
          | ((with_reducible refine (C2.out w4).mono ?_); rintro e w5 ⟨rfl, b5⟩; have l5' := on (on l3' b4) b5)))
      go_ret
      exact ⟨rfl, l5'⟩
    · have d2 := decide_eq_false k2
      have k3 : 0 ≤ now := hc2.resolve_left k2
      have d3 := decide_eq_true k3
      clear hc1 hc2
      go_enter Tryz.func8, Tryz.ntmps8
      go_wp2_with (first
        | (go_at_call 11; first
          | ((with_reducible refine (G1.out _ (HP.out.below HB.out)).mono ?_); rintro e w1 ⟨rfl, b1⟩; have l1' := on (on HB.out b1) (alloc_below w1 (.cells #[.int .i64 c1, .bool g1, .string l1, .int .i64 x1] 23)); have ta := (TA.out.below b1).alloc (.cells #[.int .i64 c1, .bool g1, .string l1, .int .i64 x1] 23); have tb := (TB.out.below b1).alloc (.cells #[.int .i64 c1, .bool g1, .string l1, .int .i64 x1] 23); have tp := (TP.out.below b1).alloc (.cells #[.int .i64 c1, .bool g1, .string l1, .int .i64 x1] 23); have tx := Bk.start w1 23 #[.int .i64 c1, .bool g1, .string l1, .int .i64 x1]; have ka := four ta; have kb := four tb; have kp := pair tp)
          | ((with_reducible refine (G2.out _ (HP.out.below l1')).mono ?_); rintro e w2 ⟨rfl, b2⟩; have l2' := on (on l1' b2) (alloc_below w2 (.cells #[.int .i64 c2, .bool g2, .string l2, .int .i64 x2] 23)); have ua := (ta.below b2).alloc (.cells #[.int .i64 c2, .bool g2, .string l2, .int .i64 x2] 23); have ub := (tb.below b2).alloc (.cells #[.int .i64 c2, .bool g2, .string l2, .int .i64 x2] 23); have ux := (tx.below b2).alloc (.cells #[.int .i64 c2, .bool g2, .string l2, .int .i64 x2] 23); have uy := Bk.start w2 23 #[.int .i64 c2, .bool g2, .string l2, .int .i64 x2]))
        | (go_at_call 13; (with_reducible refine (HA.out _ l2').mono ?_); rintro e w3 ⟨rfl, b3⟩; have l3' := on l2' b3; have va := ua.below b3; have vb := ub.below b3; have vx := ux.below b3; have vy := uy.below b3; have ma := four va; have mb := four vb)
        | (go_at_call 22; first
          | ((with_reducible refine (C1.out w3).mono ?_); rintro e w4 ⟨rfl, b4⟩; have nx := four (vx.below b4); have ny := four (vy.below b4))
          | ((with_reducible refine (C2.out w4).mono ?_); rintro e w5 ⟨rfl, b5⟩; have l5' := on (on l3' b4) b5)))
      go_ret
      exact ⟨rfl, l5'⟩
theorem roundRises_calls (ca : Int) (ga : Bool) (la : List UInt8) (xa cb : Int) (gb : Bool) (lb : List UInt8) (xb pl mo : Int) (w : World) (hp : Pow w) (hla : la.length ≤ 9223372036854775807) (hlb : lb.length ≤ 9223372036854775807) :
    Calls Tryz.prog 8 #[.agg (dec ca ga la xa), .agg (dec cb gb lb xb), .agg #[.int .i64 pl, .int .i64 mo]] w fun e w' => e = .returned (.bool true) ∧ Below w.heap.size w w' := by
  have HX := fun w1 hp => at_calls ca ga la xa pl mo w1 hp hla
  have HY := fun w1 hp => at_calls cb gb lb xb pl mo w1 hp hlb
  unfold Res at HX HY
  by_cases ho : (atV ca ga la xa pl mo).2 ≠ 0 ∨ (atV cb gb lb xb pl mo).2 ≠ 0
  · obtain ⟨c1, g1, l1, x1, ex⟩ := atV_four ca ga la xa pl mo
    obtain ⟨c2, g2, l2, x2, ey⟩ := atV_four cb gb lb xb pl mo
    rw [ex] at HX
    rw [ey] at HY
    exact rises_off ca ga ⟨la.toArray⟩ xa cb gb ⟨lb.toArray⟩ xb pl mo c1 g1 l1 x1 _ c2 g2 l2 x2 _ w hp HX HY ho
  · have e1 : (atV ca ga la xa pl mo).2 = 0 := Classical.byContradiction fun k => ho (.inl k)
    have e2 : (atV cb gb lb xb pl mo).2 = 0 := Classical.byContradiction fun k => ho (.inr k)
    have dig : ∀ {c : Int} {g : Bool} {l : List UInt8} {x : Int}, (atV c g l x pl mo).2 = 0 → mayB c g l x = true ∧ 0 ≤ mo ∧ mo < 8 ∧ -4000 ≤ pl ∧ pl ≤ 4000 := by
      intro c g l x h
      unfold atV at h
      rcases ask_cases (mayB c g l x) mo with ⟨k, _⟩ | ⟨k, _, _⟩ | ⟨k, k1, k2, k3⟩
      · rw [k, if_pos (by decide)] at h; exact absurd h (by decide)
      · rw [k, if_pos (by decide)] at h; exact absurd h (by decide)
      · rw [k, if_neg (by decide)] at h
        by_cases hpl : pl < -4000 ∨ 4000 < pl
        · rw [if_pos hpl] at h; exact absurd h (by decide)
        · exact ⟨k1, k2, k3, by omega, by omega⟩
    obtain ⟨m1, o1, o2, o3, o4⟩ := dig e1
    obtain ⟨m2, _⟩ := dig e2
    rw [atV_ok m1 o1 o2 ⟨o3, o4⟩] at HX e1
    rw [atV_ok m2 o1 o2 ⟨o3, o4⟩] at HY e2
    obtain ⟨mode, rfl⟩ : ∃ mode : Nat, mo = mode := ⟨mo.toNat, by omega⟩
    have len : ∀ {c : Int} {g : Bool} {l : List UInt8} {x : Int}, mayB c g l x = true → l.length ≤ 100000 := by
      intro c g l x h
      by_cases h0 : l = []
      · rw [h0]; decide
      · have := (may_str h h0).2.2.1; omega
    by_cases hfin : ca = 0 ∧ cb = 0
    · obtain ⟨rfl, rfl⟩ := hfin
      have hxb : ∀ {g : Bool} {l : List UInt8} {x : Int}, mayB 0 g l x = true → l ≠ [] → -10000 ≤ x := by
        intro g l x h h0
        obtain ⟨_, _, f1, f2, _⟩ := may_str h h0
        omega
      have b1 : la ≠ [] → (-10000 : Int) ≤ xa := hxb m1
      have b2 : lb ≠ [] → (-10000 : Int) ≤ xb := hxb m2
      obtain ⟨l1, x1, f1, f2, f3, f4⟩ := fin_amt (E := -10000) m1 b1 (by omega) e1
      obtain ⟨l2, x2, i1, i2, i3, i4⟩ := fin_amt (E := -10000) m2 b2 (by omega) e2
      rw [f1] at HX
      rw [i1] at HY
      have K1 := fun w1 => cmp_fin ga gb la lb xa xb (-10000) w1 m1 m2 b1 b2
      have K2 := fun w1 => cmp_fin ga gb l1 l2 x1 x2 (-10000) w1 f2 i2 f3 i3
      rw [f4, i4] at K2
      have hU : 0 < 10 ^ (pl - -10000).toNat := Nat.pow_pos (by omega)
      generalize 10 ^ (pl - -10000).toNat = U at *
      have hr := rises_asked (mode := mode) (g := ga) (g' := gb) (A := amt la xa (-10000)) (B := amt lb xb (-10000)) hU
      rw [← order_scale ga gb (rnd mode ga (amt la xa (-10000)) U) (rnd mode gb (amt lb xb (-10000)) U) hU] at hr
      exact rises_on 0 ga ⟨la.toArray⟩ xa 0 gb ⟨lb.toArray⟩ xb pl mode 0 ga ⟨l1.toArray⟩ x1 _ 0 gb ⟨l2.toArray⟩ x2 _ _ _ w hp HX HY e1 e2 K1 K2 hr
    · have own : ∀ {c : Int} {g : Bool} {l : List UInt8} {x : Int}, mayB c g l x = true → (fin mode c g l x pl).2 = 0 → ∃ l' x', (fin mode c g l x pl).1 = dec c g l' x' ∧ mayB c g l' x' = true := by
        intro c g l x h h2
        by_cases h0 : l = []
        · subst h0; exact ⟨[], x, by rw [fin_nil], h⟩
        · obtain ⟨rfl, _⟩ := may_str h h0
          rw [fin_some h0] at h2 ⊢
          cases hq : pw (mode : Int).toNat g l x pl with
          | none => rw [hq] at h2; cases h2
          | some p => exact ⟨p.1, p.2, rfl, (mayB_iff ..).2 (told_may (g := g) (V := rto (mode : Int).toNat g (nv 0 l) x 1 pl) (E := pl) hq)⟩
      obtain ⟨l1, x1, f1, f2⟩ := own m1 e1
      obtain ⟨l2, x2, i1, i2⟩ := own m2 e2
      rw [f1] at HX
      rw [i1] at HY
      have hkey : Lib.compareInt (keyV ca ga) (keyV cb gb) ≠ 0 ∨ ca ≠ 0 := by
        by_cases hca : ca = 0
        · subst hca
          have hcb : cb ≠ 0 := fun k => hfin ⟨rfl, k⟩
          exact .inl (cmpI_zero (key_ne hcb)).1
        · exact .inr hca
      have K1 := fun w1 => cmp_cls ca cb ga gb la lb xa xb w1 m1 m2 (len m1) (len m2) hkey
      have K2 := fun w1 => cmp_cls ca cb ga gb l1 l2 x1 x2 w1 f2 i2 (len f2) (len i2) hkey
      exact rises_on ca ga ⟨la.toArray⟩ xa cb gb ⟨lb.toArray⟩ xb pl mode ca ga ⟨l1.toArray⟩ x1 _ cb gb ⟨l2.toArray⟩ x2 _ _ _ w hp HX HY e1 e2 K1 K2 ⟨by omega, by omega⟩
end Go.Proofs.YtllpggdmkdgggaaGreatDoor.Dc

/- Layer 6's laws: RoundOrder, where nothing is rounded. -/
set_option linter.unusedSimpArgs false
set_option linter.unusedVariables false
namespace Go.Proofs.YtllpggdmkdgggaaGreatDoor.Dc
open Go.RowKit Go.Proofs.YtllpggdmkdgggaaGreatDoor.Dig Go.Proofs.YtllpggdmkdgggaaGreatDoor.W Go.Proofs.YtllpggdmkdgggaaGreatDoor.Nat Go.Proofs.YtllpggdmkdgggaaGreatDoor.Wh Go.Proofs.YtllpggdmkdgggaaGreatDoor.Td Go.Proofs.YtllpggdmkdgggaaGreatDoor.Bu Go.Proofs.YtllpggdmkdgggaaGreatDoor.Tx Go.Proofs.YtllpggdmkdgggaaGreatDoor.Sp Go.Proofs.YtllpggdmkdgggaaGreatDoor.Rd

/-- what RoundOrder holds: the number, the lowest, the highest -/
structure TO (w V : World) (gl gh : Nat) (cs ds es : Array Value) : Prop where
  a : Bk V w.heap.size 23 cs
  l : Bk V gl 23 ds
  h : Bk V gh 23 es
  bl : Below w.heap.size w V
section
variable {w V V' : World} {gl gh : Nat} {cs ds es : Array Value} {a0 a1 a2 a3 b0 b1 b2 b3 c0 c1 c2 c3 : Value}
theorem TO.below (h : TO w V gl gh cs ds es) (hb : Below V.heap.size V V') : TO w V' gl gh cs ds es := ⟨h.a.below hb, h.l.below hb, h.h.below hb, on h.bl hb⟩
theorem TO.drew (h : TO w V gl gh cs ds es) : TO w V.drew gl gh cs ds es := ⟨h.a.drew, h.l.drew, h.h.drew, h.bl.drew⟩
theorem TO.alloc (h : TO w V gl gh cs ds es) (o : Obj) : TO w (V.alloc o) gl gh cs ds es := h.below (alloc_below _ _)
theorem TO.keep (h : TO w V gl gh #[a0, a1, a2, a3] #[b0, b1, b2, b3] #[c0, c1, c2, c3]) : V.cell? ⟨w.heap.size, 0, none⟩ = some a0 ∧ V.cell? ⟨w.heap.size, 1, none⟩ = some a1 ∧ V.cell? ⟨w.heap.size, 2, none⟩ = some a2 ∧ V.cell? ⟨w.heap.size, 3, none⟩ = some a3 ∧
  V.cell? ⟨gl, 0, none⟩ = some b0 ∧ V.cell? ⟨gl, 1, none⟩ = some b1 ∧ V.cell? ⟨gl, 2, none⟩ = some b2 ∧ V.cell? ⟨gl, 3, none⟩ = some b3 ∧
  V.cell? ⟨gh, 0, none⟩ = some c0 ∧ V.cell? ⟨gh, 1, none⟩ = some c1 ∧ V.cell? ⟨gh, 2, none⟩ = some c2 ∧ V.cell? ⟨gh, 3, none⟩ = some c3 := ⟨h.a.at_ 0 rfl, h.a.at_ 1 rfl, h.a.at_ 2 rfl, h.a.at_ 3 rfl, h.l.at_ 0 rfl, h.l.at_ 1 rfl, h.l.at_ 2 rfl, h.l.at_ 3 rfl, h.h.at_ 0 rfl, h.h.at_ 1 rfl, h.h.at_ 2 rfl, h.h.at_ 3 rfl⟩
end
attribute [local go_sem ↓] eq_dec ne_dec
set_option maxHeartbeats 32000000 in
set_option maxRecDepth 100000 in
theorem order_same_p (c : Int) (S : ByteArray) (x place : Int) (w : World) (hp : Pow w)
    (HM : ∀ (m : Nat) w1, m < 8 → Pow w1 → Calls Tryz.prog 11 #[.agg #[.int .i64 c, .bool false, .string S, .int .i64 x], .int .i64 place, .int .i64 (m : Nat)] w1 fun e w' => e = .returned (.tuple #[.agg #[.int .i64 c, .bool false, .string S, .int .i64 x], .int .i64 0]) ∧ Below w1.heap.size w1 w')
    (HL : ∀ w1, Calls Tryz.prog 23 #[.agg #[.int .i64 c, .bool false, .string S, .int .i64 x], .agg #[.int .i64 c, .bool false, .string S, .int .i64 x]] w1 fun e w' => e = .returned (.bool false) ∧ Below w1.heap.size w1 w') :
    Calls Tryz.prog 9 #[.agg #[.int .i64 c, .bool false, .string S, .int .i64 x], .int .i64 place] w fun e w' => e = .returned (.bool true) ∧ Below w.heap.size w w' := by
  have D0 := Lib.hid (Bk.start w 23 #[.int .i64 c, .bool false, .string S, .int .i64 x])
  have b0 := alloc_below w (.cells #[.int .i64 c, .bool false, .string S, .int .i64 x] 23)
  have HA := Lib.hid (awake_calls _ (hp.below b0))
  have PW := Lib.hid hp
  have B0 := Lib.hid b0
  have HF : Hid (∀ w1, Pow w1 → Calls Tryz.prog 11 #[.agg #[.int .i64 c, .bool false, .string S, .int .i64 x], .int .i64 place, .int .i64 1] w1 fun e w' => e = .returned (.tuple #[.agg #[.int .i64 c, .bool false, .string S, .int .i64 x], .int .i64 0]) ∧ Below w1.heap.size w1 w') := fun w1 hp => HM 1 w1 (by omega) hp
  have HC : Hid (∀ w1, Pow w1 → Calls Tryz.prog 11 #[.agg #[.int .i64 c, .bool false, .string S, .int .i64 x], .int .i64 place, .int .i64 0] w1 fun e w' => e = .returned (.tuple #[.agg #[.int .i64 c, .bool false, .string S, .int .i64 x], .int .i64 0]) ∧ Below w1.heap.size w1 w') := fun w1 hp => HM 0 w1 (by omega) hp
  have H2 : Hid (∀ w1, Pow w1 → Calls Tryz.prog 11 #[.agg #[.int .i64 c, .bool false, .string S, .int .i64 x], .int .i64 place, .int .i64 2] w1 fun e w' => e = .returned (.tuple #[.agg #[.int .i64 c, .bool false, .string S, .int .i64 x], .int .i64 0]) ∧ Below w1.heap.size w1 w') := fun w1 hp => HM 2 w1 (by omega) hp
  have H3 : Hid (∀ w1, Pow w1 → Calls Tryz.prog 11 #[.agg #[.int .i64 c, .bool false, .string S, .int .i64 x], .int .i64 place, .int .i64 3] w1 fun e w' => e = .returned (.tuple #[.agg #[.int .i64 c, .bool false, .string S, .int .i64 x], .int .i64 0]) ∧ Below w1.heap.size w1 w') := fun w1 hp => HM 3 w1 (by omega) hp
  have HM' := Lib.hid HM
  clear HM
  have HL' := Lib.hid HL
  clear hp b0 HL
  go_enter Tryz.func9, Tryz.ntmps9
  go_wp2_with (first
    | (go_at_call 13; (with_reducible refine HA.out.mono ?_); rintro e w1 ⟨rfl, b1⟩; have d1 := D0.out.below b1; have k1 := four d1)
    | (go_at_call 11; first
      | ((with_reducible refine (HF.out w1 (PW.out.below (on B0.out b1))).mono ?_); rintro e w2 ⟨rfl, b2⟩; have d2 := (d1.below b2).alloc (.cells #[.int .i64 c, .bool false, .string S, .int .i64 x] 23); have k2 := four d2; have l2 := on (on (on B0.out b1) b2) (alloc_below w2 (.cells #[.int .i64 c, .bool false, .string S, .int .i64 x] 23)))
      | ((with_reducible refine (HC.out _ (PW.out.below l2)).mono ?_); rintro e w3 ⟨rfl, b3⟩)))
  have Z : TO w (w3.alloc (.cells #[.int .i64 c, .bool false, .string S, .int .i64 x] 23)) w2.heap.size w3.heap.size #[.int .i64 c, .bool false, .string S, .int .i64 x] #[.int .i64 c, .bool false, .string S, .int .i64 x] #[.int .i64 c, .bool false, .string S, .int .i64 x] :=
    ⟨(d2.below b3).alloc _, ((Bk.start w2 23 #[.int .i64 c, .bool false, .string S, .int .i64 x]).below b3).alloc _, Bk.start w3 _ _, on (on l2 b3) (alloc_below w3 _)⟩
  generalize w3.alloc (.cells #[.int .i64 c, .bool false, .string S, .int .i64 x] 23) = V at *
  generalize w3.heap.size = gh at *
  generalize w2.heap.size = gl at *
  clear k1 k2 d1 d2 b1 b2 b3 l2
  go_loopw [9] (fun z wr => ∃ i : Nat, z = .int .i64 (i : Nat) ∧ i ≤ 8 ∧ TO w wr gl gh #[.int .i64 c, .bool false, .string S, .int .i64 x] #[.int .i64 c, .bool false, .string S, .int .i64 x] #[.int .i64 c, .bool false, .string S, .int .i64 x]) (fun z _ => 8 - (intOf z).toNat)
  case atStart => exact ⟨0, rfl, by omega, Z⟩
  case round =>
    obtain ⟨i, rfl, hi, Z1⟩ := hrel
    have k := Z1.keep
    by_cases hi8 : i < 8
    · skip
      by_cases i2 : i = 2
      · subst i2
        go_upto_region 13 with (go_at_call 11; (with_reducible refine (H2.out wr (PW.out.below Z1.bl)).mono ?_); rintro e w4 ⟨rfl, b4⟩; have Z4 := (Z1.below b4).alloc (.cells #[.int .i64 c, .bool false, .string S, .int .i64 x] 23); have k4 := Z4.keep; have X4 := four (Bk.start w4 23 #[.int .i64 c, .bool false, .string S, .int .i64 x]))
        have y0 := Z4.drew
        have yZ := (Z4.alloc (.cells #[.int .i64 0, .bool false, .string ⟨#[]⟩, .int .i64 0] 23)).drew
        have yLO := (Z4.alloc (.cells #[.int .i64 c, .bool false, .string S, .int .i64 x] 23)).drew
        have yHI := (Z4.alloc (.cells #[.int .i64 c, .bool false, .string S, .int .i64 x] 23)).drew
        have yZZ := ((Z4.alloc (.cells #[.int .i64 0, .bool false, .string ⟨#[]⟩, .int .i64 0] 23)).alloc (.cells #[.int .i64 0, .bool false, .string ⟨#[]⟩, .int .i64 0] 23)).drew
        have yZLO := ((Z4.alloc (.cells #[.int .i64 0, .bool false, .string ⟨#[]⟩, .int .i64 0] 23)).alloc (.cells #[.int .i64 c, .bool false, .string S, .int .i64 x] 23)).drew
        have yZHI := ((Z4.alloc (.cells #[.int .i64 0, .bool false, .string ⟨#[]⟩, .int .i64 0] 23)).alloc (.cells #[.int .i64 c, .bool false, .string S, .int .i64 x] 23)).drew
        have yLOZ := ((Z4.alloc (.cells #[.int .i64 c, .bool false, .string S, .int .i64 x] 23)).alloc (.cells #[.int .i64 0, .bool false, .string ⟨#[]⟩, .int .i64 0] 23)).drew
        have yLOLO := ((Z4.alloc (.cells #[.int .i64 c, .bool false, .string S, .int .i64 x] 23)).alloc (.cells #[.int .i64 c, .bool false, .string S, .int .i64 x] 23)).drew
        have yLOHI := ((Z4.alloc (.cells #[.int .i64 c, .bool false, .string S, .int .i64 x] 23)).alloc (.cells #[.int .i64 c, .bool false, .string S, .int .i64 x] 23)).drew
        have yHIZ := ((Z4.alloc (.cells #[.int .i64 c, .bool false, .string S, .int .i64 x] 23)).alloc (.cells #[.int .i64 0, .bool false, .string ⟨#[]⟩, .int .i64 0] 23)).drew
        have yHILO := ((Z4.alloc (.cells #[.int .i64 c, .bool false, .string S, .int .i64 x] 23)).alloc (.cells #[.int .i64 c, .bool false, .string S, .int .i64 x] 23)).drew
        have yHIHI := ((Z4.alloc (.cells #[.int .i64 c, .bool false, .string S, .int .i64 x] 23)).alloc (.cells #[.int .i64 c, .bool false, .string S, .int .i64 x] 23)).drew
        clear k k4
        go_region_held3 (fun w' => w'.cell? ⟨w.heap.size, 0, none⟩ = some (.int .i64 c) ∧ w'.cell? ⟨w.heap.size, 1, none⟩ = some (.bool false) ∧ w'.cell? ⟨w.heap.size, 2, none⟩ = some (.string S) ∧ w'.cell? ⟨w.heap.size, 3, none⟩ = some (.int .i64 x) ∧ w'.cell? ⟨gl, 0, none⟩ = some (.int .i64 c) ∧ w'.cell? ⟨gl, 1, none⟩ = some (.bool false) ∧ w'.cell? ⟨gl, 2, none⟩ = some (.string S) ∧ w'.cell? ⟨gl, 3, none⟩ = some (.int .i64 x) ∧ w'.cell? ⟨gh, 0, none⟩ = some (.int .i64 c) ∧ w'.cell? ⟨gh, 1, none⟩ = some (.bool false) ∧ w'.cell? ⟨gh, 2, none⟩ = some (.string S) ∧ w'.cell? ⟨gh, 3, none⟩ = some (.int .i64 x))
          (first
            | (with_reducible exact y0.keep)
            | (with_reducible exact yZ.keep)
            | (with_reducible exact yLO.keep)
            | (with_reducible exact yHI.keep)
            | (with_reducible exact yZZ.keep)
            | (with_reducible exact yZLO.keep)
            | (with_reducible exact yZHI.keep)
            | (with_reducible exact yLOZ.keep)
            | (with_reducible exact yLOLO.keep)
            | (with_reducible exact yLOHI.keep)
            | (with_reducible exact yHIZ.keep)
            | (with_reducible exact yHILO.keep)
            | (with_reducible exact yHIHI.keep))
          (fail)
        all_goals
          obtain ⟨pLO1, pLO2, pLO3, _⟩ := bk_three w4 #[.int .i64 c, .bool false, .string S, .int .i64 x] #[.int .i64 c, .bool false, .string S, .int .i64 x] #[.int .i64 c, .bool false, .string S, .int .i64 x] 23 23 23
          have fLO1 := four pLO1.drew
          have fLO2 := four pLO2.drew
          have fLO3 := four pLO3.drew
          have cLO := yLOHI.keep
          obtain ⟨pHI1, pHI2, pHI3, _⟩ := bk_three w4 #[.int .i64 c, .bool false, .string S, .int .i64 x] #[.int .i64 c, .bool false, .string S, .int .i64 x] #[.int .i64 c, .bool false, .string S, .int .i64 x] 23 23 23
          have fHI1 := four pHI1.drew
          have fHI2 := four pHI2.drew
          have fHI3 := four pHI3.drew
          have cHI := yHILO.keep
          go_wp2
          go_roundw
          case rel => first | exact ⟨3, rfl, by omega, yLOHI⟩ | exact ⟨3, rfl, by omega, yHILO⟩
          case measure => first | (simp [intOf]; done) | (simp [intOf]; omega)
      · by_cases i3 : i = 3
        · subst i3
          go_upto_region 13 with (go_at_call 11; (with_reducible refine (H3.out wr (PW.out.below Z1.bl)).mono ?_); rintro e w4 ⟨rfl, b4⟩; have Z4 := (Z1.below b4).alloc (.cells #[.int .i64 c, .bool false, .string S, .int .i64 x] 23); have k4 := Z4.keep; have X4 := four (Bk.start w4 23 #[.int .i64 c, .bool false, .string S, .int .i64 x]))
          have y0 := Z4.drew
          have yZ := (Z4.alloc (.cells #[.int .i64 0, .bool false, .string ⟨#[]⟩, .int .i64 0] 23)).drew
          have yLO := (Z4.alloc (.cells #[.int .i64 c, .bool false, .string S, .int .i64 x] 23)).drew
          have yHI := (Z4.alloc (.cells #[.int .i64 c, .bool false, .string S, .int .i64 x] 23)).drew
          have yZZ := ((Z4.alloc (.cells #[.int .i64 0, .bool false, .string ⟨#[]⟩, .int .i64 0] 23)).alloc (.cells #[.int .i64 0, .bool false, .string ⟨#[]⟩, .int .i64 0] 23)).drew
          have yZLO := ((Z4.alloc (.cells #[.int .i64 0, .bool false, .string ⟨#[]⟩, .int .i64 0] 23)).alloc (.cells #[.int .i64 c, .bool false, .string S, .int .i64 x] 23)).drew
          have yZHI := ((Z4.alloc (.cells #[.int .i64 0, .bool false, .string ⟨#[]⟩, .int .i64 0] 23)).alloc (.cells #[.int .i64 c, .bool false, .string S, .int .i64 x] 23)).drew
          have yLOZ := ((Z4.alloc (.cells #[.int .i64 c, .bool false, .string S, .int .i64 x] 23)).alloc (.cells #[.int .i64 0, .bool false, .string ⟨#[]⟩, .int .i64 0] 23)).drew
          have yLOLO := ((Z4.alloc (.cells #[.int .i64 c, .bool false, .string S, .int .i64 x] 23)).alloc (.cells #[.int .i64 c, .bool false, .string S, .int .i64 x] 23)).drew
          have yLOHI := ((Z4.alloc (.cells #[.int .i64 c, .bool false, .string S, .int .i64 x] 23)).alloc (.cells #[.int .i64 c, .bool false, .string S, .int .i64 x] 23)).drew
          have yHIZ := ((Z4.alloc (.cells #[.int .i64 c, .bool false, .string S, .int .i64 x] 23)).alloc (.cells #[.int .i64 0, .bool false, .string ⟨#[]⟩, .int .i64 0] 23)).drew
          have yHILO := ((Z4.alloc (.cells #[.int .i64 c, .bool false, .string S, .int .i64 x] 23)).alloc (.cells #[.int .i64 c, .bool false, .string S, .int .i64 x] 23)).drew
          have yHIHI := ((Z4.alloc (.cells #[.int .i64 c, .bool false, .string S, .int .i64 x] 23)).alloc (.cells #[.int .i64 c, .bool false, .string S, .int .i64 x] 23)).drew
          clear k k4
          go_region_held3 (fun w' => w'.cell? ⟨w.heap.size, 0, none⟩ = some (.int .i64 c) ∧ w'.cell? ⟨w.heap.size, 1, none⟩ = some (.bool false) ∧ w'.cell? ⟨w.heap.size, 2, none⟩ = some (.string S) ∧ w'.cell? ⟨w.heap.size, 3, none⟩ = some (.int .i64 x) ∧ w'.cell? ⟨gl, 0, none⟩ = some (.int .i64 c) ∧ w'.cell? ⟨gl, 1, none⟩ = some (.bool false) ∧ w'.cell? ⟨gl, 2, none⟩ = some (.string S) ∧ w'.cell? ⟨gl, 3, none⟩ = some (.int .i64 x) ∧ w'.cell? ⟨gh, 0, none⟩ = some (.int .i64 c) ∧ w'.cell? ⟨gh, 1, none⟩ = some (.bool false) ∧ w'.cell? ⟨gh, 2, none⟩ = some (.string S) ∧ w'.cell? ⟨gh, 3, none⟩ = some (.int .i64 x))
            (first
              | (with_reducible exact y0.keep)
              | (with_reducible exact yZ.keep)
              | (with_reducible exact yLO.keep)
              | (with_reducible exact yHI.keep)
              | (with_reducible exact yZZ.keep)
              | (with_reducible exact yZLO.keep)
              | (with_reducible exact yZHI.keep)
              | (with_reducible exact yLOZ.keep)
              | (with_reducible exact yLOLO.keep)
              | (with_reducible exact yLOHI.keep)
              | (with_reducible exact yHIZ.keep)
              | (with_reducible exact yHILO.keep)
              | (with_reducible exact yHIHI.keep))
            (fail)
          all_goals
            obtain ⟨pLO1, pLO2, pLO3, _⟩ := bk_three w4 #[.int .i64 c, .bool false, .string S, .int .i64 x] #[.int .i64 c, .bool false, .string S, .int .i64 x] #[.int .i64 c, .bool false, .string S, .int .i64 x] 23 23 23
            have fLO1 := four pLO1.drew
            have fLO2 := four pLO2.drew
            have fLO3 := four pLO3.drew
            have cLO := yLOHI.keep
            obtain ⟨pHI1, pHI2, pHI3, _⟩ := bk_three w4 #[.int .i64 c, .bool false, .string S, .int .i64 x] #[.int .i64 c, .bool false, .string S, .int .i64 x] #[.int .i64 c, .bool false, .string S, .int .i64 x] 23 23 23
            have fHI1 := four pHI1.drew
            have fHI2 := four pHI2.drew
            have fHI3 := four pHI3.drew
            have cHI := yHILO.keep
            go_wp2
            go_roundw
            case rel => first | exact ⟨4, rfl, by omega, yLOHI⟩ | exact ⟨4, rfl, by omega, yHILO⟩
            case measure => first | (simp [intOf]; done) | (simp [intOf]; omega)
        · have n2 : ((i : Int) == 2) = false := by rw [beq_eq_false_iff_ne]; omega
          have n3 : ((i : Int) == 3) = false := by rw [beq_eq_false_iff_ne]; omega
          go_upto_region 13 with (go_at_call 11; (with_reducible refine (HM'.out i wr hi8 (PW.out.below Z1.bl)).mono ?_); rintro e w4 ⟨rfl, b4⟩; have Z4 := (Z1.below b4).alloc (.cells #[.int .i64 c, .bool false, .string S, .int .i64 x] 23); have k4 := Z4.keep; have X4 := four (Bk.start w4 23 #[.int .i64 c, .bool false, .string S, .int .i64 x]))
          have y0 := Z4.drew
          have yZ := (Z4.alloc (.cells #[.int .i64 0, .bool false, .string ⟨#[]⟩, .int .i64 0] 23)).drew
          have yLO := (Z4.alloc (.cells #[.int .i64 c, .bool false, .string S, .int .i64 x] 23)).drew
          have yHI := (Z4.alloc (.cells #[.int .i64 c, .bool false, .string S, .int .i64 x] 23)).drew
          have yZZ := ((Z4.alloc (.cells #[.int .i64 0, .bool false, .string ⟨#[]⟩, .int .i64 0] 23)).alloc (.cells #[.int .i64 0, .bool false, .string ⟨#[]⟩, .int .i64 0] 23)).drew
          have yZLO := ((Z4.alloc (.cells #[.int .i64 0, .bool false, .string ⟨#[]⟩, .int .i64 0] 23)).alloc (.cells #[.int .i64 c, .bool false, .string S, .int .i64 x] 23)).drew
          have yZHI := ((Z4.alloc (.cells #[.int .i64 0, .bool false, .string ⟨#[]⟩, .int .i64 0] 23)).alloc (.cells #[.int .i64 c, .bool false, .string S, .int .i64 x] 23)).drew
          have yLOZ := ((Z4.alloc (.cells #[.int .i64 c, .bool false, .string S, .int .i64 x] 23)).alloc (.cells #[.int .i64 0, .bool false, .string ⟨#[]⟩, .int .i64 0] 23)).drew
          have yLOLO := ((Z4.alloc (.cells #[.int .i64 c, .bool false, .string S, .int .i64 x] 23)).alloc (.cells #[.int .i64 c, .bool false, .string S, .int .i64 x] 23)).drew
          have yLOHI := ((Z4.alloc (.cells #[.int .i64 c, .bool false, .string S, .int .i64 x] 23)).alloc (.cells #[.int .i64 c, .bool false, .string S, .int .i64 x] 23)).drew
          have yHIZ := ((Z4.alloc (.cells #[.int .i64 c, .bool false, .string S, .int .i64 x] 23)).alloc (.cells #[.int .i64 0, .bool false, .string ⟨#[]⟩, .int .i64 0] 23)).drew
          have yHILO := ((Z4.alloc (.cells #[.int .i64 c, .bool false, .string S, .int .i64 x] 23)).alloc (.cells #[.int .i64 c, .bool false, .string S, .int .i64 x] 23)).drew
          have yHIHI := ((Z4.alloc (.cells #[.int .i64 c, .bool false, .string S, .int .i64 x] 23)).alloc (.cells #[.int .i64 c, .bool false, .string S, .int .i64 x] 23)).drew
          clear k k4
          go_region_held3 (fun w' => w'.cell? ⟨w.heap.size, 0, none⟩ = some (.int .i64 c) ∧ w'.cell? ⟨w.heap.size, 1, none⟩ = some (.bool false) ∧ w'.cell? ⟨w.heap.size, 2, none⟩ = some (.string S) ∧ w'.cell? ⟨w.heap.size, 3, none⟩ = some (.int .i64 x) ∧ w'.cell? ⟨gl, 0, none⟩ = some (.int .i64 c) ∧ w'.cell? ⟨gl, 1, none⟩ = some (.bool false) ∧ w'.cell? ⟨gl, 2, none⟩ = some (.string S) ∧ w'.cell? ⟨gl, 3, none⟩ = some (.int .i64 x) ∧ w'.cell? ⟨gh, 0, none⟩ = some (.int .i64 c) ∧ w'.cell? ⟨gh, 1, none⟩ = some (.bool false) ∧ w'.cell? ⟨gh, 2, none⟩ = some (.string S) ∧ w'.cell? ⟨gh, 3, none⟩ = some (.int .i64 x))
            (first
              | (with_reducible exact y0.keep)
              | (with_reducible exact yZ.keep)
              | (with_reducible exact yLO.keep)
              | (with_reducible exact yHI.keep)
              | (with_reducible exact yZZ.keep)
              | (with_reducible exact yZLO.keep)
              | (with_reducible exact yZHI.keep)
              | (with_reducible exact yLOZ.keep)
              | (with_reducible exact yLOLO.keep)
              | (with_reducible exact yLOHI.keep)
              | (with_reducible exact yHIZ.keep)
              | (with_reducible exact yHILO.keep)
              | (with_reducible exact yHIHI.keep))
            (fail)
          all_goals
            obtain ⟨pLO1, pLO2, pLO3, _⟩ := bk_three w4 #[.int .i64 c, .bool false, .string S, .int .i64 x] #[.int .i64 c, .bool false, .string S, .int .i64 x] #[.int .i64 c, .bool false, .string S, .int .i64 x] 23 23 23
            have fLO1 := four pLO1.drew
            have fLO2 := four pLO2.drew
            have fLO3 := four pLO3.drew
            have cLO := yLOHI.keep
            obtain ⟨pHI1, pHI2, pHI3, _⟩ := bk_three w4 #[.int .i64 c, .bool false, .string S, .int .i64 x] #[.int .i64 c, .bool false, .string S, .int .i64 x] #[.int .i64 c, .bool false, .string S, .int .i64 x] 23 23 23
            have fHI1 := four pHI1.drew
            have fHI2 := four pHI2.drew
            have fHI3 := four pHI3.drew
            have cHI := yHILO.keep
            go_wp2
            go_roundw
            case rel => first | exact ⟨i + 1, rfl, by omega, yLOHI⟩ | exact ⟨i + 1, rfl, by omega, yHILO⟩
            case measure => first | (simp [intOf]; done) | (simp [intOf]; omega)
    · obtain rfl : i = 8 := by omega
      have k9 := Z1.drew.keep
      go_wp2
      clear k
      go_region_held3 (fun w' => w'.cell? ⟨w.heap.size, 0, none⟩ = some (.int .i64 c) ∧ w'.cell? ⟨w.heap.size, 1, none⟩ = some (.bool false) ∧ w'.cell? ⟨w.heap.size, 2, none⟩ = some (.string S) ∧ w'.cell? ⟨w.heap.size, 3, none⟩ = some (.int .i64 x) ∧ w'.cell? ⟨gl, 0, none⟩ = some (.int .i64 c) ∧ w'.cell? ⟨gl, 1, none⟩ = some (.bool false) ∧ w'.cell? ⟨gl, 2, none⟩ = some (.string S) ∧ w'.cell? ⟨gl, 3, none⟩ = some (.int .i64 x) ∧ w'.cell? ⟨gh, 0, none⟩ = some (.int .i64 c) ∧ w'.cell? ⟨gh, 1, none⟩ = some (.bool false) ∧ w'.cell? ⟨gh, 2, none⟩ = some (.string S) ∧ w'.cell? ⟨gh, 3, none⟩ = some (.int .i64 x))
        (first
          | (with_reducible exact k9)
          | (with_reducible exact k10))
        ((go_at_call 23; (with_reducible refine (HL'.out _).mono ?_); rintro e w9 ⟨rfl, b9⟩; have z9 := Z1.drew.below b9; have k10 := z9.keep))
      go_wp2
      go_ret
      exact ⟨rfl, z9.bl⟩
set_option maxHeartbeats 32000000 in
set_option maxRecDepth 100000 in
theorem order_same_n (c : Int) (S : ByteArray) (x place : Int) (w : World) (hp : Pow w)
    (HM : ∀ (m : Nat) w1, m < 8 → Pow w1 → Calls Tryz.prog 11 #[.agg #[.int .i64 c, .bool true, .string S, .int .i64 x], .int .i64 place, .int .i64 (m : Nat)] w1 fun e w' => e = .returned (.tuple #[.agg #[.int .i64 c, .bool true, .string S, .int .i64 x], .int .i64 0]) ∧ Below w1.heap.size w1 w')
    (HL : ∀ w1, Calls Tryz.prog 23 #[.agg #[.int .i64 c, .bool true, .string S, .int .i64 x], .agg #[.int .i64 c, .bool true, .string S, .int .i64 x]] w1 fun e w' => e = .returned (.bool false) ∧ Below w1.heap.size w1 w') :
    Calls Tryz.prog 9 #[.agg #[.int .i64 c, .bool true, .string S, .int .i64 x], .int .i64 place] w fun e w' => e = .returned (.bool true) ∧ Below w.heap.size w w' := by
  have D0 := Lib.hid (Bk.start w 23 #[.int .i64 c, .bool true, .string S, .int .i64 x])
  have b0 := alloc_below w (.cells #[.int .i64 c, .bool true, .string S, .int .i64 x] 23)
  have HA := Lib.hid (awake_calls _ (hp.below b0))
  have PW := Lib.hid hp
  have B0 := Lib.hid b0
  have HF : Hid (∀ w1, Pow w1 → Calls Tryz.prog 11 #[.agg #[.int .i64 c, .bool true, .string S, .int .i64 x], .int .i64 place, .int .i64 1] w1 fun e w' => e = .returned (.tuple #[.agg #[.int .i64 c, .bool true, .string S, .int .i64 x], .int .i64 0]) ∧ Below w1.heap.size w1 w') := fun w1 hp => HM 1 w1 (by omega) hp
  have HC : Hid (∀ w1, Pow w1 → Calls Tryz.prog 11 #[.agg #[.int .i64 c, .bool true, .string S, .int .i64 x], .int .i64 place, .int .i64 0] w1 fun e w' => e = .returned (.tuple #[.agg #[.int .i64 c, .bool true, .string S, .int .i64 x], .int .i64 0]) ∧ Below w1.heap.size w1 w') := fun w1 hp => HM 0 w1 (by omega) hp
  have H2 : Hid (∀ w1, Pow w1 → Calls Tryz.prog 11 #[.agg #[.int .i64 c, .bool true, .string S, .int .i64 x], .int .i64 place, .int .i64 2] w1 fun e w' => e = .returned (.tuple #[.agg #[.int .i64 c, .bool true, .string S, .int .i64 x], .int .i64 0]) ∧ Below w1.heap.size w1 w') := fun w1 hp => HM 2 w1 (by omega) hp
  have H3 : Hid (∀ w1, Pow w1 → Calls Tryz.prog 11 #[.agg #[.int .i64 c, .bool true, .string S, .int .i64 x], .int .i64 place, .int .i64 3] w1 fun e w' => e = .returned (.tuple #[.agg #[.int .i64 c, .bool true, .string S, .int .i64 x], .int .i64 0]) ∧ Below w1.heap.size w1 w') := fun w1 hp => HM 3 w1 (by omega) hp
  have HM' := Lib.hid HM
  clear HM
  have HL' := Lib.hid HL
  clear hp b0 HL
  go_enter Tryz.func9, Tryz.ntmps9
  go_wp2_with (first
    | (go_at_call 13; (with_reducible refine HA.out.mono ?_); rintro e w1 ⟨rfl, b1⟩; have d1 := D0.out.below b1; have k1 := four d1)
    | (go_at_call 11; first
      | ((with_reducible refine (HF.out w1 (PW.out.below (on B0.out b1))).mono ?_); rintro e w2 ⟨rfl, b2⟩; have d2 := (d1.below b2).alloc (.cells #[.int .i64 c, .bool true, .string S, .int .i64 x] 23); have k2 := four d2; have l2 := on (on (on B0.out b1) b2) (alloc_below w2 (.cells #[.int .i64 c, .bool true, .string S, .int .i64 x] 23)))
      | ((with_reducible refine (HC.out _ (PW.out.below l2)).mono ?_); rintro e w3 ⟨rfl, b3⟩)))
  have Z : TO w (w3.alloc (.cells #[.int .i64 c, .bool true, .string S, .int .i64 x] 23)) w2.heap.size w3.heap.size #[.int .i64 c, .bool true, .string S, .int .i64 x] #[.int .i64 c, .bool true, .string S, .int .i64 x] #[.int .i64 c, .bool true, .string S, .int .i64 x] :=
    ⟨(d2.below b3).alloc _, ((Bk.start w2 23 #[.int .i64 c, .bool true, .string S, .int .i64 x]).below b3).alloc _, Bk.start w3 _ _, on (on l2 b3) (alloc_below w3 _)⟩
  generalize w3.alloc (.cells #[.int .i64 c, .bool true, .string S, .int .i64 x] 23) = V at *
  generalize w3.heap.size = gh at *
  generalize w2.heap.size = gl at *
  clear k1 k2 d1 d2 b1 b2 b3 l2
  go_loopw [9] (fun z wr => ∃ i : Nat, z = .int .i64 (i : Nat) ∧ i ≤ 8 ∧ TO w wr gl gh #[.int .i64 c, .bool true, .string S, .int .i64 x] #[.int .i64 c, .bool true, .string S, .int .i64 x] #[.int .i64 c, .bool true, .string S, .int .i64 x]) (fun z _ => 8 - (intOf z).toNat)
  case atStart => exact ⟨0, rfl, by omega, Z⟩
  case round =>
    obtain ⟨i, rfl, hi, Z1⟩ := hrel
    have k := Z1.keep
    by_cases hi8 : i < 8
    · skip
      by_cases i2 : i = 2
      · subst i2
        go_upto_region 13 with (go_at_call 11; (with_reducible refine (H2.out wr (PW.out.below Z1.bl)).mono ?_); rintro e w4 ⟨rfl, b4⟩; have Z4 := (Z1.below b4).alloc (.cells #[.int .i64 c, .bool true, .string S, .int .i64 x] 23); have k4 := Z4.keep; have X4 := four (Bk.start w4 23 #[.int .i64 c, .bool true, .string S, .int .i64 x]))
        have y0 := Z4.drew
        have yZ := (Z4.alloc (.cells #[.int .i64 0, .bool false, .string ⟨#[]⟩, .int .i64 0] 23)).drew
        have yLO := (Z4.alloc (.cells #[.int .i64 c, .bool true, .string S, .int .i64 x] 23)).drew
        have yHI := (Z4.alloc (.cells #[.int .i64 c, .bool true, .string S, .int .i64 x] 23)).drew
        have yZZ := ((Z4.alloc (.cells #[.int .i64 0, .bool false, .string ⟨#[]⟩, .int .i64 0] 23)).alloc (.cells #[.int .i64 0, .bool false, .string ⟨#[]⟩, .int .i64 0] 23)).drew
        have yZLO := ((Z4.alloc (.cells #[.int .i64 0, .bool false, .string ⟨#[]⟩, .int .i64 0] 23)).alloc (.cells #[.int .i64 c, .bool true, .string S, .int .i64 x] 23)).drew
        have yZHI := ((Z4.alloc (.cells #[.int .i64 0, .bool false, .string ⟨#[]⟩, .int .i64 0] 23)).alloc (.cells #[.int .i64 c, .bool true, .string S, .int .i64 x] 23)).drew
        have yLOZ := ((Z4.alloc (.cells #[.int .i64 c, .bool true, .string S, .int .i64 x] 23)).alloc (.cells #[.int .i64 0, .bool false, .string ⟨#[]⟩, .int .i64 0] 23)).drew
        have yLOLO := ((Z4.alloc (.cells #[.int .i64 c, .bool true, .string S, .int .i64 x] 23)).alloc (.cells #[.int .i64 c, .bool true, .string S, .int .i64 x] 23)).drew
        have yLOHI := ((Z4.alloc (.cells #[.int .i64 c, .bool true, .string S, .int .i64 x] 23)).alloc (.cells #[.int .i64 c, .bool true, .string S, .int .i64 x] 23)).drew
        have yHIZ := ((Z4.alloc (.cells #[.int .i64 c, .bool true, .string S, .int .i64 x] 23)).alloc (.cells #[.int .i64 0, .bool false, .string ⟨#[]⟩, .int .i64 0] 23)).drew
        have yHILO := ((Z4.alloc (.cells #[.int .i64 c, .bool true, .string S, .int .i64 x] 23)).alloc (.cells #[.int .i64 c, .bool true, .string S, .int .i64 x] 23)).drew
        have yHIHI := ((Z4.alloc (.cells #[.int .i64 c, .bool true, .string S, .int .i64 x] 23)).alloc (.cells #[.int .i64 c, .bool true, .string S, .int .i64 x] 23)).drew
        clear k k4
        go_region_held3 (fun w' => w'.cell? ⟨w.heap.size, 0, none⟩ = some (.int .i64 c) ∧ w'.cell? ⟨w.heap.size, 1, none⟩ = some (.bool true) ∧ w'.cell? ⟨w.heap.size, 2, none⟩ = some (.string S) ∧ w'.cell? ⟨w.heap.size, 3, none⟩ = some (.int .i64 x) ∧ w'.cell? ⟨gl, 0, none⟩ = some (.int .i64 c) ∧ w'.cell? ⟨gl, 1, none⟩ = some (.bool true) ∧ w'.cell? ⟨gl, 2, none⟩ = some (.string S) ∧ w'.cell? ⟨gl, 3, none⟩ = some (.int .i64 x) ∧ w'.cell? ⟨gh, 0, none⟩ = some (.int .i64 c) ∧ w'.cell? ⟨gh, 1, none⟩ = some (.bool true) ∧ w'.cell? ⟨gh, 2, none⟩ = some (.string S) ∧ w'.cell? ⟨gh, 3, none⟩ = some (.int .i64 x))
          (first
            | (with_reducible exact y0.keep)
            | (with_reducible exact yZ.keep)
            | (with_reducible exact yLO.keep)
            | (with_reducible exact yHI.keep)
            | (with_reducible exact yZZ.keep)
            | (with_reducible exact yZLO.keep)
            | (with_reducible exact yZHI.keep)
            | (with_reducible exact yLOZ.keep)
            | (with_reducible exact yLOLO.keep)
            | (with_reducible exact yLOHI.keep)
            | (with_reducible exact yHIZ.keep)
            | (with_reducible exact yHILO.keep)
            | (with_reducible exact yHIHI.keep))
          (fail)
        all_goals
          have x0 := yLOHI.keep
          have x1 := yHILO.keep
          obtain ⟨pLO1, pLO2, pLO3, _⟩ := bk_three w4 #[.int .i64 c, .bool true, .string S, .int .i64 x] #[.int .i64 c, .bool true, .string S, .int .i64 x] #[.int .i64 c, .bool true, .string S, .int .i64 x] 23 23 23
          have oLO2 := eight' pLO2.drew.drew
          have oLO3 := eight' pLO3.drew.drew
          obtain ⟨pHI1, pHI2, pHI3, _⟩ := bk_three w4 #[.int .i64 c, .bool true, .string S, .int .i64 x] #[.int .i64 c, .bool true, .string S, .int .i64 x] #[.int .i64 c, .bool true, .string S, .int .i64 x] 23 23 23
          have oHI2 := eight' pHI2.drew.drew
          have oHI3 := eight' pHI3.drew.drew
          go_wp2
          have vZZ := yZZ.drew
          have vZLO := yZLO.drew
          have vZHI := yZHI.drew
          have vLOZ := yLOZ.drew
          have vLOLO := yLOLO.drew
          have vLOHI := yLOHI.drew
          have vHIZ := yHIZ.drew
          have vHILO := yHILO.drew
          have vHIHI := yHIHI.drew
          clear x0 x1
          go_region_held3 (fun w' => w'.cell? ⟨w.heap.size, 0, none⟩ = some (.int .i64 c) ∧ w'.cell? ⟨w.heap.size, 1, none⟩ = some (.bool true) ∧ w'.cell? ⟨w.heap.size, 2, none⟩ = some (.string S) ∧ w'.cell? ⟨w.heap.size, 3, none⟩ = some (.int .i64 x) ∧ w'.cell? ⟨gl, 0, none⟩ = some (.int .i64 c) ∧ w'.cell? ⟨gl, 1, none⟩ = some (.bool true) ∧ w'.cell? ⟨gl, 2, none⟩ = some (.string S) ∧ w'.cell? ⟨gl, 3, none⟩ = some (.int .i64 x) ∧ w'.cell? ⟨gh, 0, none⟩ = some (.int .i64 c) ∧ w'.cell? ⟨gh, 1, none⟩ = some (.bool true) ∧ w'.cell? ⟨gh, 2, none⟩ = some (.string S) ∧ w'.cell? ⟨gh, 3, none⟩ = some (.int .i64 x))
            (first
              | (with_reducible exact vZZ.keep)
              | (with_reducible exact vZLO.keep)
              | (with_reducible exact vZHI.keep)
              | (with_reducible exact vLOZ.keep)
              | (with_reducible exact vLOLO.keep)
              | (with_reducible exact vLOHI.keep)
              | (with_reducible exact vHIZ.keep)
              | (with_reducible exact vHILO.keep)
              | (with_reducible exact vHIHI.keep))
            (fail)
          clear oLO2 oLO3 oHI2 oHI3 pLO1 pLO2 pLO3 pHI1 pHI2 pHI3
          obtain ⟨pLO1, pLO2, pLO3, _⟩ := bk_three w4 #[.int .i64 c, .bool true, .string S, .int .i64 x] #[.int .i64 c, .bool true, .string S, .int .i64 x] #[.int .i64 c, .bool true, .string S, .int .i64 x] 23 23 23
          have fLO1 := four pLO1.drew.drew
          have fLO2 := four pLO2.drew.drew
          have fLO3 := four pLO3.drew.drew
          have cLO := vLOHI.keep
          obtain ⟨pHI1, pHI2, pHI3, _⟩ := bk_three w4 #[.int .i64 c, .bool true, .string S, .int .i64 x] #[.int .i64 c, .bool true, .string S, .int .i64 x] #[.int .i64 c, .bool true, .string S, .int .i64 x] 23 23 23
          have fHI1 := four pHI1.drew.drew
          have fHI2 := four pHI2.drew.drew
          have fHI3 := four pHI3.drew.drew
          have cHI := vHILO.keep
          go_wp2
          go_roundw
          case rel => first | exact ⟨3, rfl, by omega, vLOHI⟩ | exact ⟨3, rfl, by omega, vHILO⟩
          case measure => first | (simp [intOf]; done) | (simp [intOf]; omega)
      · by_cases i3 : i = 3
        · subst i3
          go_upto_region 13 with (go_at_call 11; (with_reducible refine (H3.out wr (PW.out.below Z1.bl)).mono ?_); rintro e w4 ⟨rfl, b4⟩; have Z4 := (Z1.below b4).alloc (.cells #[.int .i64 c, .bool true, .string S, .int .i64 x] 23); have k4 := Z4.keep; have X4 := four (Bk.start w4 23 #[.int .i64 c, .bool true, .string S, .int .i64 x]))
          have y0 := Z4.drew
          have yZ := (Z4.alloc (.cells #[.int .i64 0, .bool false, .string ⟨#[]⟩, .int .i64 0] 23)).drew
          have yLO := (Z4.alloc (.cells #[.int .i64 c, .bool true, .string S, .int .i64 x] 23)).drew
          have yHI := (Z4.alloc (.cells #[.int .i64 c, .bool true, .string S, .int .i64 x] 23)).drew
          have yZZ := ((Z4.alloc (.cells #[.int .i64 0, .bool false, .string ⟨#[]⟩, .int .i64 0] 23)).alloc (.cells #[.int .i64 0, .bool false, .string ⟨#[]⟩, .int .i64 0] 23)).drew
          have yZLO := ((Z4.alloc (.cells #[.int .i64 0, .bool false, .string ⟨#[]⟩, .int .i64 0] 23)).alloc (.cells #[.int .i64 c, .bool true, .string S, .int .i64 x] 23)).drew
          have yZHI := ((Z4.alloc (.cells #[.int .i64 0, .bool false, .string ⟨#[]⟩, .int .i64 0] 23)).alloc (.cells #[.int .i64 c, .bool true, .string S, .int .i64 x] 23)).drew
          have yLOZ := ((Z4.alloc (.cells #[.int .i64 c, .bool true, .string S, .int .i64 x] 23)).alloc (.cells #[.int .i64 0, .bool false, .string ⟨#[]⟩, .int .i64 0] 23)).drew
          have yLOLO := ((Z4.alloc (.cells #[.int .i64 c, .bool true, .string S, .int .i64 x] 23)).alloc (.cells #[.int .i64 c, .bool true, .string S, .int .i64 x] 23)).drew
          have yLOHI := ((Z4.alloc (.cells #[.int .i64 c, .bool true, .string S, .int .i64 x] 23)).alloc (.cells #[.int .i64 c, .bool true, .string S, .int .i64 x] 23)).drew
          have yHIZ := ((Z4.alloc (.cells #[.int .i64 c, .bool true, .string S, .int .i64 x] 23)).alloc (.cells #[.int .i64 0, .bool false, .string ⟨#[]⟩, .int .i64 0] 23)).drew
          have yHILO := ((Z4.alloc (.cells #[.int .i64 c, .bool true, .string S, .int .i64 x] 23)).alloc (.cells #[.int .i64 c, .bool true, .string S, .int .i64 x] 23)).drew
          have yHIHI := ((Z4.alloc (.cells #[.int .i64 c, .bool true, .string S, .int .i64 x] 23)).alloc (.cells #[.int .i64 c, .bool true, .string S, .int .i64 x] 23)).drew
          clear k k4
          go_region_held3 (fun w' => w'.cell? ⟨w.heap.size, 0, none⟩ = some (.int .i64 c) ∧ w'.cell? ⟨w.heap.size, 1, none⟩ = some (.bool true) ∧ w'.cell? ⟨w.heap.size, 2, none⟩ = some (.string S) ∧ w'.cell? ⟨w.heap.size, 3, none⟩ = some (.int .i64 x) ∧ w'.cell? ⟨gl, 0, none⟩ = some (.int .i64 c) ∧ w'.cell? ⟨gl, 1, none⟩ = some (.bool true) ∧ w'.cell? ⟨gl, 2, none⟩ = some (.string S) ∧ w'.cell? ⟨gl, 3, none⟩ = some (.int .i64 x) ∧ w'.cell? ⟨gh, 0, none⟩ = some (.int .i64 c) ∧ w'.cell? ⟨gh, 1, none⟩ = some (.bool true) ∧ w'.cell? ⟨gh, 2, none⟩ = some (.string S) ∧ w'.cell? ⟨gh, 3, none⟩ = some (.int .i64 x))
            (first
              | (with_reducible exact y0.keep)
              | (with_reducible exact yZ.keep)
              | (with_reducible exact yLO.keep)
              | (with_reducible exact yHI.keep)
              | (with_reducible exact yZZ.keep)
              | (with_reducible exact yZLO.keep)
              | (with_reducible exact yZHI.keep)
              | (with_reducible exact yLOZ.keep)
              | (with_reducible exact yLOLO.keep)
              | (with_reducible exact yLOHI.keep)
              | (with_reducible exact yHIZ.keep)
              | (with_reducible exact yHILO.keep)
              | (with_reducible exact yHIHI.keep))
            (fail)
          all_goals
            have x0 := yLOHI.keep
            have x1 := yHILO.keep
            obtain ⟨pLO1, pLO2, pLO3, _⟩ := bk_three w4 #[.int .i64 c, .bool true, .string S, .int .i64 x] #[.int .i64 c, .bool true, .string S, .int .i64 x] #[.int .i64 c, .bool true, .string S, .int .i64 x] 23 23 23
            have oLO2 := eight' pLO2.drew.drew
            have oLO3 := eight' pLO3.drew.drew
            obtain ⟨pHI1, pHI2, pHI3, _⟩ := bk_three w4 #[.int .i64 c, .bool true, .string S, .int .i64 x] #[.int .i64 c, .bool true, .string S, .int .i64 x] #[.int .i64 c, .bool true, .string S, .int .i64 x] 23 23 23
            have oHI2 := eight' pHI2.drew.drew
            have oHI3 := eight' pHI3.drew.drew
            go_wp2
            have vZZ := yZZ.drew
            have vZLO := yZLO.drew
            have vZHI := yZHI.drew
            have vLOZ := yLOZ.drew
            have vLOLO := yLOLO.drew
            have vLOHI := yLOHI.drew
            have vHIZ := yHIZ.drew
            have vHILO := yHILO.drew
            have vHIHI := yHIHI.drew
            clear x0 x1
            go_region_held3 (fun w' => w'.cell? ⟨w.heap.size, 0, none⟩ = some (.int .i64 c) ∧ w'.cell? ⟨w.heap.size, 1, none⟩ = some (.bool true) ∧ w'.cell? ⟨w.heap.size, 2, none⟩ = some (.string S) ∧ w'.cell? ⟨w.heap.size, 3, none⟩ = some (.int .i64 x) ∧ w'.cell? ⟨gl, 0, none⟩ = some (.int .i64 c) ∧ w'.cell? ⟨gl, 1, none⟩ = some (.bool true) ∧ w'.cell? ⟨gl, 2, none⟩ = some (.string S) ∧ w'.cell? ⟨gl, 3, none⟩ = some (.int .i64 x) ∧ w'.cell? ⟨gh, 0, none⟩ = some (.int .i64 c) ∧ w'.cell? ⟨gh, 1, none⟩ = some (.bool true) ∧ w'.cell? ⟨gh, 2, none⟩ = some (.string S) ∧ w'.cell? ⟨gh, 3, none⟩ = some (.int .i64 x))
              (first
                | (with_reducible exact vZZ.keep)
                | (with_reducible exact vZLO.keep)
                | (with_reducible exact vZHI.keep)
                | (with_reducible exact vLOZ.keep)
                | (with_reducible exact vLOLO.keep)
                | (with_reducible exact vLOHI.keep)
                | (with_reducible exact vHIZ.keep)
                | (with_reducible exact vHILO.keep)
                | (with_reducible exact vHIHI.keep))
              (fail)
            clear oLO2 oLO3 oHI2 oHI3 pLO1 pLO2 pLO3 pHI1 pHI2 pHI3
            obtain ⟨pLO1, pLO2, pLO3, _⟩ := bk_three w4 #[.int .i64 c, .bool true, .string S, .int .i64 x] #[.int .i64 c, .bool true, .string S, .int .i64 x] #[.int .i64 c, .bool true, .string S, .int .i64 x] 23 23 23
            have fLO1 := four pLO1.drew.drew
            have fLO2 := four pLO2.drew.drew
            have fLO3 := four pLO3.drew.drew
            have cLO := vLOHI.keep
            obtain ⟨pHI1, pHI2, pHI3, _⟩ := bk_three w4 #[.int .i64 c, .bool true, .string S, .int .i64 x] #[.int .i64 c, .bool true, .string S, .int .i64 x] #[.int .i64 c, .bool true, .string S, .int .i64 x] 23 23 23
            have fHI1 := four pHI1.drew.drew
            have fHI2 := four pHI2.drew.drew
            have fHI3 := four pHI3.drew.drew
            have cHI := vHILO.keep
            go_wp2
            go_roundw
            case rel => first | exact ⟨4, rfl, by omega, vLOHI⟩ | exact ⟨4, rfl, by omega, vHILO⟩
            case measure => first | (simp [intOf]; done) | (simp [intOf]; omega)
        · have n2 : ((i : Int) == 2) = false := by rw [beq_eq_false_iff_ne]; omega
          have n3 : ((i : Int) == 3) = false := by rw [beq_eq_false_iff_ne]; omega
          go_upto_region 13 with (go_at_call 11; (with_reducible refine (HM'.out i wr hi8 (PW.out.below Z1.bl)).mono ?_); rintro e w4 ⟨rfl, b4⟩; have Z4 := (Z1.below b4).alloc (.cells #[.int .i64 c, .bool true, .string S, .int .i64 x] 23); have k4 := Z4.keep; have X4 := four (Bk.start w4 23 #[.int .i64 c, .bool true, .string S, .int .i64 x]))
          have y0 := Z4.drew
          have yZ := (Z4.alloc (.cells #[.int .i64 0, .bool false, .string ⟨#[]⟩, .int .i64 0] 23)).drew
          have yLO := (Z4.alloc (.cells #[.int .i64 c, .bool true, .string S, .int .i64 x] 23)).drew
          have yHI := (Z4.alloc (.cells #[.int .i64 c, .bool true, .string S, .int .i64 x] 23)).drew
          have yZZ := ((Z4.alloc (.cells #[.int .i64 0, .bool false, .string ⟨#[]⟩, .int .i64 0] 23)).alloc (.cells #[.int .i64 0, .bool false, .string ⟨#[]⟩, .int .i64 0] 23)).drew
          have yZLO := ((Z4.alloc (.cells #[.int .i64 0, .bool false, .string ⟨#[]⟩, .int .i64 0] 23)).alloc (.cells #[.int .i64 c, .bool true, .string S, .int .i64 x] 23)).drew
          have yZHI := ((Z4.alloc (.cells #[.int .i64 0, .bool false, .string ⟨#[]⟩, .int .i64 0] 23)).alloc (.cells #[.int .i64 c, .bool true, .string S, .int .i64 x] 23)).drew
          have yLOZ := ((Z4.alloc (.cells #[.int .i64 c, .bool true, .string S, .int .i64 x] 23)).alloc (.cells #[.int .i64 0, .bool false, .string ⟨#[]⟩, .int .i64 0] 23)).drew
          have yLOLO := ((Z4.alloc (.cells #[.int .i64 c, .bool true, .string S, .int .i64 x] 23)).alloc (.cells #[.int .i64 c, .bool true, .string S, .int .i64 x] 23)).drew
          have yLOHI := ((Z4.alloc (.cells #[.int .i64 c, .bool true, .string S, .int .i64 x] 23)).alloc (.cells #[.int .i64 c, .bool true, .string S, .int .i64 x] 23)).drew
          have yHIZ := ((Z4.alloc (.cells #[.int .i64 c, .bool true, .string S, .int .i64 x] 23)).alloc (.cells #[.int .i64 0, .bool false, .string ⟨#[]⟩, .int .i64 0] 23)).drew
          have yHILO := ((Z4.alloc (.cells #[.int .i64 c, .bool true, .string S, .int .i64 x] 23)).alloc (.cells #[.int .i64 c, .bool true, .string S, .int .i64 x] 23)).drew
          have yHIHI := ((Z4.alloc (.cells #[.int .i64 c, .bool true, .string S, .int .i64 x] 23)).alloc (.cells #[.int .i64 c, .bool true, .string S, .int .i64 x] 23)).drew
          clear k k4
          go_region_held3 (fun w' => w'.cell? ⟨w.heap.size, 0, none⟩ = some (.int .i64 c) ∧ w'.cell? ⟨w.heap.size, 1, none⟩ = some (.bool true) ∧ w'.cell? ⟨w.heap.size, 2, none⟩ = some (.string S) ∧ w'.cell? ⟨w.heap.size, 3, none⟩ = some (.int .i64 x) ∧ w'.cell? ⟨gl, 0, none⟩ = some (.int .i64 c) ∧ w'.cell? ⟨gl, 1, none⟩ = some (.bool true) ∧ w'.cell? ⟨gl, 2, none⟩ = some (.string S) ∧ w'.cell? ⟨gl, 3, none⟩ = some (.int .i64 x) ∧ w'.cell? ⟨gh, 0, none⟩ = some (.int .i64 c) ∧ w'.cell? ⟨gh, 1, none⟩ = some (.bool true) ∧ w'.cell? ⟨gh, 2, none⟩ = some (.string S) ∧ w'.cell? ⟨gh, 3, none⟩ = some (.int .i64 x))
            (first
              | (with_reducible exact y0.keep)
              | (with_reducible exact yZ.keep)
              | (with_reducible exact yLO.keep)
              | (with_reducible exact yHI.keep)
              | (with_reducible exact yZZ.keep)
              | (with_reducible exact yZLO.keep)
              | (with_reducible exact yZHI.keep)
              | (with_reducible exact yLOZ.keep)
              | (with_reducible exact yLOLO.keep)
              | (with_reducible exact yLOHI.keep)
              | (with_reducible exact yHIZ.keep)
              | (with_reducible exact yHILO.keep)
              | (with_reducible exact yHIHI.keep))
            (fail)
          all_goals
            have x0 := yLOHI.keep
            have x1 := yHILO.keep
            obtain ⟨pLO1, pLO2, pLO3, _⟩ := bk_three w4 #[.int .i64 c, .bool true, .string S, .int .i64 x] #[.int .i64 c, .bool true, .string S, .int .i64 x] #[.int .i64 c, .bool true, .string S, .int .i64 x] 23 23 23
            have oLO2 := eight' pLO2.drew.drew
            have oLO3 := eight' pLO3.drew.drew
            obtain ⟨pHI1, pHI2, pHI3, _⟩ := bk_three w4 #[.int .i64 c, .bool true, .string S, .int .i64 x] #[.int .i64 c, .bool true, .string S, .int .i64 x] #[.int .i64 c, .bool true, .string S, .int .i64 x] 23 23 23
            have oHI2 := eight' pHI2.drew.drew
            have oHI3 := eight' pHI3.drew.drew
            go_wp2
            have vZZ := yZZ.drew
            have vZLO := yZLO.drew
            have vZHI := yZHI.drew
            have vLOZ := yLOZ.drew
            have vLOLO := yLOLO.drew
            have vLOHI := yLOHI.drew
            have vHIZ := yHIZ.drew
            have vHILO := yHILO.drew
            have vHIHI := yHIHI.drew
            clear x0 x1
            go_region_held3 (fun w' => w'.cell? ⟨w.heap.size, 0, none⟩ = some (.int .i64 c) ∧ w'.cell? ⟨w.heap.size, 1, none⟩ = some (.bool true) ∧ w'.cell? ⟨w.heap.size, 2, none⟩ = some (.string S) ∧ w'.cell? ⟨w.heap.size, 3, none⟩ = some (.int .i64 x) ∧ w'.cell? ⟨gl, 0, none⟩ = some (.int .i64 c) ∧ w'.cell? ⟨gl, 1, none⟩ = some (.bool true) ∧ w'.cell? ⟨gl, 2, none⟩ = some (.string S) ∧ w'.cell? ⟨gl, 3, none⟩ = some (.int .i64 x) ∧ w'.cell? ⟨gh, 0, none⟩ = some (.int .i64 c) ∧ w'.cell? ⟨gh, 1, none⟩ = some (.bool true) ∧ w'.cell? ⟨gh, 2, none⟩ = some (.string S) ∧ w'.cell? ⟨gh, 3, none⟩ = some (.int .i64 x))
              (first
                | (with_reducible exact vZZ.keep)
                | (with_reducible exact vZLO.keep)
                | (with_reducible exact vZHI.keep)
                | (with_reducible exact vLOZ.keep)
                | (with_reducible exact vLOLO.keep)
                | (with_reducible exact vLOHI.keep)
                | (with_reducible exact vHIZ.keep)
                | (with_reducible exact vHILO.keep)
                | (with_reducible exact vHIHI.keep))
              (fail)
            clear oLO2 oLO3 oHI2 oHI3 pLO1 pLO2 pLO3 pHI1 pHI2 pHI3
            obtain ⟨pLO1, pLO2, pLO3, _⟩ := bk_three w4 #[.int .i64 c, .bool true, .string S, .int .i64 x] #[.int .i64 c, .bool true, .string S, .int .i64 x] #[.int .i64 c, .bool true, .string S, .int .i64 x] 23 23 23
            have fLO1 := four pLO1.drew.drew
            have fLO2 := four pLO2.drew.drew
            have fLO3 := four pLO3.drew.drew
            have cLO := vLOHI.keep
            obtain ⟨pHI1, pHI2, pHI3, _⟩ := bk_three w4 #[.int .i64 c, .bool true, .string S, .int .i64 x] #[.int .i64 c, .bool true, .string S, .int .i64 x] #[.int .i64 c, .bool true, .string S, .int .i64 x] 23 23 23
            have fHI1 := four pHI1.drew.drew
            have fHI2 := four pHI2.drew.drew
            have fHI3 := four pHI3.drew.drew
            have cHI := vHILO.keep
            go_wp2
            go_roundw
            case rel => first | exact ⟨i + 1, rfl, by omega, vLOHI⟩ | exact ⟨i + 1, rfl, by omega, vHILO⟩
            case measure => first | (simp [intOf]; done) | (simp [intOf]; omega)
    · obtain rfl : i = 8 := by omega
      have k9 := Z1.drew.keep
      go_wp2
      clear k
      go_region_held3 (fun w' => w'.cell? ⟨w.heap.size, 0, none⟩ = some (.int .i64 c) ∧ w'.cell? ⟨w.heap.size, 1, none⟩ = some (.bool true) ∧ w'.cell? ⟨w.heap.size, 2, none⟩ = some (.string S) ∧ w'.cell? ⟨w.heap.size, 3, none⟩ = some (.int .i64 x) ∧ w'.cell? ⟨gl, 0, none⟩ = some (.int .i64 c) ∧ w'.cell? ⟨gl, 1, none⟩ = some (.bool true) ∧ w'.cell? ⟨gl, 2, none⟩ = some (.string S) ∧ w'.cell? ⟨gl, 3, none⟩ = some (.int .i64 x) ∧ w'.cell? ⟨gh, 0, none⟩ = some (.int .i64 c) ∧ w'.cell? ⟨gh, 1, none⟩ = some (.bool true) ∧ w'.cell? ⟨gh, 2, none⟩ = some (.string S) ∧ w'.cell? ⟨gh, 3, none⟩ = some (.int .i64 x))
        (first
          | (with_reducible exact k9)
          | (with_reducible exact k10))
        ((go_at_call 23; (with_reducible refine (HL'.out _).mono ?_); rintro e w9 ⟨rfl, b9⟩; have z9 := Z1.drew.below b9; have k10 := z9.keep))
      go_wp2
      go_ret
      exact ⟨rfl, z9.bl⟩
end Go.Proofs.YtllpggdmkdgggaaGreatDoor.Dc

/- Layer 6's laws: RoundOrder, where the lowest and the highest differ. -/
set_option linter.unusedSimpArgs false
set_option linter.unusedVariables false
namespace Go.Proofs.YtllpggdmkdgggaaGreatDoor.Dc
open Go.RowKit Go.Proofs.YtllpggdmkdgggaaGreatDoor.Dig Go.Proofs.YtllpggdmkdgggaaGreatDoor.W Go.Proofs.YtllpggdmkdgggaaGreatDoor.Nat Go.Proofs.YtllpggdmkdgggaaGreatDoor.Wh Go.Proofs.YtllpggdmkdgggaaGreatDoor.Td Go.Proofs.YtllpggdmkdgggaaGreatDoor.Bu Go.Proofs.YtllpggdmkdgggaaGreatDoor.Tx Go.Proofs.YtllpggdmkdgggaaGreatDoor.Sp Go.Proofs.YtllpggdmkdgggaaGreatDoor.Rd

attribute [local go_sem ↓] eq_dec ne_dec
set_option maxHeartbeats 32000000 in
set_option maxRecDepth 100000 in
theorem order_two_p (S Sl Sh : ByteArray) (x xl xh place : Int) (w : World) (hp : Pow w)
    (HM : ∀ (m : Nat), m < 8 → (∀ w1, Pow w1 → Calls Tryz.prog 11 #[.agg #[.int .i64 0, .bool false, .string S, .int .i64 x], .int .i64 place, .int .i64 (m : Nat)] w1 fun e w' => e = .returned (.tuple #[.agg #[.int .i64 0, .bool false, .string Sl, .int .i64 xl], .int .i64 0]) ∧ Below w1.heap.size w1 w') ∨ (∀ w1, Pow w1 → Calls Tryz.prog 11 #[.agg #[.int .i64 0, .bool false, .string S, .int .i64 x], .int .i64 place, .int .i64 (m : Nat)] w1 fun e w' => e = .returned (.tuple #[.agg #[.int .i64 0, .bool false, .string Sh, .int .i64 xh], .int .i64 0]) ∧ Below w1.heap.size w1 w'))
    (HF : ∀ w1, Pow w1 → Calls Tryz.prog 11 #[.agg #[.int .i64 0, .bool false, .string S, .int .i64 x], .int .i64 place, .int .i64 1] w1 fun e w' => e = .returned (.tuple #[.agg #[.int .i64 0, .bool false, .string Sl, .int .i64 xl], .int .i64 0]) ∧ Below w1.heap.size w1 w')
    (HC : ∀ w1, Pow w1 → Calls Tryz.prog 11 #[.agg #[.int .i64 0, .bool false, .string S, .int .i64 x], .int .i64 place, .int .i64 0] w1 fun e w' => e = .returned (.tuple #[.agg #[.int .i64 0, .bool false, .string Sh, .int .i64 xh], .int .i64 0]) ∧ Below w1.heap.size w1 w')
    (HN : ∀ w1, Pow w1 → Calls Tryz.prog 11 #[.agg #[.int .i64 0, .bool false, .string S, .int .i64 x], .int .i64 place, .int .i64 2] w1 fun e w' => e = .returned (.tuple #[.agg #[.int .i64 0, .bool false, .string Sl, .int .i64 xl], .int .i64 0]) ∧ Below w1.heap.size w1 w')
    (HX : ∀ w1, Pow w1 → Calls Tryz.prog 11 #[.agg #[.int .i64 0, .bool false, .string S, .int .i64 x], .int .i64 place, .int .i64 3] w1 fun e w' => e = .returned (.tuple #[.agg #[.int .i64 0, .bool false, .string Sh, .int .i64 xh], .int .i64 0]) ∧ Below w1.heap.size w1 w')
    (q1 : ∀ w, (binOp .neq 23 (.agg #[.int .i64 0, .bool false, .string Sh, .int .i64 xh]) (.agg #[.int .i64 0, .bool false, .string Sl, .int .i64 xl])).run Tryz.prog w = .ok (.bool true) w)
    (q2 : ∀ w, (binOp .eql 23 (.agg #[.int .i64 0, .bool false, .string Sl, .int .i64 xl]) (.agg #[.int .i64 0, .bool false, .string Sh, .int .i64 xh])).run Tryz.prog w = .ok (.bool false) w)
    (q3 : ∀ w, (binOp .eql 23 (.agg #[.int .i64 0, .bool false, .string Sl, .int .i64 xl]) (.agg #[.int .i64 0, .bool false, .string S, .int .i64 x])).run Tryz.prog w = .ok (.bool false) w)
    (HL : ∀ w1, Calls Tryz.prog 23 #[.agg #[.int .i64 0, .bool false, .string Sh, .int .i64 xh], .agg #[.int .i64 0, .bool false, .string Sl, .int .i64 xl]] w1 fun e w' => e = .returned (.bool false) ∧ Below w1.heap.size w1 w') :
    Calls Tryz.prog 9 #[.agg #[.int .i64 0, .bool false, .string S, .int .i64 x], .int .i64 place] w fun e w' => e = .returned (.bool true) ∧ Below w.heap.size w w' := by
  have D0 := Lib.hid (Bk.start w 23 #[.int .i64 0, .bool false, .string S, .int .i64 x])
  have b0 := alloc_below w (.cells #[.int .i64 0, .bool false, .string S, .int .i64 x] 23)
  have HA := Lib.hid (awake_calls _ (hp.below b0))
  have PW := Lib.hid hp
  have B0 := Lib.hid b0
  have HF := Lib.hid HF
  have HC := Lib.hid HC
  have HN := Lib.hid HN
  have HX := Lib.hid HX
  have HM' := Lib.hid HM
  clear HM
  have HL' := Lib.hid HL
  clear hp b0 HL
  go_enter Tryz.func9, Tryz.ntmps9
  go_wp2_with (first
    | (go_at_call 13; (with_reducible refine HA.out.mono ?_); rintro e w1 ⟨rfl, b1⟩; have d1 := D0.out.below b1; have k1 := four d1)
    | (go_at_call 11; first
      | ((with_reducible refine (HF.out w1 (PW.out.below (on B0.out b1))).mono ?_); rintro e w2 ⟨rfl, b2⟩; have d2 := (d1.below b2).alloc (.cells #[.int .i64 0, .bool false, .string Sl, .int .i64 xl] 23); have k2 := four d2; have l2 := on (on (on B0.out b1) b2) (alloc_below w2 (.cells #[.int .i64 0, .bool false, .string Sl, .int .i64 xl] 23)))
      | ((with_reducible refine (HC.out _ (PW.out.below l2)).mono ?_); rintro e w3 ⟨rfl, b3⟩)))
  have Z : TO w (w3.alloc (.cells #[.int .i64 0, .bool false, .string Sh, .int .i64 xh] 23)) w2.heap.size w3.heap.size #[.int .i64 0, .bool false, .string S, .int .i64 x] #[.int .i64 0, .bool false, .string Sl, .int .i64 xl] #[.int .i64 0, .bool false, .string Sh, .int .i64 xh] :=
    ⟨(d2.below b3).alloc _, ((Bk.start w2 23 #[.int .i64 0, .bool false, .string Sl, .int .i64 xl]).below b3).alloc _, Bk.start w3 _ _, on (on l2 b3) (alloc_below w3 _)⟩
  generalize w3.alloc (.cells #[.int .i64 0, .bool false, .string Sh, .int .i64 xh] 23) = V at *
  generalize w3.heap.size = gh at *
  generalize w2.heap.size = gl at *
  clear k1 k2 d1 d2 b1 b2 b3 l2
  go_loopw [9] (fun z wr => ∃ i : Nat, z = .int .i64 (i : Nat) ∧ i ≤ 8 ∧ TO w wr gl gh #[.int .i64 0, .bool false, .string S, .int .i64 x] #[.int .i64 0, .bool false, .string Sl, .int .i64 xl] #[.int .i64 0, .bool false, .string Sh, .int .i64 xh]) (fun z _ => 8 - (intOf z).toNat)
  case atStart => exact ⟨0, rfl, by omega, Z⟩
  case round =>
    obtain ⟨i, rfl, hi, Z1⟩ := hrel
    have k := Z1.keep
    by_cases hi8 : i < 8
    · skip
      by_cases i2 : i = 2
      · subst i2
        go_upto_region 13 with (go_at_call 11; (with_reducible refine (HN.out wr (PW.out.below Z1.bl)).mono ?_); rintro e w4 ⟨rfl, b4⟩; have Z4 := (Z1.below b4).alloc (.cells #[.int .i64 0, .bool false, .string Sl, .int .i64 xl] 23); have k4 := Z4.keep; have X4 := four (Bk.start w4 23 #[.int .i64 0, .bool false, .string Sl, .int .i64 xl]))
        have y0 := Z4.drew
        have yZ := (Z4.alloc (.cells #[.int .i64 0, .bool false, .string ⟨#[]⟩, .int .i64 0] 23)).drew
        have yLO := (Z4.alloc (.cells #[.int .i64 0, .bool false, .string Sl, .int .i64 xl] 23)).drew
        have yHI := (Z4.alloc (.cells #[.int .i64 0, .bool false, .string Sh, .int .i64 xh] 23)).drew
        have yZZ := ((Z4.alloc (.cells #[.int .i64 0, .bool false, .string ⟨#[]⟩, .int .i64 0] 23)).alloc (.cells #[.int .i64 0, .bool false, .string ⟨#[]⟩, .int .i64 0] 23)).drew
        have yZLO := ((Z4.alloc (.cells #[.int .i64 0, .bool false, .string ⟨#[]⟩, .int .i64 0] 23)).alloc (.cells #[.int .i64 0, .bool false, .string Sl, .int .i64 xl] 23)).drew
        have yZHI := ((Z4.alloc (.cells #[.int .i64 0, .bool false, .string ⟨#[]⟩, .int .i64 0] 23)).alloc (.cells #[.int .i64 0, .bool false, .string Sh, .int .i64 xh] 23)).drew
        have yLOZ := ((Z4.alloc (.cells #[.int .i64 0, .bool false, .string Sl, .int .i64 xl] 23)).alloc (.cells #[.int .i64 0, .bool false, .string ⟨#[]⟩, .int .i64 0] 23)).drew
        have yLOLO := ((Z4.alloc (.cells #[.int .i64 0, .bool false, .string Sl, .int .i64 xl] 23)).alloc (.cells #[.int .i64 0, .bool false, .string Sl, .int .i64 xl] 23)).drew
        have yLOHI := ((Z4.alloc (.cells #[.int .i64 0, .bool false, .string Sl, .int .i64 xl] 23)).alloc (.cells #[.int .i64 0, .bool false, .string Sh, .int .i64 xh] 23)).drew
        have yHIZ := ((Z4.alloc (.cells #[.int .i64 0, .bool false, .string Sh, .int .i64 xh] 23)).alloc (.cells #[.int .i64 0, .bool false, .string ⟨#[]⟩, .int .i64 0] 23)).drew
        have yHILO := ((Z4.alloc (.cells #[.int .i64 0, .bool false, .string Sh, .int .i64 xh] 23)).alloc (.cells #[.int .i64 0, .bool false, .string Sl, .int .i64 xl] 23)).drew
        have yHIHI := ((Z4.alloc (.cells #[.int .i64 0, .bool false, .string Sh, .int .i64 xh] 23)).alloc (.cells #[.int .i64 0, .bool false, .string Sh, .int .i64 xh] 23)).drew
        clear k k4
        go_region_held3 (fun w' => w'.cell? ⟨w.heap.size, 0, none⟩ = some (.int .i64 0) ∧ w'.cell? ⟨w.heap.size, 1, none⟩ = some (.bool false) ∧ w'.cell? ⟨w.heap.size, 2, none⟩ = some (.string S) ∧ w'.cell? ⟨w.heap.size, 3, none⟩ = some (.int .i64 x) ∧ w'.cell? ⟨gl, 0, none⟩ = some (.int .i64 0) ∧ w'.cell? ⟨gl, 1, none⟩ = some (.bool false) ∧ w'.cell? ⟨gl, 2, none⟩ = some (.string Sl) ∧ w'.cell? ⟨gl, 3, none⟩ = some (.int .i64 xl) ∧ w'.cell? ⟨gh, 0, none⟩ = some (.int .i64 0) ∧ w'.cell? ⟨gh, 1, none⟩ = some (.bool false) ∧ w'.cell? ⟨gh, 2, none⟩ = some (.string Sh) ∧ w'.cell? ⟨gh, 3, none⟩ = some (.int .i64 xh))
          (first
            | (with_reducible exact y0.keep)
            | (with_reducible exact yZ.keep)
            | (with_reducible exact yLO.keep)
            | (with_reducible exact yHI.keep)
            | (with_reducible exact yZZ.keep)
            | (with_reducible exact yZLO.keep)
            | (with_reducible exact yZHI.keep)
            | (with_reducible exact yLOZ.keep)
            | (with_reducible exact yLOLO.keep)
            | (with_reducible exact yLOHI.keep)
            | (with_reducible exact yHIZ.keep)
            | (with_reducible exact yHILO.keep)
            | (with_reducible exact yHIHI.keep))
          (fail)
        all_goals
          obtain ⟨pLO1, pLO2, pLO3, _⟩ := bk_three w4 #[.int .i64 0, .bool false, .string Sl, .int .i64 xl] #[.int .i64 0, .bool false, .string Sl, .int .i64 xl] #[.int .i64 0, .bool false, .string Sh, .int .i64 xh] 23 23 23
          have fLO1 := four pLO1.drew
          have fLO2 := four pLO2.drew
          have fLO3 := four pLO3.drew
          have cLO := yLOHI.keep
          obtain ⟨pHI1, pHI2, pHI3, _⟩ := bk_three w4 #[.int .i64 0, .bool false, .string Sl, .int .i64 xl] #[.int .i64 0, .bool false, .string Sh, .int .i64 xh] #[.int .i64 0, .bool false, .string Sl, .int .i64 xl] 23 23 23
          have fHI1 := four pHI1.drew
          have fHI2 := four pHI2.drew
          have fHI3 := four pHI3.drew
          have cHI := yHILO.keep
          go_wp2
          go_roundw
          case rel => first | exact ⟨3, rfl, by omega, yLOHI⟩ | exact ⟨3, rfl, by omega, yHILO⟩
          case measure => first | (simp [intOf]; done) | (simp [intOf]; omega)
      · by_cases i3 : i = 3
        · subst i3
          go_upto_region 13 with (go_at_call 11; (with_reducible refine (HX.out wr (PW.out.below Z1.bl)).mono ?_); rintro e w4 ⟨rfl, b4⟩; have Z4 := (Z1.below b4).alloc (.cells #[.int .i64 0, .bool false, .string Sh, .int .i64 xh] 23); have k4 := Z4.keep; have X4 := four (Bk.start w4 23 #[.int .i64 0, .bool false, .string Sh, .int .i64 xh]))
          have y0 := Z4.drew
          have yZ := (Z4.alloc (.cells #[.int .i64 0, .bool false, .string ⟨#[]⟩, .int .i64 0] 23)).drew
          have yLO := (Z4.alloc (.cells #[.int .i64 0, .bool false, .string Sl, .int .i64 xl] 23)).drew
          have yHI := (Z4.alloc (.cells #[.int .i64 0, .bool false, .string Sh, .int .i64 xh] 23)).drew
          have yZZ := ((Z4.alloc (.cells #[.int .i64 0, .bool false, .string ⟨#[]⟩, .int .i64 0] 23)).alloc (.cells #[.int .i64 0, .bool false, .string ⟨#[]⟩, .int .i64 0] 23)).drew
          have yZLO := ((Z4.alloc (.cells #[.int .i64 0, .bool false, .string ⟨#[]⟩, .int .i64 0] 23)).alloc (.cells #[.int .i64 0, .bool false, .string Sl, .int .i64 xl] 23)).drew
          have yZHI := ((Z4.alloc (.cells #[.int .i64 0, .bool false, .string ⟨#[]⟩, .int .i64 0] 23)).alloc (.cells #[.int .i64 0, .bool false, .string Sh, .int .i64 xh] 23)).drew
          have yLOZ := ((Z4.alloc (.cells #[.int .i64 0, .bool false, .string Sl, .int .i64 xl] 23)).alloc (.cells #[.int .i64 0, .bool false, .string ⟨#[]⟩, .int .i64 0] 23)).drew
          have yLOLO := ((Z4.alloc (.cells #[.int .i64 0, .bool false, .string Sl, .int .i64 xl] 23)).alloc (.cells #[.int .i64 0, .bool false, .string Sl, .int .i64 xl] 23)).drew
          have yLOHI := ((Z4.alloc (.cells #[.int .i64 0, .bool false, .string Sl, .int .i64 xl] 23)).alloc (.cells #[.int .i64 0, .bool false, .string Sh, .int .i64 xh] 23)).drew
          have yHIZ := ((Z4.alloc (.cells #[.int .i64 0, .bool false, .string Sh, .int .i64 xh] 23)).alloc (.cells #[.int .i64 0, .bool false, .string ⟨#[]⟩, .int .i64 0] 23)).drew
          have yHILO := ((Z4.alloc (.cells #[.int .i64 0, .bool false, .string Sh, .int .i64 xh] 23)).alloc (.cells #[.int .i64 0, .bool false, .string Sl, .int .i64 xl] 23)).drew
          have yHIHI := ((Z4.alloc (.cells #[.int .i64 0, .bool false, .string Sh, .int .i64 xh] 23)).alloc (.cells #[.int .i64 0, .bool false, .string Sh, .int .i64 xh] 23)).drew
          clear k k4
          go_region_held3 (fun w' => w'.cell? ⟨w.heap.size, 0, none⟩ = some (.int .i64 0) ∧ w'.cell? ⟨w.heap.size, 1, none⟩ = some (.bool false) ∧ w'.cell? ⟨w.heap.size, 2, none⟩ = some (.string S) ∧ w'.cell? ⟨w.heap.size, 3, none⟩ = some (.int .i64 x) ∧ w'.cell? ⟨gl, 0, none⟩ = some (.int .i64 0) ∧ w'.cell? ⟨gl, 1, none⟩ = some (.bool false) ∧ w'.cell? ⟨gl, 2, none⟩ = some (.string Sl) ∧ w'.cell? ⟨gl, 3, none⟩ = some (.int .i64 xl) ∧ w'.cell? ⟨gh, 0, none⟩ = some (.int .i64 0) ∧ w'.cell? ⟨gh, 1, none⟩ = some (.bool false) ∧ w'.cell? ⟨gh, 2, none⟩ = some (.string Sh) ∧ w'.cell? ⟨gh, 3, none⟩ = some (.int .i64 xh))
            (first
              | (with_reducible exact y0.keep)
              | (with_reducible exact yZ.keep)
              | (with_reducible exact yLO.keep)
              | (with_reducible exact yHI.keep)
              | (with_reducible exact yZZ.keep)
              | (with_reducible exact yZLO.keep)
              | (with_reducible exact yZHI.keep)
              | (with_reducible exact yLOZ.keep)
              | (with_reducible exact yLOLO.keep)
              | (with_reducible exact yLOHI.keep)
              | (with_reducible exact yHIZ.keep)
              | (with_reducible exact yHILO.keep)
              | (with_reducible exact yHIHI.keep))
            (fail)
          all_goals
            obtain ⟨pLO1, pLO2, pLO3, _⟩ := bk_three w4 #[.int .i64 0, .bool false, .string Sh, .int .i64 xh] #[.int .i64 0, .bool false, .string Sl, .int .i64 xl] #[.int .i64 0, .bool false, .string Sh, .int .i64 xh] 23 23 23
            have fLO1 := four pLO1.drew
            have fLO2 := four pLO2.drew
            have fLO3 := four pLO3.drew
            have cLO := yLOHI.keep
            obtain ⟨pHI1, pHI2, pHI3, _⟩ := bk_three w4 #[.int .i64 0, .bool false, .string Sh, .int .i64 xh] #[.int .i64 0, .bool false, .string Sh, .int .i64 xh] #[.int .i64 0, .bool false, .string Sl, .int .i64 xl] 23 23 23
            have fHI1 := four pHI1.drew
            have fHI2 := four pHI2.drew
            have fHI3 := four pHI3.drew
            have cHI := yHILO.keep
            go_wp2
            go_roundw
            case rel => first | exact ⟨4, rfl, by omega, yLOHI⟩ | exact ⟨4, rfl, by omega, yHILO⟩
            case measure => first | (simp [intOf]; done) | (simp [intOf]; omega)
        · have n2 : ((i : Int) == 2) = false := by rw [beq_eq_false_iff_ne]; omega
          have n3 : ((i : Int) == 3) = false := by rw [beq_eq_false_iff_ne]; omega
          rcases HM'.out i hi8 with hq | hq
          · have HQ := Lib.hid hq
            clear hq
            go_upto_region 13 with (go_at_call 11; (with_reducible refine (HQ.out wr (PW.out.below Z1.bl)).mono ?_); rintro e w4 ⟨rfl, b4⟩; have Z4 := (Z1.below b4).alloc (.cells #[.int .i64 0, .bool false, .string Sl, .int .i64 xl] 23); have k4 := Z4.keep; have X4 := four (Bk.start w4 23 #[.int .i64 0, .bool false, .string Sl, .int .i64 xl]))
            have y0 := Z4.drew
            have yZ := (Z4.alloc (.cells #[.int .i64 0, .bool false, .string ⟨#[]⟩, .int .i64 0] 23)).drew
            have yLO := (Z4.alloc (.cells #[.int .i64 0, .bool false, .string Sl, .int .i64 xl] 23)).drew
            have yHI := (Z4.alloc (.cells #[.int .i64 0, .bool false, .string Sh, .int .i64 xh] 23)).drew
            have yZZ := ((Z4.alloc (.cells #[.int .i64 0, .bool false, .string ⟨#[]⟩, .int .i64 0] 23)).alloc (.cells #[.int .i64 0, .bool false, .string ⟨#[]⟩, .int .i64 0] 23)).drew
            have yZLO := ((Z4.alloc (.cells #[.int .i64 0, .bool false, .string ⟨#[]⟩, .int .i64 0] 23)).alloc (.cells #[.int .i64 0, .bool false, .string Sl, .int .i64 xl] 23)).drew
            have yZHI := ((Z4.alloc (.cells #[.int .i64 0, .bool false, .string ⟨#[]⟩, .int .i64 0] 23)).alloc (.cells #[.int .i64 0, .bool false, .string Sh, .int .i64 xh] 23)).drew
            have yLOZ := ((Z4.alloc (.cells #[.int .i64 0, .bool false, .string Sl, .int .i64 xl] 23)).alloc (.cells #[.int .i64 0, .bool false, .string ⟨#[]⟩, .int .i64 0] 23)).drew
            have yLOLO := ((Z4.alloc (.cells #[.int .i64 0, .bool false, .string Sl, .int .i64 xl] 23)).alloc (.cells #[.int .i64 0, .bool false, .string Sl, .int .i64 xl] 23)).drew
            have yLOHI := ((Z4.alloc (.cells #[.int .i64 0, .bool false, .string Sl, .int .i64 xl] 23)).alloc (.cells #[.int .i64 0, .bool false, .string Sh, .int .i64 xh] 23)).drew
            have yHIZ := ((Z4.alloc (.cells #[.int .i64 0, .bool false, .string Sh, .int .i64 xh] 23)).alloc (.cells #[.int .i64 0, .bool false, .string ⟨#[]⟩, .int .i64 0] 23)).drew
            have yHILO := ((Z4.alloc (.cells #[.int .i64 0, .bool false, .string Sh, .int .i64 xh] 23)).alloc (.cells #[.int .i64 0, .bool false, .string Sl, .int .i64 xl] 23)).drew
            have yHIHI := ((Z4.alloc (.cells #[.int .i64 0, .bool false, .string Sh, .int .i64 xh] 23)).alloc (.cells #[.int .i64 0, .bool false, .string Sh, .int .i64 xh] 23)).drew
            clear k k4
            go_region_held3 (fun w' => w'.cell? ⟨w.heap.size, 0, none⟩ = some (.int .i64 0) ∧ w'.cell? ⟨w.heap.size, 1, none⟩ = some (.bool false) ∧ w'.cell? ⟨w.heap.size, 2, none⟩ = some (.string S) ∧ w'.cell? ⟨w.heap.size, 3, none⟩ = some (.int .i64 x) ∧ w'.cell? ⟨gl, 0, none⟩ = some (.int .i64 0) ∧ w'.cell? ⟨gl, 1, none⟩ = some (.bool false) ∧ w'.cell? ⟨gl, 2, none⟩ = some (.string Sl) ∧ w'.cell? ⟨gl, 3, none⟩ = some (.int .i64 xl) ∧ w'.cell? ⟨gh, 0, none⟩ = some (.int .i64 0) ∧ w'.cell? ⟨gh, 1, none⟩ = some (.bool false) ∧ w'.cell? ⟨gh, 2, none⟩ = some (.string Sh) ∧ w'.cell? ⟨gh, 3, none⟩ = some (.int .i64 xh))
              (first
                | (with_reducible exact y0.keep)
                | (with_reducible exact yZ.keep)
                | (with_reducible exact yLO.keep)
                | (with_reducible exact yHI.keep)
                | (with_reducible exact yZZ.keep)
                | (with_reducible exact yZLO.keep)
                | (with_reducible exact yZHI.keep)
                | (with_reducible exact yLOZ.keep)
                | (with_reducible exact yLOLO.keep)
                | (with_reducible exact yLOHI.keep)
                | (with_reducible exact yHIZ.keep)
                | (with_reducible exact yHILO.keep)
                | (with_reducible exact yHIHI.keep))
              (fail)
            all_goals
              obtain ⟨pLO1, pLO2, pLO3, _⟩ := bk_three w4 #[.int .i64 0, .bool false, .string Sl, .int .i64 xl] #[.int .i64 0, .bool false, .string Sl, .int .i64 xl] #[.int .i64 0, .bool false, .string Sh, .int .i64 xh] 23 23 23
              have fLO1 := four pLO1.drew
              have fLO2 := four pLO2.drew
              have fLO3 := four pLO3.drew
              have cLO := yLOHI.keep
              obtain ⟨pHI1, pHI2, pHI3, _⟩ := bk_three w4 #[.int .i64 0, .bool false, .string Sl, .int .i64 xl] #[.int .i64 0, .bool false, .string Sh, .int .i64 xh] #[.int .i64 0, .bool false, .string Sl, .int .i64 xl] 23 23 23
              have fHI1 := four pHI1.drew
              have fHI2 := four pHI2.drew
              have fHI3 := four pHI3.drew
              have cHI := yHILO.keep
              go_wp2
              go_roundw
              case rel => first | exact ⟨i + 1, rfl, by omega, yLOHI⟩ | exact ⟨i + 1, rfl, by omega, yHILO⟩
              case measure => first | (simp [intOf]; done) | (simp [intOf]; omega)
          · have HQ := Lib.hid hq
            clear hq
            go_upto_region 13 with (go_at_call 11; (with_reducible refine (HQ.out wr (PW.out.below Z1.bl)).mono ?_); rintro e w4 ⟨rfl, b4⟩; have Z4 := (Z1.below b4).alloc (.cells #[.int .i64 0, .bool false, .string Sh, .int .i64 xh] 23); have k4 := Z4.keep; have X4 := four (Bk.start w4 23 #[.int .i64 0, .bool false, .string Sh, .int .i64 xh]))
            have y0 := Z4.drew
            have yZ := (Z4.alloc (.cells #[.int .i64 0, .bool false, .string ⟨#[]⟩, .int .i64 0] 23)).drew
            have yLO := (Z4.alloc (.cells #[.int .i64 0, .bool false, .string Sl, .int .i64 xl] 23)).drew
            have yHI := (Z4.alloc (.cells #[.int .i64 0, .bool false, .string Sh, .int .i64 xh] 23)).drew
            have yZZ := ((Z4.alloc (.cells #[.int .i64 0, .bool false, .string ⟨#[]⟩, .int .i64 0] 23)).alloc (.cells #[.int .i64 0, .bool false, .string ⟨#[]⟩, .int .i64 0] 23)).drew
            have yZLO := ((Z4.alloc (.cells #[.int .i64 0, .bool false, .string ⟨#[]⟩, .int .i64 0] 23)).alloc (.cells #[.int .i64 0, .bool false, .string Sl, .int .i64 xl] 23)).drew
            have yZHI := ((Z4.alloc (.cells #[.int .i64 0, .bool false, .string ⟨#[]⟩, .int .i64 0] 23)).alloc (.cells #[.int .i64 0, .bool false, .string Sh, .int .i64 xh] 23)).drew
            have yLOZ := ((Z4.alloc (.cells #[.int .i64 0, .bool false, .string Sl, .int .i64 xl] 23)).alloc (.cells #[.int .i64 0, .bool false, .string ⟨#[]⟩, .int .i64 0] 23)).drew
            have yLOLO := ((Z4.alloc (.cells #[.int .i64 0, .bool false, .string Sl, .int .i64 xl] 23)).alloc (.cells #[.int .i64 0, .bool false, .string Sl, .int .i64 xl] 23)).drew
            have yLOHI := ((Z4.alloc (.cells #[.int .i64 0, .bool false, .string Sl, .int .i64 xl] 23)).alloc (.cells #[.int .i64 0, .bool false, .string Sh, .int .i64 xh] 23)).drew
            have yHIZ := ((Z4.alloc (.cells #[.int .i64 0, .bool false, .string Sh, .int .i64 xh] 23)).alloc (.cells #[.int .i64 0, .bool false, .string ⟨#[]⟩, .int .i64 0] 23)).drew
            have yHILO := ((Z4.alloc (.cells #[.int .i64 0, .bool false, .string Sh, .int .i64 xh] 23)).alloc (.cells #[.int .i64 0, .bool false, .string Sl, .int .i64 xl] 23)).drew
            have yHIHI := ((Z4.alloc (.cells #[.int .i64 0, .bool false, .string Sh, .int .i64 xh] 23)).alloc (.cells #[.int .i64 0, .bool false, .string Sh, .int .i64 xh] 23)).drew
            clear k k4
            go_region_held3 (fun w' => w'.cell? ⟨w.heap.size, 0, none⟩ = some (.int .i64 0) ∧ w'.cell? ⟨w.heap.size, 1, none⟩ = some (.bool false) ∧ w'.cell? ⟨w.heap.size, 2, none⟩ = some (.string S) ∧ w'.cell? ⟨w.heap.size, 3, none⟩ = some (.int .i64 x) ∧ w'.cell? ⟨gl, 0, none⟩ = some (.int .i64 0) ∧ w'.cell? ⟨gl, 1, none⟩ = some (.bool false) ∧ w'.cell? ⟨gl, 2, none⟩ = some (.string Sl) ∧ w'.cell? ⟨gl, 3, none⟩ = some (.int .i64 xl) ∧ w'.cell? ⟨gh, 0, none⟩ = some (.int .i64 0) ∧ w'.cell? ⟨gh, 1, none⟩ = some (.bool false) ∧ w'.cell? ⟨gh, 2, none⟩ = some (.string Sh) ∧ w'.cell? ⟨gh, 3, none⟩ = some (.int .i64 xh))
              (first
                | (with_reducible exact y0.keep)
                | (with_reducible exact yZ.keep)
                | (with_reducible exact yLO.keep)
                | (with_reducible exact yHI.keep)
                | (with_reducible exact yZZ.keep)
                | (with_reducible exact yZLO.keep)
                | (with_reducible exact yZHI.keep)
                | (with_reducible exact yLOZ.keep)
                | (with_reducible exact yLOLO.keep)
                | (with_reducible exact yLOHI.keep)
                | (with_reducible exact yHIZ.keep)
                | (with_reducible exact yHILO.keep)
                | (with_reducible exact yHIHI.keep))
              (fail)
            all_goals
              obtain ⟨pLO1, pLO2, pLO3, _⟩ := bk_three w4 #[.int .i64 0, .bool false, .string Sh, .int .i64 xh] #[.int .i64 0, .bool false, .string Sl, .int .i64 xl] #[.int .i64 0, .bool false, .string Sh, .int .i64 xh] 23 23 23
              have fLO1 := four pLO1.drew
              have fLO2 := four pLO2.drew
              have fLO3 := four pLO3.drew
              have cLO := yLOHI.keep
              obtain ⟨pHI1, pHI2, pHI3, _⟩ := bk_three w4 #[.int .i64 0, .bool false, .string Sh, .int .i64 xh] #[.int .i64 0, .bool false, .string Sh, .int .i64 xh] #[.int .i64 0, .bool false, .string Sl, .int .i64 xl] 23 23 23
              have fHI1 := four pHI1.drew
              have fHI2 := four pHI2.drew
              have fHI3 := four pHI3.drew
              have cHI := yHILO.keep
              go_wp2
              go_roundw
              case rel => first | exact ⟨i + 1, rfl, by omega, yLOHI⟩ | exact ⟨i + 1, rfl, by omega, yHILO⟩
              case measure => first | (simp [intOf]; done) | (simp [intOf]; omega)
    · obtain rfl : i = 8 := by omega
      have k9 := Z1.drew.keep
      go_wp2
      clear k
      go_region_held3 (fun w' => w'.cell? ⟨w.heap.size, 0, none⟩ = some (.int .i64 0) ∧ w'.cell? ⟨w.heap.size, 1, none⟩ = some (.bool false) ∧ w'.cell? ⟨w.heap.size, 2, none⟩ = some (.string S) ∧ w'.cell? ⟨w.heap.size, 3, none⟩ = some (.int .i64 x) ∧ w'.cell? ⟨gl, 0, none⟩ = some (.int .i64 0) ∧ w'.cell? ⟨gl, 1, none⟩ = some (.bool false) ∧ w'.cell? ⟨gl, 2, none⟩ = some (.string Sl) ∧ w'.cell? ⟨gl, 3, none⟩ = some (.int .i64 xl) ∧ w'.cell? ⟨gh, 0, none⟩ = some (.int .i64 0) ∧ w'.cell? ⟨gh, 1, none⟩ = some (.bool false) ∧ w'.cell? ⟨gh, 2, none⟩ = some (.string Sh) ∧ w'.cell? ⟨gh, 3, none⟩ = some (.int .i64 xh))
        (first
          | (with_reducible exact k9)
          | (with_reducible exact k10))
        ((go_at_call 23; (with_reducible refine (HL'.out _).mono ?_); rintro e w9 ⟨rfl, b9⟩; have z9 := Z1.drew.below b9; have k10 := z9.keep))
      go_wp2
      go_ret
      exact ⟨rfl, z9.bl⟩
set_option maxHeartbeats 32000000 in
set_option maxRecDepth 100000 in
theorem order_two_n (S Sl Sh : ByteArray) (x xl xh place : Int) (w : World) (hp : Pow w)
    (HM : ∀ (m : Nat), m < 8 → (∀ w1, Pow w1 → Calls Tryz.prog 11 #[.agg #[.int .i64 0, .bool true, .string S, .int .i64 x], .int .i64 place, .int .i64 (m : Nat)] w1 fun e w' => e = .returned (.tuple #[.agg #[.int .i64 0, .bool true, .string Sl, .int .i64 xl], .int .i64 0]) ∧ Below w1.heap.size w1 w') ∨ (∀ w1, Pow w1 → Calls Tryz.prog 11 #[.agg #[.int .i64 0, .bool true, .string S, .int .i64 x], .int .i64 place, .int .i64 (m : Nat)] w1 fun e w' => e = .returned (.tuple #[.agg #[.int .i64 0, .bool true, .string Sh, .int .i64 xh], .int .i64 0]) ∧ Below w1.heap.size w1 w'))
    (HF : ∀ w1, Pow w1 → Calls Tryz.prog 11 #[.agg #[.int .i64 0, .bool true, .string S, .int .i64 x], .int .i64 place, .int .i64 1] w1 fun e w' => e = .returned (.tuple #[.agg #[.int .i64 0, .bool true, .string Sl, .int .i64 xl], .int .i64 0]) ∧ Below w1.heap.size w1 w')
    (HC : ∀ w1, Pow w1 → Calls Tryz.prog 11 #[.agg #[.int .i64 0, .bool true, .string S, .int .i64 x], .int .i64 place, .int .i64 0] w1 fun e w' => e = .returned (.tuple #[.agg #[.int .i64 0, .bool true, .string Sh, .int .i64 xh], .int .i64 0]) ∧ Below w1.heap.size w1 w')
    (HN : ∀ w1, Pow w1 → Calls Tryz.prog 11 #[.agg #[.int .i64 0, .bool true, .string S, .int .i64 x], .int .i64 place, .int .i64 2] w1 fun e w' => e = .returned (.tuple #[.agg #[.int .i64 0, .bool true, .string Sh, .int .i64 xh], .int .i64 0]) ∧ Below w1.heap.size w1 w')
    (HX : ∀ w1, Pow w1 → Calls Tryz.prog 11 #[.agg #[.int .i64 0, .bool true, .string S, .int .i64 x], .int .i64 place, .int .i64 3] w1 fun e w' => e = .returned (.tuple #[.agg #[.int .i64 0, .bool true, .string Sl, .int .i64 xl], .int .i64 0]) ∧ Below w1.heap.size w1 w')
    (q1 : ∀ w, (binOp .neq 23 (.agg #[.int .i64 0, .bool true, .string Sh, .int .i64 xh]) (.agg #[.int .i64 0, .bool true, .string Sl, .int .i64 xl])).run Tryz.prog w = .ok (.bool true) w)
    (q2 : ∀ w, (binOp .eql 23 (.agg #[.int .i64 0, .bool true, .string Sl, .int .i64 xl]) (.agg #[.int .i64 0, .bool true, .string Sh, .int .i64 xh])).run Tryz.prog w = .ok (.bool false) w)
    (q3 : ∀ w, (binOp .eql 23 (.agg #[.int .i64 0, .bool true, .string Sl, .int .i64 xl]) (.agg #[.int .i64 0, .bool true, .string S, .int .i64 x])).run Tryz.prog w = .ok (.bool false) w)
    (HL : ∀ w1, Calls Tryz.prog 23 #[.agg #[.int .i64 0, .bool true, .string Sh, .int .i64 xh], .agg #[.int .i64 0, .bool true, .string Sl, .int .i64 xl]] w1 fun e w' => e = .returned (.bool false) ∧ Below w1.heap.size w1 w') :
    Calls Tryz.prog 9 #[.agg #[.int .i64 0, .bool true, .string S, .int .i64 x], .int .i64 place] w fun e w' => e = .returned (.bool true) ∧ Below w.heap.size w w' := by
  have D0 := Lib.hid (Bk.start w 23 #[.int .i64 0, .bool true, .string S, .int .i64 x])
  have b0 := alloc_below w (.cells #[.int .i64 0, .bool true, .string S, .int .i64 x] 23)
  have HA := Lib.hid (awake_calls _ (hp.below b0))
  have PW := Lib.hid hp
  have B0 := Lib.hid b0
  have HF := Lib.hid HF
  have HC := Lib.hid HC
  have HN := Lib.hid HN
  have HX := Lib.hid HX
  have HM' := Lib.hid HM
  clear HM
  have HL' := Lib.hid HL
  clear hp b0 HL
  go_enter Tryz.func9, Tryz.ntmps9
  go_wp2_with (first
    | (go_at_call 13; (with_reducible refine HA.out.mono ?_); rintro e w1 ⟨rfl, b1⟩; have d1 := D0.out.below b1; have k1 := four d1)
    | (go_at_call 11; first
      | ((with_reducible refine (HF.out w1 (PW.out.below (on B0.out b1))).mono ?_); rintro e w2 ⟨rfl, b2⟩; have d2 := (d1.below b2).alloc (.cells #[.int .i64 0, .bool true, .string Sl, .int .i64 xl] 23); have k2 := four d2; have l2 := on (on (on B0.out b1) b2) (alloc_below w2 (.cells #[.int .i64 0, .bool true, .string Sl, .int .i64 xl] 23)))
      | ((with_reducible refine (HC.out _ (PW.out.below l2)).mono ?_); rintro e w3 ⟨rfl, b3⟩)))
  have Z : TO w (w3.alloc (.cells #[.int .i64 0, .bool true, .string Sh, .int .i64 xh] 23)) w2.heap.size w3.heap.size #[.int .i64 0, .bool true, .string S, .int .i64 x] #[.int .i64 0, .bool true, .string Sl, .int .i64 xl] #[.int .i64 0, .bool true, .string Sh, .int .i64 xh] :=
    ⟨(d2.below b3).alloc _, ((Bk.start w2 23 #[.int .i64 0, .bool true, .string Sl, .int .i64 xl]).below b3).alloc _, Bk.start w3 _ _, on (on l2 b3) (alloc_below w3 _)⟩
  generalize w3.alloc (.cells #[.int .i64 0, .bool true, .string Sh, .int .i64 xh] 23) = V at *
  generalize w3.heap.size = gh at *
  generalize w2.heap.size = gl at *
  clear k1 k2 d1 d2 b1 b2 b3 l2
  go_loopw [9] (fun z wr => ∃ i : Nat, z = .int .i64 (i : Nat) ∧ i ≤ 8 ∧ TO w wr gl gh #[.int .i64 0, .bool true, .string S, .int .i64 x] #[.int .i64 0, .bool true, .string Sl, .int .i64 xl] #[.int .i64 0, .bool true, .string Sh, .int .i64 xh]) (fun z _ => 8 - (intOf z).toNat)
  case atStart => exact ⟨0, rfl, by omega, Z⟩
  case round =>
    obtain ⟨i, rfl, hi, Z1⟩ := hrel
    have k := Z1.keep
    by_cases hi8 : i < 8
    · skip
      by_cases i2 : i = 2
      · subst i2
        go_upto_region 13 with (go_at_call 11; (with_reducible refine (HN.out wr (PW.out.below Z1.bl)).mono ?_); rintro e w4 ⟨rfl, b4⟩; have Z4 := (Z1.below b4).alloc (.cells #[.int .i64 0, .bool true, .string Sh, .int .i64 xh] 23); have k4 := Z4.keep; have X4 := four (Bk.start w4 23 #[.int .i64 0, .bool true, .string Sh, .int .i64 xh]))
        have y0 := Z4.drew
        have yZ := (Z4.alloc (.cells #[.int .i64 0, .bool false, .string ⟨#[]⟩, .int .i64 0] 23)).drew
        have yLO := (Z4.alloc (.cells #[.int .i64 0, .bool true, .string Sl, .int .i64 xl] 23)).drew
        have yHI := (Z4.alloc (.cells #[.int .i64 0, .bool true, .string Sh, .int .i64 xh] 23)).drew
        have yZZ := ((Z4.alloc (.cells #[.int .i64 0, .bool false, .string ⟨#[]⟩, .int .i64 0] 23)).alloc (.cells #[.int .i64 0, .bool false, .string ⟨#[]⟩, .int .i64 0] 23)).drew
        have yZLO := ((Z4.alloc (.cells #[.int .i64 0, .bool false, .string ⟨#[]⟩, .int .i64 0] 23)).alloc (.cells #[.int .i64 0, .bool true, .string Sl, .int .i64 xl] 23)).drew
        have yZHI := ((Z4.alloc (.cells #[.int .i64 0, .bool false, .string ⟨#[]⟩, .int .i64 0] 23)).alloc (.cells #[.int .i64 0, .bool true, .string Sh, .int .i64 xh] 23)).drew
        have yLOZ := ((Z4.alloc (.cells #[.int .i64 0, .bool true, .string Sl, .int .i64 xl] 23)).alloc (.cells #[.int .i64 0, .bool false, .string ⟨#[]⟩, .int .i64 0] 23)).drew
        have yLOLO := ((Z4.alloc (.cells #[.int .i64 0, .bool true, .string Sl, .int .i64 xl] 23)).alloc (.cells #[.int .i64 0, .bool true, .string Sl, .int .i64 xl] 23)).drew
        have yLOHI := ((Z4.alloc (.cells #[.int .i64 0, .bool true, .string Sl, .int .i64 xl] 23)).alloc (.cells #[.int .i64 0, .bool true, .string Sh, .int .i64 xh] 23)).drew
        have yHIZ := ((Z4.alloc (.cells #[.int .i64 0, .bool true, .string Sh, .int .i64 xh] 23)).alloc (.cells #[.int .i64 0, .bool false, .string ⟨#[]⟩, .int .i64 0] 23)).drew
        have yHILO := ((Z4.alloc (.cells #[.int .i64 0, .bool true, .string Sh, .int .i64 xh] 23)).alloc (.cells #[.int .i64 0, .bool true, .string Sl, .int .i64 xl] 23)).drew
        have yHIHI := ((Z4.alloc (.cells #[.int .i64 0, .bool true, .string Sh, .int .i64 xh] 23)).alloc (.cells #[.int .i64 0, .bool true, .string Sh, .int .i64 xh] 23)).drew
        clear k k4
        go_region_held3 (fun w' => w'.cell? ⟨w.heap.size, 0, none⟩ = some (.int .i64 0) ∧ w'.cell? ⟨w.heap.size, 1, none⟩ = some (.bool true) ∧ w'.cell? ⟨w.heap.size, 2, none⟩ = some (.string S) ∧ w'.cell? ⟨w.heap.size, 3, none⟩ = some (.int .i64 x) ∧ w'.cell? ⟨gl, 0, none⟩ = some (.int .i64 0) ∧ w'.cell? ⟨gl, 1, none⟩ = some (.bool true) ∧ w'.cell? ⟨gl, 2, none⟩ = some (.string Sl) ∧ w'.cell? ⟨gl, 3, none⟩ = some (.int .i64 xl) ∧ w'.cell? ⟨gh, 0, none⟩ = some (.int .i64 0) ∧ w'.cell? ⟨gh, 1, none⟩ = some (.bool true) ∧ w'.cell? ⟨gh, 2, none⟩ = some (.string Sh) ∧ w'.cell? ⟨gh, 3, none⟩ = some (.int .i64 xh))
          (first
            | (with_reducible exact y0.keep)
            | (with_reducible exact yZ.keep)
            | (with_reducible exact yLO.keep)
            | (with_reducible exact yHI.keep)
            | (with_reducible exact yZZ.keep)
            | (with_reducible exact yZLO.keep)
            | (with_reducible exact yZHI.keep)
            | (with_reducible exact yLOZ.keep)
            | (with_reducible exact yLOLO.keep)
            | (with_reducible exact yLOHI.keep)
            | (with_reducible exact yHIZ.keep)
            | (with_reducible exact yHILO.keep)
            | (with_reducible exact yHIHI.keep))
          (fail)
        all_goals
          have x0 := yLOHI.keep
          have x1 := yHILO.keep
          obtain ⟨pLO1, pLO2, pLO3, _⟩ := bk_three w4 #[.int .i64 0, .bool true, .string Sh, .int .i64 xh] #[.int .i64 0, .bool true, .string Sl, .int .i64 xl] #[.int .i64 0, .bool true, .string Sh, .int .i64 xh] 23 23 23
          have oLO2 := eight' pLO2.drew.drew
          have oLO3 := eight' pLO3.drew.drew
          obtain ⟨pHI1, pHI2, pHI3, _⟩ := bk_three w4 #[.int .i64 0, .bool true, .string Sh, .int .i64 xh] #[.int .i64 0, .bool true, .string Sh, .int .i64 xh] #[.int .i64 0, .bool true, .string Sl, .int .i64 xl] 23 23 23
          have oHI2 := eight' pHI2.drew.drew
          have oHI3 := eight' pHI3.drew.drew
          go_wp2
          have vZZ := yZZ.drew
          have vZLO := yZLO.drew
          have vZHI := yZHI.drew
          have vLOZ := yLOZ.drew
          have vLOLO := yLOLO.drew
          have vLOHI := yLOHI.drew
          have vHIZ := yHIZ.drew
          have vHILO := yHILO.drew
          have vHIHI := yHIHI.drew
          clear x0 x1
          go_region_held3 (fun w' => w'.cell? ⟨w.heap.size, 0, none⟩ = some (.int .i64 0) ∧ w'.cell? ⟨w.heap.size, 1, none⟩ = some (.bool true) ∧ w'.cell? ⟨w.heap.size, 2, none⟩ = some (.string S) ∧ w'.cell? ⟨w.heap.size, 3, none⟩ = some (.int .i64 x) ∧ w'.cell? ⟨gl, 0, none⟩ = some (.int .i64 0) ∧ w'.cell? ⟨gl, 1, none⟩ = some (.bool true) ∧ w'.cell? ⟨gl, 2, none⟩ = some (.string Sl) ∧ w'.cell? ⟨gl, 3, none⟩ = some (.int .i64 xl) ∧ w'.cell? ⟨gh, 0, none⟩ = some (.int .i64 0) ∧ w'.cell? ⟨gh, 1, none⟩ = some (.bool true) ∧ w'.cell? ⟨gh, 2, none⟩ = some (.string Sh) ∧ w'.cell? ⟨gh, 3, none⟩ = some (.int .i64 xh))
            (first
              | (with_reducible exact vZZ.keep)
              | (with_reducible exact vZLO.keep)
              | (with_reducible exact vZHI.keep)
              | (with_reducible exact vLOZ.keep)
              | (with_reducible exact vLOLO.keep)
              | (with_reducible exact vLOHI.keep)
              | (with_reducible exact vHIZ.keep)
              | (with_reducible exact vHILO.keep)
              | (with_reducible exact vHIHI.keep))
            (fail)
          clear oLO2 oLO3 oHI2 oHI3 pLO1 pLO2 pLO3 pHI1 pHI2 pHI3
          obtain ⟨pLO1, pLO2, pLO3, _⟩ := bk_three w4 #[.int .i64 0, .bool true, .string Sh, .int .i64 xh] #[.int .i64 0, .bool true, .string Sl, .int .i64 xl] #[.int .i64 0, .bool true, .string Sh, .int .i64 xh] 23 23 23
          have fLO1 := four pLO1.drew.drew
          have fLO2 := four pLO2.drew.drew
          have fLO3 := four pLO3.drew.drew
          have cLO := vLOHI.keep
          obtain ⟨pHI1, pHI2, pHI3, _⟩ := bk_three w4 #[.int .i64 0, .bool true, .string Sh, .int .i64 xh] #[.int .i64 0, .bool true, .string Sh, .int .i64 xh] #[.int .i64 0, .bool true, .string Sl, .int .i64 xl] 23 23 23
          have fHI1 := four pHI1.drew.drew
          have fHI2 := four pHI2.drew.drew
          have fHI3 := four pHI3.drew.drew
          have cHI := vHILO.keep
          go_wp2
          go_roundw
          case rel => first | exact ⟨3, rfl, by omega, vLOHI⟩ | exact ⟨3, rfl, by omega, vHILO⟩
          case measure => first | (simp [intOf]; done) | (simp [intOf]; omega)
      · by_cases i3 : i = 3
        · subst i3
          go_upto_region 13 with (go_at_call 11; (with_reducible refine (HX.out wr (PW.out.below Z1.bl)).mono ?_); rintro e w4 ⟨rfl, b4⟩; have Z4 := (Z1.below b4).alloc (.cells #[.int .i64 0, .bool true, .string Sl, .int .i64 xl] 23); have k4 := Z4.keep; have X4 := four (Bk.start w4 23 #[.int .i64 0, .bool true, .string Sl, .int .i64 xl]))
          have y0 := Z4.drew
          have yZ := (Z4.alloc (.cells #[.int .i64 0, .bool false, .string ⟨#[]⟩, .int .i64 0] 23)).drew
          have yLO := (Z4.alloc (.cells #[.int .i64 0, .bool true, .string Sl, .int .i64 xl] 23)).drew
          have yHI := (Z4.alloc (.cells #[.int .i64 0, .bool true, .string Sh, .int .i64 xh] 23)).drew
          have yZZ := ((Z4.alloc (.cells #[.int .i64 0, .bool false, .string ⟨#[]⟩, .int .i64 0] 23)).alloc (.cells #[.int .i64 0, .bool false, .string ⟨#[]⟩, .int .i64 0] 23)).drew
          have yZLO := ((Z4.alloc (.cells #[.int .i64 0, .bool false, .string ⟨#[]⟩, .int .i64 0] 23)).alloc (.cells #[.int .i64 0, .bool true, .string Sl, .int .i64 xl] 23)).drew
          have yZHI := ((Z4.alloc (.cells #[.int .i64 0, .bool false, .string ⟨#[]⟩, .int .i64 0] 23)).alloc (.cells #[.int .i64 0, .bool true, .string Sh, .int .i64 xh] 23)).drew
          have yLOZ := ((Z4.alloc (.cells #[.int .i64 0, .bool true, .string Sl, .int .i64 xl] 23)).alloc (.cells #[.int .i64 0, .bool false, .string ⟨#[]⟩, .int .i64 0] 23)).drew
          have yLOLO := ((Z4.alloc (.cells #[.int .i64 0, .bool true, .string Sl, .int .i64 xl] 23)).alloc (.cells #[.int .i64 0, .bool true, .string Sl, .int .i64 xl] 23)).drew
          have yLOHI := ((Z4.alloc (.cells #[.int .i64 0, .bool true, .string Sl, .int .i64 xl] 23)).alloc (.cells #[.int .i64 0, .bool true, .string Sh, .int .i64 xh] 23)).drew
          have yHIZ := ((Z4.alloc (.cells #[.int .i64 0, .bool true, .string Sh, .int .i64 xh] 23)).alloc (.cells #[.int .i64 0, .bool false, .string ⟨#[]⟩, .int .i64 0] 23)).drew
          have yHILO := ((Z4.alloc (.cells #[.int .i64 0, .bool true, .string Sh, .int .i64 xh] 23)).alloc (.cells #[.int .i64 0, .bool true, .string Sl, .int .i64 xl] 23)).drew
          have yHIHI := ((Z4.alloc (.cells #[.int .i64 0, .bool true, .string Sh, .int .i64 xh] 23)).alloc (.cells #[.int .i64 0, .bool true, .string Sh, .int .i64 xh] 23)).drew
          clear k k4
          go_region_held3 (fun w' => w'.cell? ⟨w.heap.size, 0, none⟩ = some (.int .i64 0) ∧ w'.cell? ⟨w.heap.size, 1, none⟩ = some (.bool true) ∧ w'.cell? ⟨w.heap.size, 2, none⟩ = some (.string S) ∧ w'.cell? ⟨w.heap.size, 3, none⟩ = some (.int .i64 x) ∧ w'.cell? ⟨gl, 0, none⟩ = some (.int .i64 0) ∧ w'.cell? ⟨gl, 1, none⟩ = some (.bool true) ∧ w'.cell? ⟨gl, 2, none⟩ = some (.string Sl) ∧ w'.cell? ⟨gl, 3, none⟩ = some (.int .i64 xl) ∧ w'.cell? ⟨gh, 0, none⟩ = some (.int .i64 0) ∧ w'.cell? ⟨gh, 1, none⟩ = some (.bool true) ∧ w'.cell? ⟨gh, 2, none⟩ = some (.string Sh) ∧ w'.cell? ⟨gh, 3, none⟩ = some (.int .i64 xh))
            (first
              | (with_reducible exact y0.keep)
              | (with_reducible exact yZ.keep)
              | (with_reducible exact yLO.keep)
              | (with_reducible exact yHI.keep)
              | (with_reducible exact yZZ.keep)
              | (with_reducible exact yZLO.keep)
              | (with_reducible exact yZHI.keep)
              | (with_reducible exact yLOZ.keep)
              | (with_reducible exact yLOLO.keep)
              | (with_reducible exact yLOHI.keep)
              | (with_reducible exact yHIZ.keep)
              | (with_reducible exact yHILO.keep)
              | (with_reducible exact yHIHI.keep))
            (fail)
          all_goals
            have x0 := yLOHI.keep
            have x1 := yHILO.keep
            obtain ⟨pLO1, pLO2, pLO3, _⟩ := bk_three w4 #[.int .i64 0, .bool true, .string Sl, .int .i64 xl] #[.int .i64 0, .bool true, .string Sl, .int .i64 xl] #[.int .i64 0, .bool true, .string Sh, .int .i64 xh] 23 23 23
            have oLO2 := eight' pLO2.drew.drew
            have oLO3 := eight' pLO3.drew.drew
            obtain ⟨pHI1, pHI2, pHI3, _⟩ := bk_three w4 #[.int .i64 0, .bool true, .string Sl, .int .i64 xl] #[.int .i64 0, .bool true, .string Sh, .int .i64 xh] #[.int .i64 0, .bool true, .string Sl, .int .i64 xl] 23 23 23
            have oHI2 := eight' pHI2.drew.drew
            have oHI3 := eight' pHI3.drew.drew
            go_wp2
            have vZZ := yZZ.drew
            have vZLO := yZLO.drew
            have vZHI := yZHI.drew
            have vLOZ := yLOZ.drew
            have vLOLO := yLOLO.drew
            have vLOHI := yLOHI.drew
            have vHIZ := yHIZ.drew
            have vHILO := yHILO.drew
            have vHIHI := yHIHI.drew
            clear x0 x1
            go_region_held3 (fun w' => w'.cell? ⟨w.heap.size, 0, none⟩ = some (.int .i64 0) ∧ w'.cell? ⟨w.heap.size, 1, none⟩ = some (.bool true) ∧ w'.cell? ⟨w.heap.size, 2, none⟩ = some (.string S) ∧ w'.cell? ⟨w.heap.size, 3, none⟩ = some (.int .i64 x) ∧ w'.cell? ⟨gl, 0, none⟩ = some (.int .i64 0) ∧ w'.cell? ⟨gl, 1, none⟩ = some (.bool true) ∧ w'.cell? ⟨gl, 2, none⟩ = some (.string Sl) ∧ w'.cell? ⟨gl, 3, none⟩ = some (.int .i64 xl) ∧ w'.cell? ⟨gh, 0, none⟩ = some (.int .i64 0) ∧ w'.cell? ⟨gh, 1, none⟩ = some (.bool true) ∧ w'.cell? ⟨gh, 2, none⟩ = some (.string Sh) ∧ w'.cell? ⟨gh, 3, none⟩ = some (.int .i64 xh))
              (first
                | (with_reducible exact vZZ.keep)
                | (with_reducible exact vZLO.keep)
                | (with_reducible exact vZHI.keep)
                | (with_reducible exact vLOZ.keep)
                | (with_reducible exact vLOLO.keep)
                | (with_reducible exact vLOHI.keep)
                | (with_reducible exact vHIZ.keep)
                | (with_reducible exact vHILO.keep)
                | (with_reducible exact vHIHI.keep))
              (fail)
            clear oLO2 oLO3 oHI2 oHI3 pLO1 pLO2 pLO3 pHI1 pHI2 pHI3
            obtain ⟨pLO1, pLO2, pLO3, _⟩ := bk_three w4 #[.int .i64 0, .bool true, .string Sl, .int .i64 xl] #[.int .i64 0, .bool true, .string Sl, .int .i64 xl] #[.int .i64 0, .bool true, .string Sh, .int .i64 xh] 23 23 23
            have fLO1 := four pLO1.drew.drew
            have fLO2 := four pLO2.drew.drew
            have fLO3 := four pLO3.drew.drew
            have cLO := vLOHI.keep
            obtain ⟨pHI1, pHI2, pHI3, _⟩ := bk_three w4 #[.int .i64 0, .bool true, .string Sl, .int .i64 xl] #[.int .i64 0, .bool true, .string Sh, .int .i64 xh] #[.int .i64 0, .bool true, .string Sl, .int .i64 xl] 23 23 23
            have fHI1 := four pHI1.drew.drew
            have fHI2 := four pHI2.drew.drew
            have fHI3 := four pHI3.drew.drew
            have cHI := vHILO.keep
            go_wp2
            go_roundw
            case rel => first | exact ⟨4, rfl, by omega, vLOHI⟩ | exact ⟨4, rfl, by omega, vHILO⟩
            case measure => first | (simp [intOf]; done) | (simp [intOf]; omega)
        · have n2 : ((i : Int) == 2) = false := by rw [beq_eq_false_iff_ne]; omega
          have n3 : ((i : Int) == 3) = false := by rw [beq_eq_false_iff_ne]; omega
          rcases HM'.out i hi8 with hq | hq
          · have HQ := Lib.hid hq
            clear hq
            go_upto_region 13 with (go_at_call 11; (with_reducible refine (HQ.out wr (PW.out.below Z1.bl)).mono ?_); rintro e w4 ⟨rfl, b4⟩; have Z4 := (Z1.below b4).alloc (.cells #[.int .i64 0, .bool true, .string Sl, .int .i64 xl] 23); have k4 := Z4.keep; have X4 := four (Bk.start w4 23 #[.int .i64 0, .bool true, .string Sl, .int .i64 xl]))
            have y0 := Z4.drew
            have yZ := (Z4.alloc (.cells #[.int .i64 0, .bool false, .string ⟨#[]⟩, .int .i64 0] 23)).drew
            have yLO := (Z4.alloc (.cells #[.int .i64 0, .bool true, .string Sl, .int .i64 xl] 23)).drew
            have yHI := (Z4.alloc (.cells #[.int .i64 0, .bool true, .string Sh, .int .i64 xh] 23)).drew
            have yZZ := ((Z4.alloc (.cells #[.int .i64 0, .bool false, .string ⟨#[]⟩, .int .i64 0] 23)).alloc (.cells #[.int .i64 0, .bool false, .string ⟨#[]⟩, .int .i64 0] 23)).drew
            have yZLO := ((Z4.alloc (.cells #[.int .i64 0, .bool false, .string ⟨#[]⟩, .int .i64 0] 23)).alloc (.cells #[.int .i64 0, .bool true, .string Sl, .int .i64 xl] 23)).drew
            have yZHI := ((Z4.alloc (.cells #[.int .i64 0, .bool false, .string ⟨#[]⟩, .int .i64 0] 23)).alloc (.cells #[.int .i64 0, .bool true, .string Sh, .int .i64 xh] 23)).drew
            have yLOZ := ((Z4.alloc (.cells #[.int .i64 0, .bool true, .string Sl, .int .i64 xl] 23)).alloc (.cells #[.int .i64 0, .bool false, .string ⟨#[]⟩, .int .i64 0] 23)).drew
            have yLOLO := ((Z4.alloc (.cells #[.int .i64 0, .bool true, .string Sl, .int .i64 xl] 23)).alloc (.cells #[.int .i64 0, .bool true, .string Sl, .int .i64 xl] 23)).drew
            have yLOHI := ((Z4.alloc (.cells #[.int .i64 0, .bool true, .string Sl, .int .i64 xl] 23)).alloc (.cells #[.int .i64 0, .bool true, .string Sh, .int .i64 xh] 23)).drew
            have yHIZ := ((Z4.alloc (.cells #[.int .i64 0, .bool true, .string Sh, .int .i64 xh] 23)).alloc (.cells #[.int .i64 0, .bool false, .string ⟨#[]⟩, .int .i64 0] 23)).drew
            have yHILO := ((Z4.alloc (.cells #[.int .i64 0, .bool true, .string Sh, .int .i64 xh] 23)).alloc (.cells #[.int .i64 0, .bool true, .string Sl, .int .i64 xl] 23)).drew
            have yHIHI := ((Z4.alloc (.cells #[.int .i64 0, .bool true, .string Sh, .int .i64 xh] 23)).alloc (.cells #[.int .i64 0, .bool true, .string Sh, .int .i64 xh] 23)).drew
            clear k k4
            go_region_held3 (fun w' => w'.cell? ⟨w.heap.size, 0, none⟩ = some (.int .i64 0) ∧ w'.cell? ⟨w.heap.size, 1, none⟩ = some (.bool true) ∧ w'.cell? ⟨w.heap.size, 2, none⟩ = some (.string S) ∧ w'.cell? ⟨w.heap.size, 3, none⟩ = some (.int .i64 x) ∧ w'.cell? ⟨gl, 0, none⟩ = some (.int .i64 0) ∧ w'.cell? ⟨gl, 1, none⟩ = some (.bool true) ∧ w'.cell? ⟨gl, 2, none⟩ = some (.string Sl) ∧ w'.cell? ⟨gl, 3, none⟩ = some (.int .i64 xl) ∧ w'.cell? ⟨gh, 0, none⟩ = some (.int .i64 0) ∧ w'.cell? ⟨gh, 1, none⟩ = some (.bool true) ∧ w'.cell? ⟨gh, 2, none⟩ = some (.string Sh) ∧ w'.cell? ⟨gh, 3, none⟩ = some (.int .i64 xh))
              (first
                | (with_reducible exact y0.keep)
                | (with_reducible exact yZ.keep)
                | (with_reducible exact yLO.keep)
                | (with_reducible exact yHI.keep)
                | (with_reducible exact yZZ.keep)
                | (with_reducible exact yZLO.keep)
                | (with_reducible exact yZHI.keep)
                | (with_reducible exact yLOZ.keep)
                | (with_reducible exact yLOLO.keep)
                | (with_reducible exact yLOHI.keep)
                | (with_reducible exact yHIZ.keep)
                | (with_reducible exact yHILO.keep)
                | (with_reducible exact yHIHI.keep))
              (fail)
            all_goals
              have x0 := yLOHI.keep
              have x1 := yHILO.keep
              obtain ⟨pLO1, pLO2, pLO3, _⟩ := bk_three w4 #[.int .i64 0, .bool true, .string Sl, .int .i64 xl] #[.int .i64 0, .bool true, .string Sl, .int .i64 xl] #[.int .i64 0, .bool true, .string Sh, .int .i64 xh] 23 23 23
              have oLO2 := eight' pLO2.drew.drew
              have oLO3 := eight' pLO3.drew.drew
              obtain ⟨pHI1, pHI2, pHI3, _⟩ := bk_three w4 #[.int .i64 0, .bool true, .string Sl, .int .i64 xl] #[.int .i64 0, .bool true, .string Sh, .int .i64 xh] #[.int .i64 0, .bool true, .string Sl, .int .i64 xl] 23 23 23
              have oHI2 := eight' pHI2.drew.drew
              have oHI3 := eight' pHI3.drew.drew
              go_wp2
              have vZZ := yZZ.drew
              have vZLO := yZLO.drew
              have vZHI := yZHI.drew
              have vLOZ := yLOZ.drew
              have vLOLO := yLOLO.drew
              have vLOHI := yLOHI.drew
              have vHIZ := yHIZ.drew
              have vHILO := yHILO.drew
              have vHIHI := yHIHI.drew
              clear x0 x1
              go_region_held3 (fun w' => w'.cell? ⟨w.heap.size, 0, none⟩ = some (.int .i64 0) ∧ w'.cell? ⟨w.heap.size, 1, none⟩ = some (.bool true) ∧ w'.cell? ⟨w.heap.size, 2, none⟩ = some (.string S) ∧ w'.cell? ⟨w.heap.size, 3, none⟩ = some (.int .i64 x) ∧ w'.cell? ⟨gl, 0, none⟩ = some (.int .i64 0) ∧ w'.cell? ⟨gl, 1, none⟩ = some (.bool true) ∧ w'.cell? ⟨gl, 2, none⟩ = some (.string Sl) ∧ w'.cell? ⟨gl, 3, none⟩ = some (.int .i64 xl) ∧ w'.cell? ⟨gh, 0, none⟩ = some (.int .i64 0) ∧ w'.cell? ⟨gh, 1, none⟩ = some (.bool true) ∧ w'.cell? ⟨gh, 2, none⟩ = some (.string Sh) ∧ w'.cell? ⟨gh, 3, none⟩ = some (.int .i64 xh))
                (first
                  | (with_reducible exact vZZ.keep)
                  | (with_reducible exact vZLO.keep)
                  | (with_reducible exact vZHI.keep)
                  | (with_reducible exact vLOZ.keep)
                  | (with_reducible exact vLOLO.keep)
                  | (with_reducible exact vLOHI.keep)
                  | (with_reducible exact vHIZ.keep)
                  | (with_reducible exact vHILO.keep)
                  | (with_reducible exact vHIHI.keep))
                (fail)
              clear oLO2 oLO3 oHI2 oHI3 pLO1 pLO2 pLO3 pHI1 pHI2 pHI3
              obtain ⟨pLO1, pLO2, pLO3, _⟩ := bk_three w4 #[.int .i64 0, .bool true, .string Sl, .int .i64 xl] #[.int .i64 0, .bool true, .string Sl, .int .i64 xl] #[.int .i64 0, .bool true, .string Sh, .int .i64 xh] 23 23 23
              have fLO1 := four pLO1.drew.drew
              have fLO2 := four pLO2.drew.drew
              have fLO3 := four pLO3.drew.drew
              have cLO := vLOHI.keep
              obtain ⟨pHI1, pHI2, pHI3, _⟩ := bk_three w4 #[.int .i64 0, .bool true, .string Sl, .int .i64 xl] #[.int .i64 0, .bool true, .string Sh, .int .i64 xh] #[.int .i64 0, .bool true, .string Sl, .int .i64 xl] 23 23 23
              have fHI1 := four pHI1.drew.drew
              have fHI2 := four pHI2.drew.drew
              have fHI3 := four pHI3.drew.drew
              have cHI := vHILO.keep
              go_wp2
              go_roundw
              case rel => first | exact ⟨i + 1, rfl, by omega, vLOHI⟩ | exact ⟨i + 1, rfl, by omega, vHILO⟩
              case measure => first | (simp [intOf]; done) | (simp [intOf]; omega)
          · have HQ := Lib.hid hq
            clear hq
            go_upto_region 13 with (go_at_call 11; (with_reducible refine (HQ.out wr (PW.out.below Z1.bl)).mono ?_); rintro e w4 ⟨rfl, b4⟩; have Z4 := (Z1.below b4).alloc (.cells #[.int .i64 0, .bool true, .string Sh, .int .i64 xh] 23); have k4 := Z4.keep; have X4 := four (Bk.start w4 23 #[.int .i64 0, .bool true, .string Sh, .int .i64 xh]))
            have y0 := Z4.drew
            have yZ := (Z4.alloc (.cells #[.int .i64 0, .bool false, .string ⟨#[]⟩, .int .i64 0] 23)).drew
            have yLO := (Z4.alloc (.cells #[.int .i64 0, .bool true, .string Sl, .int .i64 xl] 23)).drew
            have yHI := (Z4.alloc (.cells #[.int .i64 0, .bool true, .string Sh, .int .i64 xh] 23)).drew
            have yZZ := ((Z4.alloc (.cells #[.int .i64 0, .bool false, .string ⟨#[]⟩, .int .i64 0] 23)).alloc (.cells #[.int .i64 0, .bool false, .string ⟨#[]⟩, .int .i64 0] 23)).drew
            have yZLO := ((Z4.alloc (.cells #[.int .i64 0, .bool false, .string ⟨#[]⟩, .int .i64 0] 23)).alloc (.cells #[.int .i64 0, .bool true, .string Sl, .int .i64 xl] 23)).drew
            have yZHI := ((Z4.alloc (.cells #[.int .i64 0, .bool false, .string ⟨#[]⟩, .int .i64 0] 23)).alloc (.cells #[.int .i64 0, .bool true, .string Sh, .int .i64 xh] 23)).drew
            have yLOZ := ((Z4.alloc (.cells #[.int .i64 0, .bool true, .string Sl, .int .i64 xl] 23)).alloc (.cells #[.int .i64 0, .bool false, .string ⟨#[]⟩, .int .i64 0] 23)).drew
            have yLOLO := ((Z4.alloc (.cells #[.int .i64 0, .bool true, .string Sl, .int .i64 xl] 23)).alloc (.cells #[.int .i64 0, .bool true, .string Sl, .int .i64 xl] 23)).drew
            have yLOHI := ((Z4.alloc (.cells #[.int .i64 0, .bool true, .string Sl, .int .i64 xl] 23)).alloc (.cells #[.int .i64 0, .bool true, .string Sh, .int .i64 xh] 23)).drew
            have yHIZ := ((Z4.alloc (.cells #[.int .i64 0, .bool true, .string Sh, .int .i64 xh] 23)).alloc (.cells #[.int .i64 0, .bool false, .string ⟨#[]⟩, .int .i64 0] 23)).drew
            have yHILO := ((Z4.alloc (.cells #[.int .i64 0, .bool true, .string Sh, .int .i64 xh] 23)).alloc (.cells #[.int .i64 0, .bool true, .string Sl, .int .i64 xl] 23)).drew
            have yHIHI := ((Z4.alloc (.cells #[.int .i64 0, .bool true, .string Sh, .int .i64 xh] 23)).alloc (.cells #[.int .i64 0, .bool true, .string Sh, .int .i64 xh] 23)).drew
            clear k k4
            go_region_held3 (fun w' => w'.cell? ⟨w.heap.size, 0, none⟩ = some (.int .i64 0) ∧ w'.cell? ⟨w.heap.size, 1, none⟩ = some (.bool true) ∧ w'.cell? ⟨w.heap.size, 2, none⟩ = some (.string S) ∧ w'.cell? ⟨w.heap.size, 3, none⟩ = some (.int .i64 x) ∧ w'.cell? ⟨gl, 0, none⟩ = some (.int .i64 0) ∧ w'.cell? ⟨gl, 1, none⟩ = some (.bool true) ∧ w'.cell? ⟨gl, 2, none⟩ = some (.string Sl) ∧ w'.cell? ⟨gl, 3, none⟩ = some (.int .i64 xl) ∧ w'.cell? ⟨gh, 0, none⟩ = some (.int .i64 0) ∧ w'.cell? ⟨gh, 1, none⟩ = some (.bool true) ∧ w'.cell? ⟨gh, 2, none⟩ = some (.string Sh) ∧ w'.cell? ⟨gh, 3, none⟩ = some (.int .i64 xh))
              (first
                | (with_reducible exact y0.keep)
                | (with_reducible exact yZ.keep)
                | (with_reducible exact yLO.keep)
                | (with_reducible exact yHI.keep)
                | (with_reducible exact yZZ.keep)
                | (with_reducible exact yZLO.keep)
                | (with_reducible exact yZHI.keep)
                | (with_reducible exact yLOZ.keep)
                | (with_reducible exact yLOLO.keep)
                | (with_reducible exact yLOHI.keep)
                | (with_reducible exact yHIZ.keep)
                | (with_reducible exact yHILO.keep)
                | (with_reducible exact yHIHI.keep))
              (fail)
            all_goals
              have x0 := yLOHI.keep
              have x1 := yHILO.keep
              obtain ⟨pLO1, pLO2, pLO3, _⟩ := bk_three w4 #[.int .i64 0, .bool true, .string Sh, .int .i64 xh] #[.int .i64 0, .bool true, .string Sl, .int .i64 xl] #[.int .i64 0, .bool true, .string Sh, .int .i64 xh] 23 23 23
              have oLO2 := eight' pLO2.drew.drew
              have oLO3 := eight' pLO3.drew.drew
              obtain ⟨pHI1, pHI2, pHI3, _⟩ := bk_three w4 #[.int .i64 0, .bool true, .string Sh, .int .i64 xh] #[.int .i64 0, .bool true, .string Sh, .int .i64 xh] #[.int .i64 0, .bool true, .string Sl, .int .i64 xl] 23 23 23
              have oHI2 := eight' pHI2.drew.drew
              have oHI3 := eight' pHI3.drew.drew
              go_wp2
              have vZZ := yZZ.drew
              have vZLO := yZLO.drew
              have vZHI := yZHI.drew
              have vLOZ := yLOZ.drew
              have vLOLO := yLOLO.drew
              have vLOHI := yLOHI.drew
              have vHIZ := yHIZ.drew
              have vHILO := yHILO.drew
              have vHIHI := yHIHI.drew
              clear x0 x1
              go_region_held3 (fun w' => w'.cell? ⟨w.heap.size, 0, none⟩ = some (.int .i64 0) ∧ w'.cell? ⟨w.heap.size, 1, none⟩ = some (.bool true) ∧ w'.cell? ⟨w.heap.size, 2, none⟩ = some (.string S) ∧ w'.cell? ⟨w.heap.size, 3, none⟩ = some (.int .i64 x) ∧ w'.cell? ⟨gl, 0, none⟩ = some (.int .i64 0) ∧ w'.cell? ⟨gl, 1, none⟩ = some (.bool true) ∧ w'.cell? ⟨gl, 2, none⟩ = some (.string Sl) ∧ w'.cell? ⟨gl, 3, none⟩ = some (.int .i64 xl) ∧ w'.cell? ⟨gh, 0, none⟩ = some (.int .i64 0) ∧ w'.cell? ⟨gh, 1, none⟩ = some (.bool true) ∧ w'.cell? ⟨gh, 2, none⟩ = some (.string Sh) ∧ w'.cell? ⟨gh, 3, none⟩ = some (.int .i64 xh))
                (first
                  | (with_reducible exact vZZ.keep)
                  | (with_reducible exact vZLO.keep)
                  | (with_reducible exact vZHI.keep)
                  | (with_reducible exact vLOZ.keep)
                  | (with_reducible exact vLOLO.keep)
                  | (with_reducible exact vLOHI.keep)
                  | (with_reducible exact vHIZ.keep)
                  | (with_reducible exact vHILO.keep)
                  | (with_reducible exact vHIHI.keep))
                (fail)
              clear oLO2 oLO3 oHI2 oHI3 pLO1 pLO2 pLO3 pHI1 pHI2 pHI3
              obtain ⟨pLO1, pLO2, pLO3, _⟩ := bk_three w4 #[.int .i64 0, .bool true, .string Sh, .int .i64 xh] #[.int .i64 0, .bool true, .string Sl, .int .i64 xl] #[.int .i64 0, .bool true, .string Sh, .int .i64 xh] 23 23 23
              have fLO1 := four pLO1.drew.drew
              have fLO2 := four pLO2.drew.drew
              have fLO3 := four pLO3.drew.drew
              have cLO := vLOHI.keep
              obtain ⟨pHI1, pHI2, pHI3, _⟩ := bk_three w4 #[.int .i64 0, .bool true, .string Sh, .int .i64 xh] #[.int .i64 0, .bool true, .string Sh, .int .i64 xh] #[.int .i64 0, .bool true, .string Sl, .int .i64 xl] 23 23 23
              have fHI1 := four pHI1.drew.drew
              have fHI2 := four pHI2.drew.drew
              have fHI3 := four pHI3.drew.drew
              have cHI := vHILO.keep
              go_wp2
              go_roundw
              case rel => first | exact ⟨i + 1, rfl, by omega, vLOHI⟩ | exact ⟨i + 1, rfl, by omega, vHILO⟩
              case measure => first | (simp [intOf]; done) | (simp [intOf]; omega)
    · obtain rfl : i = 8 := by omega
      have k9 := Z1.drew.keep
      go_wp2
      clear k
      go_region_held3 (fun w' => w'.cell? ⟨w.heap.size, 0, none⟩ = some (.int .i64 0) ∧ w'.cell? ⟨w.heap.size, 1, none⟩ = some (.bool true) ∧ w'.cell? ⟨w.heap.size, 2, none⟩ = some (.string S) ∧ w'.cell? ⟨w.heap.size, 3, none⟩ = some (.int .i64 x) ∧ w'.cell? ⟨gl, 0, none⟩ = some (.int .i64 0) ∧ w'.cell? ⟨gl, 1, none⟩ = some (.bool true) ∧ w'.cell? ⟨gl, 2, none⟩ = some (.string Sl) ∧ w'.cell? ⟨gl, 3, none⟩ = some (.int .i64 xl) ∧ w'.cell? ⟨gh, 0, none⟩ = some (.int .i64 0) ∧ w'.cell? ⟨gh, 1, none⟩ = some (.bool true) ∧ w'.cell? ⟨gh, 2, none⟩ = some (.string Sh) ∧ w'.cell? ⟨gh, 3, none⟩ = some (.int .i64 xh))
        (first
          | (with_reducible exact k9)
          | (with_reducible exact k10))
        ((go_at_call 23; (with_reducible refine (HL'.out _).mono ?_); rintro e w9 ⟨rfl, b9⟩; have z9 := Z1.drew.below b9; have k10 := z9.keep))
      go_wp2
      go_ret
      exact ⟨rfl, z9.bl⟩
end Go.Proofs.YtllpggdmkdgggaaGreatDoor.Dc

/- Layer 6's laws: RoundOrder, joined. -/
set_option linter.unusedSimpArgs false
set_option linter.unusedVariables false
namespace Go.Proofs.YtllpggdmkdgggaaGreatDoor.Dc
open Go.RowKit Go.Proofs.YtllpggdmkdgggaaGreatDoor.Dig Go.Proofs.YtllpggdmkdgggaaGreatDoor.W Go.Proofs.YtllpggdmkdgggaaGreatDoor.Nat Go.Proofs.YtllpggdmkdgggaaGreatDoor.Wh Go.Proofs.YtllpggdmkdgggaaGreatDoor.Td Go.Proofs.YtllpggdmkdgggaaGreatDoor.Bu Go.Proofs.YtllpggdmkdgggaaGreatDoor.Tx Go.Proofs.YtllpggdmkdgggaaGreatDoor.Sp Go.Proofs.YtllpggdmkdgggaaGreatDoor.Rd

set_option maxHeartbeats 4000000 in
set_option maxRecDepth 100000 in
theorem less_calls (c c' : Int) (g g' : Bool) (S S' : ByteArray) (x y z : Int) (w : World)
    (H : ∀ w1, Calls Tryz.prog 22 #[.agg #[.int .i64 c, .bool g, .string S, .int .i64 x], .agg #[.int .i64 c', .bool g', .string S', .int .i64 y]] w1 fun e w' => e = .returned (.tuple #[.int .i64 z, .int .i64 0]) ∧ Below w1.heap.size w1 w') :
    Calls Tryz.prog 23 #[.agg #[.int .i64 c, .bool g, .string S, .int .i64 x], .agg #[.int .i64 c', .bool g', .string S', .int .i64 y]] w fun e w' => e = .returned (.bool (decide (z < 0))) ∧ Below w.heap.size w w' := by
  have T := T8.start w #[.int .i64 c, .bool g, .string S, .int .i64 x] #[.int .i64 c', .bool g', .string S', .int .i64 y]
  have HB := Lib.hid T.bl
  have HH := Lib.hid H
  clear T H
  go_enter Tryz.func23, Tryz.ntmps23
  go_wp2_with (go_at_call 22; (with_reducible refine (HH.out _).mono ?_); rintro e w1 ⟨rfl, b1⟩)
  go_ret
  exact ⟨rfl, on HB.out b1⟩
set_option maxHeartbeats 8000000 in
set_option maxRecDepth 100000 in
theorem order_off (c : Int) (g : Bool) (S : ByteArray) (x place c1 : Int) (g1 : Bool) (l1 : ByteArray) (x1 e1 c2 : Int) (g2 : Bool) (l2 : ByteArray) (x2 e2 : Int) (w : World) (hp : Pow w)
    (H1 : ∀ w1, Pow w1 → Calls Tryz.prog 11 #[.agg #[.int .i64 c, .bool g, .string S, .int .i64 x], .int .i64 place, .int .i64 1] w1 fun e w' => e = .returned (.tuple #[.agg #[.int .i64 c1, .bool g1, .string l1, .int .i64 x1], .int .i64 e1]) ∧ Below w1.heap.size w1 w')
    (H2 : ∀ w1, Pow w1 → Calls Tryz.prog 11 #[.agg #[.int .i64 c, .bool g, .string S, .int .i64 x], .int .i64 place, .int .i64 0] w1 fun e w' => e = .returned (.tuple #[.agg #[.int .i64 c2, .bool g2, .string l2, .int .i64 x2], .int .i64 e2]) ∧ Below w1.heap.size w1 w')
    (h : e1 ≠ 0 ∨ e2 ≠ 0) :
    Calls Tryz.prog 9 #[.agg #[.int .i64 c, .bool g, .string S, .int .i64 x], .int .i64 place] w fun e w' => e = .returned (.bool true) ∧ Below w.heap.size w w' := by
  have D0 := Lib.hid (Bk.start w 23 #[.int .i64 c, .bool g, .string S, .int .i64 x])
  have b0 := alloc_below w (.cells #[.int .i64 c, .bool g, .string S, .int .i64 x] 23)
  have HA := Lib.hid (awake_calls _ (hp.below b0))
  have PW := Lib.hid hp
  have B0 := Lib.hid b0
  have HF := Lib.hid H1
  have HC := Lib.hid H2
  clear hp b0 H1 H2
  have k : (e1 = 0 ∧ e2 ≠ 0) ∨ e1 ≠ 0 := by
    by_cases k1 : e1 = 0
    · exact .inl ⟨k1, h.resolve_left (fun k => k k1)⟩
    · exact .inr k1
  clear h
  rcases k with ⟨rfl, k2⟩ | k1
  · have d2 := eqB k2
    go_enter Tryz.func9, Tryz.ntmps9
    go_wp2_with (first
      | (go_at_call 13; (with_reducible refine HA.out.mono ?_); rintro e w1 ⟨rfl, b1⟩; have d1 := D0.out.below b1; have k1 := four d1)
      | (go_at_call 11; first
        | ((with_reducible refine (HF.out w1 (PW.out.below (on B0.out b1))).mono ?_); rintro e w2 ⟨rfl, b2⟩; have k2' := four ((d1.below b2).alloc (.cells #[.int .i64 c1, .bool g1, .string l1, .int .i64 x1] 23)); have l2' := on (on (on B0.out b1) b2) (alloc_below w2 (.cells #[.int .i64 c1, .bool g1, .string l1, .int .i64 x1] 23)))
        | ((with_reducible refine (HC.out _ (PW.out.below l2')).mono ?_); rintro e w3 ⟨rfl, b3⟩)))
    go_ret
    exact ⟨rfl, on (on l2' b3) (alloc_below w3 _)⟩
  · have d1' := eqB k1
    go_enter Tryz.func9, Tryz.ntmps9
    go_wp2_with (first
      | (go_at_call 13; (with_reducible refine HA.out.mono ?_); rintro e w1 ⟨rfl, b1⟩; have d1 := D0.out.below b1; have kk1 := four d1)
      | (go_at_call 11; first
        | ((with_reducible refine (HF.out w1 (PW.out.below (on B0.out b1))).mono ?_); rintro e w2 ⟨rfl, b2⟩; have k2' := four ((d1.below b2).alloc (.cells #[.int .i64 c1, .bool g1, .string l1, .int .i64 x1] 23)); have l2' := on (on (on B0.out b1) b2) (alloc_below w2 (.cells #[.int .i64 c1, .bool g1, .string l1, .int .i64 x1] 23)))
        | ((with_reducible refine (HC.out _ (PW.out.below l2')).mono ?_); rintro e w3 ⟨rfl, b3⟩)))
    go_ret
    exact ⟨rfl, on (on l2' b3) (alloc_below w3 _)⟩
theorem at_good {c : Int} {g : Bool} {l : List UInt8} {x pl mo : Int} (h : (atV c g l x pl mo).2 = 0) : mayB c g l x = true ∧ 0 ≤ mo ∧ mo < 8 ∧ -4000 ≤ pl ∧ pl ≤ 4000 := by
  unfold atV at h
  rcases ask_cases (mayB c g l x) mo with ⟨k, _⟩ | ⟨k, _, _⟩ | ⟨k, k1, k2, k3⟩
  · rw [k, if_pos (by decide)] at h; exact absurd h (by decide)
  · rw [k, if_pos (by decide)] at h; exact absurd h (by decide)
  · rw [k, if_neg (by decide)] at h
    by_cases hpl : pl < -4000 ∨ 4000 < pl
    · rw [if_pos hpl] at h; exact absurd h (by decide)
    · exact ⟨k1, k2, k3, by omega, by omega⟩
/-- two unlike Decs -/
theorem ne_two {g : Bool} {P Q : List UInt8 × Int} (h : P ≠ Q) (w : World) : (binOp .neq 23 (.agg #[.int .i64 0, .bool g, .string ⟨P.1.toArray⟩, .int .i64 P.2]) (.agg #[.int .i64 0, .bool g, .string ⟨Q.1.toArray⟩, .int .i64 Q.2])).run Tryz.prog w = .ok (.bool true) w ∧
    (binOp .eql 23 (.agg #[.int .i64 0, .bool g, .string ⟨P.1.toArray⟩, .int .i64 P.2]) (.agg #[.int .i64 0, .bool g, .string ⟨Q.1.toArray⟩, .int .i64 Q.2])).run Tryz.prog w = .ok (.bool false) w := by
  have hb : (((0 : Int) == 0) && ((g == g) && (((⟨P.1.toArray⟩ : ByteArray).toList == (⟨Q.1.toArray⟩ : ByteArray).toList) && (P.2 == Q.2)))) = false := by
    rw [toL, toL]
    by_cases k : P.1 = Q.1
    · have : P.2 ≠ Q.2 := fun k2 => h (Prod.ext k k2)
      simp [this]
    · simp [k]
  have e := eq_four 9998 w 0 0 P.2 Q.2 g g ⟨P.1.toArray⟩ ⟨Q.1.toArray⟩
  rw [hb] at e
  exact ⟨neql_agg e, eql_agg e⟩
theorem pw_rnd {mode : Nat} {g : Bool} {l : List UInt8} {x place E : Int} (hx : E ≤ x) (hp : E ≤ place) : pw mode g l x place = told g (rnd mode g (amt l x E) (10 ^ (place - E).toNat)) place := by
  unfold pw; rw [rto_amt hx hp]
theorem told_back {g : Bool} {N : Nat} {l : List UInt8} {x place E : Int} (hF : Formed l) (hf : fits l x) (hx : E ≤ x) (hp : E ≤ place) (h : N * 10 ^ (place - E).toNat = amt l x E) : told g N place = some (l, x) := by
  have e1 := told_mul g N (place - E).toNat E
  have e2 := told_mul g (nv 0 l) (x - E).toNat E
  rw [show E + ((place - E).toNat : Int) = place by omega] at e1
  rw [show E + ((x - E).toNat : Int) = x by omega, told_own hF hf] at e2
  rw [← e1, h]
  exact e2
theorem roundOrder_calls (c : Int) (g : Bool) (l : List UInt8) (x place : Int) (w : World) (hp : Pow w) (hl : l.length ≤ 9223372036854775807) :
    Calls Tryz.prog 9 #[.agg (dec c g l x), .int .i64 place] w fun e w' => e = .returned (.bool true) ∧ Below w.heap.size w w' := by
  have HX := fun (m : Int) w1 hp => at_calls c g l x place m w1 hp hl
  unfold Res at HX
  by_cases ho : (atV c g l x place 1).2 ≠ 0 ∨ (atV c g l x place 0).2 ≠ 0
  · obtain ⟨c1, g1, l1, x1, e1⟩ := atV_four c g l x place 1
    obtain ⟨c2, g2, l2, x2, e2⟩ := atV_four c g l x place 0
    have H1 := HX 1
    have H2 := HX 0
    rw [e1] at H1
    rw [e2] at H2
    exact order_off c g ⟨l.toArray⟩ x place c1 g1 l1 x1 _ c2 g2 l2 x2 _ w hp H1 H2 ho
  · have z1 : (atV c g l x place 1).2 = 0 := Classical.byContradiction fun k => ho (.inl k)
    have z0 : (atV c g l x place 0).2 = 0 := Classical.byContradiction fun k => ho (.inr k)
    obtain ⟨hm, _, _, p1, p2⟩ := at_good z1
    have HM : ∀ (m : Nat) w1, m < 8 → Pow w1 → Calls Tryz.prog 11 #[.agg (dec c g l x), .int .i64 place, .int .i64 (m : Nat)] w1 fun e w' => e = .returned (.tuple #[.agg (fin m c g l x place).1, .int .i64 (fin m c g l x place).2]) ∧ Below w1.heap.size w1 w' := by
      intro m w1 hm8 hp1
      have e := HX m w1 hp1
      rw [atV_ok hm (by omega) (by omega) ⟨p1, p2⟩] at e
      exact e
    rw [atV_ok hm (by omega) (by omega) ⟨p1, p2⟩] at z1 z0
    have hlen : l.length ≤ 100000 := by
      by_cases h0 : l = []
      · rw [h0]; decide
      · have := (may_str hm h0).2.2.1; omega
    have same : (∀ (m : Nat), m < 8 → fin m c g l x place = (dec c g l x, 0)) → Calls Tryz.prog 9 #[.agg (dec c g l x), .int .i64 place] w fun e w' => e = .returned (.bool true) ∧ Below w.heap.size w w' := by
      intro hall
      have HM' : ∀ (m : Nat) w1, m < 8 → Pow w1 → Calls Tryz.prog 11 #[.agg (dec c g l x), .int .i64 place, .int .i64 (m : Nat)] w1 fun e w' => e = .returned (.tuple #[.agg (dec c g l x), .int .i64 0]) ∧ Below w1.heap.size w1 w' := by
        intro m w1 hm8 hp1
        have e := HM m w1 hm8 hp1
        rw [hall m hm8] at e
        exact e
      have HC : ∀ w1, Calls Tryz.prog 22 #[.agg (dec c g l x), .agg (dec c g l x)] w1 fun e w' => e = .returned (.tuple #[.int .i64 0, .int .i64 0]) ∧ Below w1.heap.size w1 w' := by
        intro w1
        by_cases hc : c = 0
        · subst hc
          have hb : l ≠ [] → (-10000 : Int) ≤ x := fun h0 => by
            obtain ⟨_, _, f1, f2, _⟩ := may_str hm h0
            omega
          have e := cmp_fin g g l l x x (-10000) w1 hm hm hb hb
          rw [show order (sv g (amt l x (-10000))) (sv g (amt l x (-10000))) = 0 by unfold order; rw [if_neg (by omega), if_pos rfl]] at e
          exact e
        · have e := cmp_cls c c g g l l x x w1 hm hm hlen hlen (.inr hc)
          rw [show Lib.compareInt (keyV c g) (keyV c g) = 0 by unfold Lib.compareInt; rw [if_neg (by omega), if_neg (by omega)]] at e
          exact e
      have HL := fun w1 => less_calls c c g g ⟨l.toArray⟩ ⟨l.toArray⟩ x x 0 w1 HC
      rw [show decide ((0 : Int) < 0) = false from rfl] at HL
      cases g
      · exact order_same_p c ⟨l.toArray⟩ x place w hp HM' HL
      · exact order_same_n c ⟨l.toArray⟩ x place w hp HM' HL
    by_cases h0 : l = []
    · subst h0
      exact same fun m _ => fin_nil m c g x place
    · obtain ⟨rfl, hF, hf⟩ := may_str hm h0
      have hfs : ∀ m : Nat, fin m 0 g l x place = (oc g (pw m g l x place), oe (pw m g l x place)) := fun m => by rw [fin_some h0]; rfl
      have hx : (-10000 : Int) ≤ x := by have := hf.1; have := hf.2.1; omega
      have hpl : (-10000 : Int) ≤ place := by omega
      have hpw : ∀ m : Nat, pw m g l x place = told g (rnd m g (amt l x (-10000)) (10 ^ (place - -10000).toNat)) place := fun m => pw_rnd hx hpl
      have hU : 0 < 10 ^ (place - -10000).toNat := Nat.pow_pos (by omega)
      have some_of : ∀ m : Nat, (fin m 0 g l x place).2 = 0 → ∃ p, pw m g l x place = some p := by
        intro m h
        rw [hfs] at h
        cases hq : pw m g l x place with
        | none => rw [hq] at h; cases h
        | some p => exact ⟨p, rfl⟩
      obtain ⟨P, hP⟩ := some_of 1 z1
      obtain ⟨Q, hQ⟩ := some_of 0 z0
      have hP' := hP
      have hQ' := hQ
      rw [hpw] at hP' hQ'
      by_cases hN : rnd 0 g (amt l x (-10000)) (10 ^ (place - -10000).toNat) = rnd 1 g (amt l x (-10000)) (10 ^ (place - -10000).toNat)
      · have hd := (rnd_apart g _ _).1 hN
        have hs := (rnd_self (mode := 1) (g := g) hU).2 hd
        have hown := told_back (g := g) hF hf hx hpl hs
        refine same fun m hm8 => ?_
        rw [hfs, hpw]
        rcases rnd_either hm8 g (amt l x (-10000)) (10 ^ (place - -10000).toNat) with k | k
        · rw [k, hN, hown]; rfl
        · rw [k, hown]; rfl
      · have hPQ : Q ≠ P := fun e => hN (told_inj hQ' (e ▸ hP'))
        have hPd : P ≠ (l, x) := by
          intro e
          rw [e] at hP'
          have t := (told_amt hP' hpl).1
          apply hN
          rw [rnd_apart]
          exact (rnd_self (mode := 1) (g := g) hU).1 t.symm
        have hor : ∀ m : Nat, m < 8 → pw m g l x place = some P ∨ pw m g l x place = some Q := by
          intro m hm8
          rw [hpw]
          rcases rnd_either hm8 g (amt l x (-10000)) (10 ^ (place - -10000).toNat) with k | k
          · rw [k]; exact .inr hQ'
          · rw [k]; exact .inl hP'
        have AT : ∀ (m : Nat) (R : List UInt8 × Int), m < 8 → pw m g l x place = some R → ∀ w1, Pow w1 → Calls Tryz.prog 11 #[.agg (dec 0 g l x), .int .i64 place, .int .i64 (m : Nat)] w1 fun e w' => e = .returned (.tuple #[.agg (dec 0 g R.1 R.2), .int .i64 0]) ∧ Below w1.heap.size w1 w' := by
          intro m R hm8 hR w1 hp1
          have e := HM m w1 hm8 hp1
          rw [hfs, hR] at e
          exact e
        have hM : ∀ m : Nat, m < 8 → (∀ w1, Pow w1 → Calls Tryz.prog 11 #[.agg (dec 0 g l x), .int .i64 place, .int .i64 (m : Nat)] w1 fun e w' => e = .returned (.tuple #[.agg (dec 0 g P.1 P.2), .int .i64 0]) ∧ Below w1.heap.size w1 w') ∨ (∀ w1, Pow w1 → Calls Tryz.prog 11 #[.agg (dec 0 g l x), .int .i64 place, .int .i64 (m : Nat)] w1 fun e w' => e = .returned (.tuple #[.agg (dec 0 g Q.1 Q.2), .int .i64 0]) ∧ Below w1.heap.size w1 w') := by
          intro m hm8
          rcases hor m hm8 with k | k
          · exact .inl (AT m P hm8 k)
          · exact .inr (AT m Q hm8 k)
        obtain ⟨s1, s2, s3, s4⟩ := rnd_near_side (amt l x (-10000)) (10 ^ (place - -10000).toNat)
        obtain ⟨r1, r2⟩ := rnd_order (amt l x (-10000)) (10 ^ (place - -10000).toNat)
        have aP := told_amt hP' hpl
        have aQ := told_amt hQ' hpl
        have mP : mayB 0 g P.1 P.2 = true := (mayB_iff ..).2 (told_may hP')
        have mQ : mayB 0 g Q.1 Q.2 = true := (mayB_iff ..).2 (told_may hQ')
        have HC := fun w1 => cmp_fin g g Q.1 P.1 Q.2 P.2 (-10000) w1 mQ mP aQ.2 aP.2
        rw [aP.1, aQ.1, order_scale g g _ _ hU] at HC
        have HL := fun w1 => less_calls 0 0 g g ⟨Q.1.toArray⟩ ⟨P.1.toArray⟩ Q.2 P.2 _ w1 (HC)
        have q1 := fun w => (ne_two (g := g) hPQ w).1
        have q2 := fun w => (ne_two (g := g) (fun e => hPQ e.symm : P ≠ Q) w).2
        have q3 := fun w => (ne_two (g := g) hPd w).2
        cases g
        · rw [decide_eq_false (by unfold order sv; simp only [Bool.false_eq_true, if_false]; rw [if_neg (by omega)]; split <;> omega)] at HL
          exact order_two_p ⟨l.toArray⟩ ⟨P.1.toArray⟩ ⟨Q.1.toArray⟩ x P.2 Q.2 place w hp hM (AT 1 P (by omega) hP) (AT 0 Q (by omega) hQ) (AT 2 P (by omega) (by rw [hpw, s1]; exact hP')) (AT 3 Q (by omega) (by rw [hpw, s3]; exact hQ')) q1 q2 q3 HL
        · rw [decide_eq_false (by unfold order sv; simp only [if_true]; rw [if_neg (by omega)]; split <;> omega)] at HL
          exact order_two_n ⟨l.toArray⟩ ⟨P.1.toArray⟩ ⟨Q.1.toArray⟩ x P.2 Q.2 place w hp hM (AT 1 P (by omega) hP) (AT 0 Q (by omega) hQ) (AT 2 Q (by omega) (by rw [hpw, s2]; exact hQ')) (AT 3 P (by omega) (by rw [hpw, s4]; exact hP')) q1 q2 q3 HL
end Go.Proofs.YtllpggdmkdgggaaGreatDoor.Dc
