/- Texts of one layer, joined: Dv, Ee, Eo. -/
import Derived.Test.YtllpggdmkdgggaaGreatDoorGP
set_option linter.unusedVariables false
set_option linter.unusedSimpArgs false
set_option linter.unusedSectionVars false
/- Layer 6's laws: RoundPlaces. -/
set_option linter.unusedSimpArgs false
set_option linter.unusedVariables false
namespace Go.Proofs.YtllpggdmkdgggaaGreatDoor.Dc
open Go.RowKit Go.Proofs.YtllpggdmkdgggaaGreatDoor.Dig Go.Proofs.YtllpggdmkdgggaaGreatDoor.W Go.Proofs.YtllpggdmkdgggaaGreatDoor.Nat Go.Proofs.YtllpggdmkdgggaaGreatDoor.Wh Go.Proofs.YtllpggdmkdgggaaGreatDoor.Td Go.Proofs.YtllpggdmkdgggaaGreatDoor.Bu Go.Proofs.YtllpggdmkdgggaaGreatDoor.Tx Go.Proofs.YtllpggdmkdgggaaGreatDoor.Sp Go.Proofs.YtllpggdmkdgggaaGreatDoor.Rd
theorem fin_four (mode c : Int) (g : Bool) (l : List UInt8) (x place : Int) : ∃ c4 g4 l4 x4, (fin mode c g l x place).1 = #[.int .i64 c4, .bool g4, .string l4, .int .i64 x4] := by
  unfold fin
  split
  · exact ⟨_, _, _, _, rfl⟩
  · obtain ⟨g', l', x', e⟩ := oc_four g (pw mode.toNat g l x place)
    exact ⟨0, g', l', x', e⟩
theorem atV_four (c : Int) (g : Bool) (l : List UInt8) (x place mode : Int) : ∃ c4 g4 l4 x4, (atV c g l x place mode).1 = #[.int .i64 c4, .bool g4, .string l4, .int .i64 x4] := by
  unfold atV
  split
  · exact ⟨_, _, _, _, rfl⟩
  · split
    · exact ⟨_, _, _, _, rfl⟩
    · exact fin_four ..
theorem dgV_four (c : Int) (g : Bool) (l : List UInt8) (x n mode : Int) : ∃ c4 g4 l4 x4, (dgV c g l x n mode).1 = #[.int .i64 c4, .bool g4, .string l4, .int .i64 x4] := by
  unfold dgV
  split
  · exact ⟨_, _, _, _, rfl⟩
  · split
    · exact ⟨_, _, _, _, rfl⟩
    · exact fin_four ..
attribute [local go_sem ↓] eq_dec
set_option maxHeartbeats 8000000 in
set_option maxRecDepth 100000 in
theorem roundPlaces_calls (c : Int) (g : Bool) (l : List UInt8) (x place mode : Int) (w : World) (hp : Pow w) (hl : l.length ≤ 9223372036854775807) :
    Calls Tryz.prog 3 #[.agg (dec c g l x), .int .i64 place, .int .i64 mode] w fun e w' => e = .returned (.bool true) ∧ Below w.heap.size w w' := by
  have D0 := Lib.hid (Bk.start w 23 #[.int .i64 c, .bool g, .string ⟨l.toArray⟩, .int .i64 x])
  have b0 := alloc_below w (.cells #[.int .i64 c, .bool g, .string ⟨l.toArray⟩, .int .i64 x] 23)
  have H1 := Lib.hid (at_calls c g l x place mode _ (hp.below b0) hl)
  have H2 := Lib.hid (fun w1 => nat_calls c g l x place mode w1)
  have HA := Lib.hid (fun W (bl : Below w.heap.size w W) => awake_calls W (hp.below bl))
  have B0 := Lib.hid b0
  have ng := no_guard
  unfold Res at H1 H2
  obtain ⟨c4, g4, l4, x4, e4⟩ := atV_four c g l x place mode
  rw [e4] at H1 H2
  generalize (atV c g l x place mode).2 = er at *
  unfold dec str at *
  generalize (⟨l.toArray⟩ : ByteArray) = S at *
  clear hp b0 e4
  go_enter Tryz.func3, Tryz.ntmps3
  go_wp2_with (first
    | (go_at_call 11; (with_reducible refine H1.out.mono ?_); rintro e w1 ⟨rfl, b1⟩; have d1 := (D0.out.below b1).alloc (.cells #[.int .i64 c4, .bool g4, .string l4, .int .i64 x4] 23); have k1 := four d1)
    | (go_at_call 12; (with_reducible refine (H2.out _).mono ?_); rintro e w2 ⟨rfl, b2⟩; have y2 := ((Bk.start w1 23 #[.int .i64 c4, .bool g4, .string l4, .int .i64 x4]).below b2).alloc (.cells #[.int .i64 c4, .bool g4, .string l4, .int .i64 x4] 23); have z2 := Bk.start w2 23 #[.int .i64 c4, .bool g4, .string l4, .int .i64 x4]; have l2 := on (on (on (on B0.out b1) (alloc_below w1 _)) b2) (alloc_below w2 (.cells #[.int .i64 c4, .bool g4, .string l4, .int .i64 x4] 23)))
    | (go_at_call 13; (with_reducible refine (HA.out _ l2).mono ?_); rintro e w3 ⟨rfl, b3⟩; have y3 := four (y2.below b3); have z3 := four (z2.below b3); have l3 := on l2 b3))
  go_ret
  exact ⟨rfl, l3⟩
end Go.Proofs.YtllpggdmkdgggaaGreatDoor.Dc

/- Layer 6's laws: RoundWays. -/
set_option linter.unusedSimpArgs false
set_option linter.unusedVariables false
namespace Go.Proofs.YtllpggdmkdgggaaGreatDoor.Dc
open Go.RowKit Go.Proofs.YtllpggdmkdgggaaGreatDoor.Dig Go.Proofs.YtllpggdmkdgggaaGreatDoor.W Go.Proofs.YtllpggdmkdgggaaGreatDoor.Nat Go.Proofs.YtllpggdmkdgggaaGreatDoor.Wh Go.Proofs.YtllpggdmkdgggaaGreatDoor.Td Go.Proofs.YtllpggdmkdgggaaGreatDoor.Bu Go.Proofs.YtllpggdmkdgggaaGreatDoor.Tx Go.Proofs.YtllpggdmkdgggaaGreatDoor.Sp Go.Proofs.YtllpggdmkdgggaaGreatDoor.Rd

theorem neql_agg {P : Program} {xs ys : Array Value} {r : Bool} {w : World} {t : TypeId} (h : (Op.equalIn 10000 t (.agg xs) (.agg ys)).run P w = .ok r w) : (binOp .neq t (.agg xs) (.agg ys)).run P w = .ok (.bool (!r)) w := by
  simp only [binOp]
  simp [Op.equal, Op.maxDepth, h]
theorem ne_dec (c x : Int) (g : Bool) (l : ByteArray) (w : World) : (binOp .neq 23 (.agg #[.int .i64 c, .bool g, .string l, .int .i64 x]) (.agg #[.int .i64 c, .bool g, .string l, .int .i64 x])).run Tryz.prog w = .ok (.bool false) w := by
  have e := neql_agg (eq_four 9998 w c c x x g g l l)
  rw [e]
  simp
theorem place_nil (c : Int) (g : Bool) (S : ByteArray) (x : Int) (w : World) (e1 : S.toList.isEmpty = true) (e2 : (S.toList == []) = true) :
    Calls Tryz.prog 20 #[.agg #[.int .i64 c, .bool g, .string S, .int .i64 x]] w fun e w' => e = .returned (.int .i64 0) ∧ Below w.heap.size w w' := by
  have HB := Lib.hid (alloc_below w (.cells #[.int .i64 c, .bool g, .string S, .int .i64 x] 23))
  go_enter Tryz.func20, Tryz.ntmps20
  go_wp2
  go_ret
  exact ⟨rfl, HB.out⟩
/-- two blocks that a law holds -/
structure TU (w V : World) (gx : Nat) (cs ds : Array Value) : Prop where
  a : Bk V w.heap.size 23 cs
  x : Bk V gx 23 ds
  lt : w.heap.size < gx
  bl : Below w.heap.size w V
section
variable {w V V' : World} {gx : Nat} {cs ds : Array Value} {a0 a1 a2 a3 b0 b1 b2 b3 : Value}
theorem TU.below (h : TU w V gx cs ds) (hb : Below V.heap.size V V') : TU w V' gx cs ds := ⟨h.a.below hb, h.x.below hb, h.lt, on h.bl hb⟩
theorem TU.drew (h : TU w V gx cs ds) : TU w V.drew gx cs ds := ⟨h.a.drew, h.x.drew, h.lt, h.bl.drew⟩
theorem TU.alloc (h : TU w V gx cs ds) (o : Obj) : TU w (V.alloc o) gx cs ds := h.below (alloc_below _ _)
theorem TU.farC (h : TU w V gx cs ds) {p : Addr} (hp : gx < p.block) (v : Value) : TU w (V.setCell p v) gx cs ds :=
  ⟨h.a.far v (by have := h.lt; omega), h.x.far v (by omega), h.lt, h.bl.setCell (by have := h.lt; omega) v⟩
theorem TU.far4 (h : TU w V gx cs ds) {q : Nat} (hp : gx < q) (a b c d : Value) : TU w ((((V.setCell ⟨q, 0, none⟩ a).setCell ⟨q, 1, none⟩ b).setCell ⟨q, 2, none⟩ c).setCell ⟨q, 3, none⟩ d) gx cs ds :=
  (((h.farC (p := (⟨q, 0, none⟩ : Addr)) hp a).farC (p := (⟨q, 1, none⟩ : Addr)) hp b).farC (p := (⟨q, 2, none⟩ : Addr)) hp c).farC (p := (⟨q, 3, none⟩ : Addr)) hp d
theorem TU.keep (h : TU w V gx #[a0, a1, a2, a3] #[b0, b1, b2, b3]) : V.cell? ⟨w.heap.size, 0, none⟩ = some a0 ∧ V.cell? ⟨w.heap.size, 1, none⟩ = some a1 ∧ V.cell? ⟨w.heap.size, 2, none⟩ = some a2 ∧ V.cell? ⟨w.heap.size, 3, none⟩ = some a3 ∧
  V.cell? ⟨gx, 0, none⟩ = some b0 ∧ V.cell? ⟨gx, 1, none⟩ = some b1 ∧ V.cell? ⟨gx, 2, none⟩ = some b2 ∧ V.cell? ⟨gx, 3, none⟩ = some b3 := ⟨h.a.at_ 0 rfl, h.a.at_ 1 rfl, h.a.at_ 2 rfl, h.a.at_ 3 rfl, h.x.at_ 0 rfl, h.x.at_ 1 rfl, h.x.at_ 2 rfl, h.x.at_ 3 rfl⟩
theorem TU.four (h : TU w V gx #[a0, a1, a2, a3] ds) : V.cell? ⟨w.heap.size, 0, none⟩ = some a0 ∧ V.cell? ⟨w.heap.size, 1, none⟩ = some a1 ∧ V.cell? ⟨w.heap.size, 2, none⟩ = some a2 ∧ V.cell? ⟨w.heap.size, 3, none⟩ = some a3 := ⟨h.a.at_ 0 rfl, h.a.at_ 1 rfl, h.a.at_ 2 rfl, h.a.at_ 3 rfl⟩
end
theorem eight' {w : World} {g : Nat} {t : TypeId} {a0 a1 a2 a3 : Value} (C : Bk w g t #[a0, a1, a2, a3]) :
    w.cell? ⟨g, 0, none⟩ = some a0 ∧ w.cell? ⟨g, 1, none⟩ = some a1 ∧ w.cell? ⟨g, 2, none⟩ = some a2 ∧ w.cell? ⟨g, 3, none⟩ = some a3 ∧ w.frozen? ⟨g, 0, none⟩ = false ∧ w.frozen? ⟨g, 1, none⟩ = false ∧ w.frozen? ⟨g, 2, none⟩ = false ∧ w.frozen? ⟨g, 3, none⟩ = false := ⟨C.at_ 0 rfl, C.at_ 1 rfl, C.at_ 2 rfl, C.at_ 3 rfl, C.fr 0, C.fr 1, C.fr 2, C.fr 3⟩
attribute [local go_sem ↓] eq_dec ne_dec
set_option maxHeartbeats 8000000 in
set_option maxRecDepth 100000 in
theorem ways_out (c : Int) (g : Bool) (S : ByteArray) (x place mode : Int) (m : Bool) (w : World) (hp : Pow w)
    (HM : ∀ w1, Calls Tryz.prog 18 #[.agg #[.int .i64 c, .bool g, .string S, .int .i64 x]] w1 fun e w' => e = .returned (.bool m) ∧ Below w1.heap.size w1 w')
    (h : m = false ∨ mode < 0 ∨ 7 < mode ∨ place < -1990 ∨ 1990 < place) :
    Calls Tryz.prog 6 #[.agg #[.int .i64 c, .bool g, .string S, .int .i64 x], .int .i64 place, .int .i64 mode] w fun e w' => e = .returned (.bool true) ∧ Below w.heap.size w w' := by
  have D0 := Lib.hid (Bk.start w 23 #[.int .i64 c, .bool g, .string S, .int .i64 x])
  have b0 := alloc_below w (.cells #[.int .i64 c, .bool g, .string S, .int .i64 x] 23)
  have HA := Lib.hid (awake_calls _ (hp.below b0))
  have B0 := Lib.hid b0
  have HM' := Lib.hid HM
  clear hp b0 HM
  cases m
  · clear h
    go_enter Tryz.func6, Tryz.ntmps6
    go_wp2_with (first
      | (go_at_call 13; (with_reducible refine HA.out.mono ?_); rintro e w1 ⟨rfl, b1⟩; have k1 := four (D0.out.below b1))
      | (go_at_call 18; (with_reducible refine (HM'.out w1).mono ?_); rintro e w2 ⟨rfl, b2⟩))
    go_ret
    exact ⟨rfl, on (on B0.out b1) b2⟩
  · by_cases k1 : mode < 0
    · have d1 := decide_eq_true k1
      clear h
      go_enter Tryz.func6, Tryz.ntmps6
      go_wp2_with (first
        | (go_at_call 13; (with_reducible refine HA.out.mono ?_); rintro e w1 ⟨rfl, b1⟩; have kk1 := four (D0.out.below b1))
        | (go_at_call 18; (with_reducible refine (HM'.out w1).mono ?_); rintro e w2 ⟨rfl, b2⟩))
      go_ret
      exact ⟨rfl, on (on B0.out b1) b2⟩
    · have d1 := decide_eq_false k1
      by_cases k2 : 7 < mode
      · have d2 := decide_eq_true k2
        clear h
        go_enter Tryz.func6, Tryz.ntmps6
        go_wp2_with (first
          | (go_at_call 13; (with_reducible refine HA.out.mono ?_); rintro e w1 ⟨rfl, b1⟩; have kk1 := four (D0.out.below b1))
          | (go_at_call 18; (with_reducible refine (HM'.out w1).mono ?_); rintro e w2 ⟨rfl, b2⟩))
        go_ret
        exact ⟨rfl, on (on B0.out b1) b2⟩
      · have d2 := decide_eq_false k2
        by_cases k3 : place < -1990
        · have d3 := decide_eq_true k3
          clear h
          go_enter Tryz.func6, Tryz.ntmps6
          go_wp2_with (first
            | (go_at_call 13; (with_reducible refine HA.out.mono ?_); rintro e w1 ⟨rfl, b1⟩; have kk1 := four (D0.out.below b1))
            | (go_at_call 18; (with_reducible refine (HM'.out w1).mono ?_); rintro e w2 ⟨rfl, b2⟩))
          go_ret
          exact ⟨rfl, on (on B0.out b1) b2⟩
        · have d3 := decide_eq_false k3
          have k4 : 1990 < place := by
            rcases h with h | h | h | h | h
            · cases h
            all_goals omega
          have d4 := decide_eq_true k4
          clear h
          go_enter Tryz.func6, Tryz.ntmps6
          go_wp2_with (first
            | (go_at_call 13; (with_reducible refine HA.out.mono ?_); rintro e w1 ⟨rfl, b1⟩; have kk1 := four (D0.out.below b1))
            | (go_at_call 18; (with_reducible refine (HM'.out w1).mono ?_); rintro e w2 ⟨rfl, b2⟩))
          go_ret
          exact ⟨rfl, on (on B0.out b1) b2⟩
set_option maxHeartbeats 16000000 in
set_option maxRecDepth 100000 in
theorem ways_nil (c : Int) (g : Bool) (S : ByteArray) (x place mode : Int) (w : World) (hp : Pow w) (m0 : ¬ mode < 0) (m7 : ¬ 7 < mode) (p0 : ¬ place < -1990) (p1 : ¬ 1990 < place) (e1 : S.toList.isEmpty = true) (e2 : (S.toList == []) = true)
    (HM : ∀ w1, Calls Tryz.prog 18 #[.agg #[.int .i64 c, .bool g, .string S, .int .i64 x]] w1 fun e w' => e = .returned (.bool true) ∧ Below w1.heap.size w1 w')
    (HX : ∀ w1, Pow w1 → Calls Tryz.prog 11 #[.agg #[.int .i64 c, .bool g, .string S, .int .i64 x], .int .i64 place, .int .i64 mode] w1 fun e w' => e = .returned (.tuple #[.agg #[.int .i64 c, .bool g, .string S, .int .i64 x], .int .i64 0]) ∧ Below w1.heap.size w1 w')
    (HY : ∀ w1, Pow w1 → Calls Tryz.prog 16 #[.agg #[.int .i64 c, .bool g, .string S, .int .i64 x], .agg #[.int .i64 0, .bool false, .string ⟨#[49]⟩, .int .i64 place], .int .i64 mode] w1 fun e w' => e = .returned (.tuple #[.agg #[.int .i64 c, .bool g, .string S, .int .i64 x], .int .i64 0]) ∧ Below w1.heap.size w1 w')
    (HL : ∀ w1, Calls Tryz.prog 20 #[.agg #[.int .i64 c, .bool g, .string S, .int .i64 x]] w1 fun e w' => e = .returned (.int .i64 0) ∧ Below w1.heap.size w1 w')
    (HZ : ∀ n w1, n = 0 - place → 1 ≤ n → n ≤ 1000 → Pow w1 → Calls Tryz.prog 14 #[.agg #[.int .i64 c, .bool g, .string S, .int .i64 x], .int .i64 n, .int .i64 mode] w1 fun e w' => e = .returned (.tuple #[.agg #[.int .i64 c, .bool g, .string S, .int .i64 x], .int .i64 0]) ∧ Below w1.heap.size w1 w') :
    Calls Tryz.prog 6 #[.agg #[.int .i64 c, .bool g, .string S, .int .i64 x], .int .i64 place, .int .i64 mode] w fun e w' => e = .returned (.bool true) ∧ Below w.heap.size w w' := by
  have D0 := Lib.hid (Bk.start w 23 #[.int .i64 c, .bool g, .string S, .int .i64 x])
  have b0 := alloc_below w (.cells #[.int .i64 c, .bool g, .string S, .int .i64 x] 23)
  have HA := Lib.hid (awake_calls _ (hp.below b0))
  have PW := Lib.hid hp
  have B0 := Lib.hid b0
  have HM' := Lib.hid HM
  have HX' := Lib.hid HX
  have HY' := Lib.hid HY
  have HL' := Lib.hid HL
  obtain ⟨n, hn⟩ : ∃ n, n = 0 - place := ⟨_, rfl⟩
  have HZ' := Lib.hid (HZ n)
  have HN := Lib.hid hn
  have hn' : 0 - place = n := hn.symm
  have dm0 := decide_eq_false m0
  have dm7 := decide_eq_false m7
  have dp0 := decide_eq_false p0
  have dp1 := decide_eq_false p1
  clear hp b0 HM HX HY HL HZ hn
  by_cases r1 : 1 ≤ n
  · have dr1 := decide_eq_true r1
    by_cases r2 : n ≤ 1000
    · have dr2 := decide_eq_true r2
      have i1 := Lib.hid r1
      have i2 := Lib.hid r2
      by_cases hc0 : c = 0
      · have cb : (c == 0) = true := beq_iff_eq.2 hc0
        clear hc0
        go_enter Tryz.func6, Tryz.ntmps6
        go_wp2_with (first
          | (go_at_call 13; (with_reducible refine HA.out.mono ?_); rintro e w1 ⟨rfl, b1⟩; have d1 := D0.out.below b1; have k1 := four d1)
          | (go_at_call 18; (with_reducible refine (HM'.out w1).mono ?_); rintro e w2 ⟨rfl, b2⟩; have d2 := d1.below b2; have k2 := four d2)
          | (go_at_call 11; (with_reducible refine (HX'.out w2 (PW.out.below (on (on B0.out b1) b2))).mono ?_); rintro e w3 ⟨rfl, b3⟩))
        have V0 : TU w (w3.alloc (.cells #[.int .i64 c, .bool g, .string S, .int .i64 x] 23)) w3.heap.size #[.int .i64 c, .bool g, .string S, .int .i64 x] #[.int .i64 c, .bool g, .string S, .int .i64 x] := ⟨(d2.below b3).alloc _, Bk.start w3 23 #[.int .i64 c, .bool g, .string S, .int .i64 x], Nat.lt_of_lt_of_le D0.out.lt (Nat.le_trans b1.size (Nat.le_trans b2.size b3.size)), on (on (on (on B0.out b1) b2) b3) (alloc_below w3 _)⟩
        generalize w3.alloc (.cells #[.int .i64 c, .bool g, .string S, .int .i64 x] 23) = V at *
        generalize w3.heap.size = gx at *
        clear k1 k2 d1 d2 b1 b2 b3
        have z0 := V0.drew
        have za := (V0.alloc (.cells #[.int .i64 0, .bool false, .string ⟨#[]⟩, .int .i64 0] 23)).drew
        have hlt := V0.x.lt
        go_region_held3 (fun w' => w'.cell? ⟨w.heap.size, 0, none⟩ = some (.int .i64 c) ∧ w'.cell? ⟨w.heap.size, 1, none⟩ = some (.bool g) ∧ w'.cell? ⟨w.heap.size, 2, none⟩ = some (.string S) ∧ w'.cell? ⟨w.heap.size, 3, none⟩ = some (.int .i64 x))
          (first
            | (with_reducible exact z0.four)
            | (with_reducible exact za.four)
            | (with_reducible exact z1.four)
            | (with_reducible exact z1a.four)
            | (with_reducible exact z3.four)
            | (with_reducible exact z3a.four)
            | (with_reducible exact zE.four))
          (first
            | (go_at_call 19; first
              | ((with_reducible refine (num_calls _ _ V.drew).mono ?_); rintro e w4 ⟨rfl, b4⟩; have z1 := z0.below b4; have z1a := z1.alloc (.cells #[.int .i64 0, .bool false, .string ⟨#[]⟩, .int .i64 0] 23))
              | ((with_reducible refine (num_calls _ _ (V.alloc (.cells #[.int .i64 0, .bool false, .string ⟨#[]⟩, .int .i64 0] 23)).drew).mono ?_); rintro e w4 ⟨rfl, b4⟩; have z1 := za.below b4; have B1 := (Bk.start V 23 #[.int .i64 0, .bool false, .string ⟨#[]⟩, .int .i64 0]).drew.below b4))
            | (go_at_call 16; first
              | (have tag := B1; (with_reducible refine (HY'.out w4 (PW.out.below z1.bl)).mono ?_); rintro e w5 ⟨rfl, b5⟩; have z3 := z1.below b5; have B3 := B1.below b5; have hq3 : gx < V.heap.size := hlt; have BE := B3.set4 (.int .i64 c) (.bool g) (.string S) (.int .i64 x) rfl; have zE := z3.far4 hq3 (.int .i64 c) (.bool g) (.string S) (.int .i64 x); have q3 := eight' B3)
              | ((with_reducible refine (HY'.out w4 (PW.out.below z1.bl)).mono ?_); rintro e w5 ⟨rfl, b5⟩; have z3 := z1.below b5; have z3a := z3.alloc (.cells #[.int .i64 0, .bool false, .string ⟨#[]⟩, .int .i64 0] 23); have zE := z3.alloc (.cells #[.int .i64 c, .bool g, .string S, .int .i64 x] 23); have BE := Bk.start w5 23 #[.int .i64 c, .bool g, .string S, .int .i64 x])
              | ((with_reducible refine (HY'.out _ (PW.out.below z1a.bl)).mono ?_); rintro e w5 ⟨rfl, b5⟩; have z3 := z1a.below b5; have B3 := (Bk.start w4 23 #[.int .i64 0, .bool false, .string ⟨#[]⟩, .int .i64 0]).below b5; have hq3 : gx < w4.heap.size := z1.x.lt; have BE := B3.set4 (.int .i64 c) (.bool g) (.string S) (.int .i64 x) rfl; have zE := z3.far4 hq3 (.int .i64 c) (.bool g) (.string S) (.int .i64 x); have q3 := eight' B3)))
        all_goals
          have kE := zE.keep
          have yE := four BE
          clear z0 za
          try clear z1 z1a
          try clear z3 z3a
          try clear B1 
          try clear B3 q3
          go_wp2_with (first
            | (go_at_call 20; (with_reducible refine (HL'.out _).mono ?_); rintro e w6 ⟨rfl, b6⟩; have z6 := zE.below b6; have k6 := z6.keep)
            | (go_at_call 14; (with_reducible refine (HZ'.out w6 HN.out i1.out i2.out (PW.out.below z6.bl)).mono ?_); rintro e w7 ⟨rfl, b7⟩; have z7 := (z6.below b7).alloc (.cells #[.int .i64 c, .bool g, .string S, .int .i64 x] 23); have k7 := z7.keep; have y7 := four (Bk.start w7 23 #[.int .i64 c, .bool g, .string S, .int .i64 x])))
          go_ret
          exact ⟨rfl, z7.bl⟩
      · have cb := eqB hc0
        go_enter Tryz.func6, Tryz.ntmps6
        go_wp2_with (first
          | (go_at_call 13; (with_reducible refine HA.out.mono ?_); rintro e w1 ⟨rfl, b1⟩; have d1 := D0.out.below b1; have k1 := four d1)
          | (go_at_call 18; (with_reducible refine (HM'.out w1).mono ?_); rintro e w2 ⟨rfl, b2⟩; have d2 := d1.below b2; have k2 := four d2)
          | (go_at_call 11; (with_reducible refine (HX'.out w2 (PW.out.below (on (on B0.out b1) b2))).mono ?_); rintro e w3 ⟨rfl, b3⟩))
        have V0 : TU w (w3.alloc (.cells #[.int .i64 c, .bool g, .string S, .int .i64 x] 23)) w3.heap.size #[.int .i64 c, .bool g, .string S, .int .i64 x] #[.int .i64 c, .bool g, .string S, .int .i64 x] := ⟨(d2.below b3).alloc _, Bk.start w3 23 #[.int .i64 c, .bool g, .string S, .int .i64 x], Nat.lt_of_lt_of_le D0.out.lt (Nat.le_trans b1.size (Nat.le_trans b2.size b3.size)), on (on (on (on B0.out b1) b2) b3) (alloc_below w3 _)⟩
        generalize w3.alloc (.cells #[.int .i64 c, .bool g, .string S, .int .i64 x] 23) = V at *
        generalize w3.heap.size = gx at *
        clear k1 k2 d1 d2 b1 b2 b3
        have z0 := V0.drew
        have za := (V0.alloc (.cells #[.int .i64 0, .bool false, .string ⟨#[]⟩, .int .i64 0] 23)).drew
        have hlt := V0.x.lt
        go_region_held3 (fun w' => w'.cell? ⟨w.heap.size, 0, none⟩ = some (.int .i64 c) ∧ w'.cell? ⟨w.heap.size, 1, none⟩ = some (.bool g) ∧ w'.cell? ⟨w.heap.size, 2, none⟩ = some (.string S) ∧ w'.cell? ⟨w.heap.size, 3, none⟩ = some (.int .i64 x))
          (first
            | (with_reducible exact z0.four)
            | (with_reducible exact za.four)
            | (with_reducible exact z1.four)
            | (with_reducible exact z1a.four)
            | (with_reducible exact z3.four)
            | (with_reducible exact z3a.four)
            | (with_reducible exact zE.four))
          (first
            | (go_at_call 19; first
              | ((with_reducible refine (num_calls _ _ V.drew).mono ?_); rintro e w4 ⟨rfl, b4⟩; have z1 := z0.below b4; have z1a := z1.alloc (.cells #[.int .i64 0, .bool false, .string ⟨#[]⟩, .int .i64 0] 23))
              | ((with_reducible refine (num_calls _ _ (V.alloc (.cells #[.int .i64 0, .bool false, .string ⟨#[]⟩, .int .i64 0] 23)).drew).mono ?_); rintro e w4 ⟨rfl, b4⟩; have z1 := za.below b4; have B1 := (Bk.start V 23 #[.int .i64 0, .bool false, .string ⟨#[]⟩, .int .i64 0]).drew.below b4))
            | (go_at_call 16; first
              | (have tag := B1; (with_reducible refine (HY'.out w4 (PW.out.below z1.bl)).mono ?_); rintro e w5 ⟨rfl, b5⟩; have z3 := z1.below b5; have B3 := B1.below b5; have hq3 : gx < V.heap.size := hlt; have BE := B3.set4 (.int .i64 c) (.bool g) (.string S) (.int .i64 x) rfl; have zE := z3.far4 hq3 (.int .i64 c) (.bool g) (.string S) (.int .i64 x); have q3 := eight' B3)
              | ((with_reducible refine (HY'.out w4 (PW.out.below z1.bl)).mono ?_); rintro e w5 ⟨rfl, b5⟩; have z3 := z1.below b5; have z3a := z3.alloc (.cells #[.int .i64 0, .bool false, .string ⟨#[]⟩, .int .i64 0] 23); have zE := z3.alloc (.cells #[.int .i64 c, .bool g, .string S, .int .i64 x] 23); have BE := Bk.start w5 23 #[.int .i64 c, .bool g, .string S, .int .i64 x])
              | ((with_reducible refine (HY'.out _ (PW.out.below z1a.bl)).mono ?_); rintro e w5 ⟨rfl, b5⟩; have z3 := z1a.below b5; have B3 := (Bk.start w4 23 #[.int .i64 0, .bool false, .string ⟨#[]⟩, .int .i64 0]).below b5; have hq3 : gx < w4.heap.size := z1.x.lt; have BE := B3.set4 (.int .i64 c) (.bool g) (.string S) (.int .i64 x) rfl; have zE := z3.far4 hq3 (.int .i64 c) (.bool g) (.string S) (.int .i64 x); have q3 := eight' B3)))
        all_goals
          have kE := zE.keep
          have yE := four BE
          clear z0 za
          try clear z1 z1a
          try clear z3 z3a
          try clear B1 
          try clear B3 q3
          go_wp2_with (first
            | (go_at_call 20; (with_reducible refine (HL'.out _).mono ?_); rintro e w6 ⟨rfl, b6⟩; have z6 := zE.below b6; have k6 := z6.keep)
            | (go_at_call 14; (with_reducible refine (HZ'.out w6 HN.out i1.out i2.out (PW.out.below z6.bl)).mono ?_); rintro e w7 ⟨rfl, b7⟩; have z7 := (z6.below b7).alloc (.cells #[.int .i64 c, .bool g, .string S, .int .i64 x] 23); have k7 := z7.keep; have y7 := four (Bk.start w7 23 #[.int .i64 c, .bool g, .string S, .int .i64 x])))
          go_ret
          exact ⟨rfl, z7.bl⟩
    · have dr2 := decide_eq_false r2
      by_cases hc0 : c = 0
      · have cb : (c == 0) = true := beq_iff_eq.2 hc0
        clear hc0
        go_enter Tryz.func6, Tryz.ntmps6
        go_wp2_with (first
          | (go_at_call 13; (with_reducible refine HA.out.mono ?_); rintro e w1 ⟨rfl, b1⟩; have d1 := D0.out.below b1; have k1 := four d1)
          | (go_at_call 18; (with_reducible refine (HM'.out w1).mono ?_); rintro e w2 ⟨rfl, b2⟩; have d2 := d1.below b2; have k2 := four d2)
          | (go_at_call 11; (with_reducible refine (HX'.out w2 (PW.out.below (on (on B0.out b1) b2))).mono ?_); rintro e w3 ⟨rfl, b3⟩))
        have V0 : TU w (w3.alloc (.cells #[.int .i64 c, .bool g, .string S, .int .i64 x] 23)) w3.heap.size #[.int .i64 c, .bool g, .string S, .int .i64 x] #[.int .i64 c, .bool g, .string S, .int .i64 x] := ⟨(d2.below b3).alloc _, Bk.start w3 23 #[.int .i64 c, .bool g, .string S, .int .i64 x], Nat.lt_of_lt_of_le D0.out.lt (Nat.le_trans b1.size (Nat.le_trans b2.size b3.size)), on (on (on (on B0.out b1) b2) b3) (alloc_below w3 _)⟩
        generalize w3.alloc (.cells #[.int .i64 c, .bool g, .string S, .int .i64 x] 23) = V at *
        generalize w3.heap.size = gx at *
        clear k1 k2 d1 d2 b1 b2 b3
        have z0 := V0.drew
        have za := (V0.alloc (.cells #[.int .i64 0, .bool false, .string ⟨#[]⟩, .int .i64 0] 23)).drew
        have hlt := V0.x.lt
        go_region_held3 (fun w' => w'.cell? ⟨w.heap.size, 0, none⟩ = some (.int .i64 c) ∧ w'.cell? ⟨w.heap.size, 1, none⟩ = some (.bool g) ∧ w'.cell? ⟨w.heap.size, 2, none⟩ = some (.string S) ∧ w'.cell? ⟨w.heap.size, 3, none⟩ = some (.int .i64 x))
          (first
            | (with_reducible exact z0.four)
            | (with_reducible exact za.four)
            | (with_reducible exact z1.four)
            | (with_reducible exact z1a.four)
            | (with_reducible exact z3.four)
            | (with_reducible exact z3a.four)
            | (with_reducible exact zE.four))
          (first
            | (go_at_call 19; first
              | ((with_reducible refine (num_calls _ _ V.drew).mono ?_); rintro e w4 ⟨rfl, b4⟩; have z1 := z0.below b4; have z1a := z1.alloc (.cells #[.int .i64 0, .bool false, .string ⟨#[]⟩, .int .i64 0] 23))
              | ((with_reducible refine (num_calls _ _ (V.alloc (.cells #[.int .i64 0, .bool false, .string ⟨#[]⟩, .int .i64 0] 23)).drew).mono ?_); rintro e w4 ⟨rfl, b4⟩; have z1 := za.below b4; have B1 := (Bk.start V 23 #[.int .i64 0, .bool false, .string ⟨#[]⟩, .int .i64 0]).drew.below b4))
            | (go_at_call 16; first
              | (have tag := B1; (with_reducible refine (HY'.out w4 (PW.out.below z1.bl)).mono ?_); rintro e w5 ⟨rfl, b5⟩; have z3 := z1.below b5; have B3 := B1.below b5; have hq3 : gx < V.heap.size := hlt; have BE := B3.set4 (.int .i64 c) (.bool g) (.string S) (.int .i64 x) rfl; have zE := z3.far4 hq3 (.int .i64 c) (.bool g) (.string S) (.int .i64 x); have q3 := eight' B3)
              | ((with_reducible refine (HY'.out w4 (PW.out.below z1.bl)).mono ?_); rintro e w5 ⟨rfl, b5⟩; have z3 := z1.below b5; have z3a := z3.alloc (.cells #[.int .i64 0, .bool false, .string ⟨#[]⟩, .int .i64 0] 23); have zE := z3.alloc (.cells #[.int .i64 c, .bool g, .string S, .int .i64 x] 23); have BE := Bk.start w5 23 #[.int .i64 c, .bool g, .string S, .int .i64 x])
              | ((with_reducible refine (HY'.out _ (PW.out.below z1a.bl)).mono ?_); rintro e w5 ⟨rfl, b5⟩; have z3 := z1a.below b5; have B3 := (Bk.start w4 23 #[.int .i64 0, .bool false, .string ⟨#[]⟩, .int .i64 0]).below b5; have hq3 : gx < w4.heap.size := z1.x.lt; have BE := B3.set4 (.int .i64 c) (.bool g) (.string S) (.int .i64 x) rfl; have zE := z3.far4 hq3 (.int .i64 c) (.bool g) (.string S) (.int .i64 x); have q3 := eight' B3)))
        all_goals
          have kE := zE.keep
          have yE := four BE
          clear z0 za
          try clear z1 z1a
          try clear z3 z3a
          try clear B1 
          try clear B3 q3
          go_wp2_with (first
            | (go_at_call 20; (with_reducible refine (HL'.out _).mono ?_); rintro e w6 ⟨rfl, b6⟩; have z6 := zE.below b6; have k6 := z6.keep)
            | (go_at_call 14; (with_reducible refine (HZ'.out w6 HN.out i1.out i2.out (PW.out.below z6.bl)).mono ?_); rintro e w7 ⟨rfl, b7⟩; have z7 := (z6.below b7).alloc (.cells #[.int .i64 c, .bool g, .string S, .int .i64 x] 23); have k7 := z7.keep; have y7 := four (Bk.start w7 23 #[.int .i64 c, .bool g, .string S, .int .i64 x])))
          go_ret
          exact ⟨rfl, z6.bl⟩
      · have cb := eqB hc0
        go_enter Tryz.func6, Tryz.ntmps6
        go_wp2_with (first
          | (go_at_call 13; (with_reducible refine HA.out.mono ?_); rintro e w1 ⟨rfl, b1⟩; have d1 := D0.out.below b1; have k1 := four d1)
          | (go_at_call 18; (with_reducible refine (HM'.out w1).mono ?_); rintro e w2 ⟨rfl, b2⟩; have d2 := d1.below b2; have k2 := four d2)
          | (go_at_call 11; (with_reducible refine (HX'.out w2 (PW.out.below (on (on B0.out b1) b2))).mono ?_); rintro e w3 ⟨rfl, b3⟩))
        have V0 : TU w (w3.alloc (.cells #[.int .i64 c, .bool g, .string S, .int .i64 x] 23)) w3.heap.size #[.int .i64 c, .bool g, .string S, .int .i64 x] #[.int .i64 c, .bool g, .string S, .int .i64 x] := ⟨(d2.below b3).alloc _, Bk.start w3 23 #[.int .i64 c, .bool g, .string S, .int .i64 x], Nat.lt_of_lt_of_le D0.out.lt (Nat.le_trans b1.size (Nat.le_trans b2.size b3.size)), on (on (on (on B0.out b1) b2) b3) (alloc_below w3 _)⟩
        generalize w3.alloc (.cells #[.int .i64 c, .bool g, .string S, .int .i64 x] 23) = V at *
        generalize w3.heap.size = gx at *
        clear k1 k2 d1 d2 b1 b2 b3
        have z0 := V0.drew
        have za := (V0.alloc (.cells #[.int .i64 0, .bool false, .string ⟨#[]⟩, .int .i64 0] 23)).drew
        have hlt := V0.x.lt
        go_region_held3 (fun w' => w'.cell? ⟨w.heap.size, 0, none⟩ = some (.int .i64 c) ∧ w'.cell? ⟨w.heap.size, 1, none⟩ = some (.bool g) ∧ w'.cell? ⟨w.heap.size, 2, none⟩ = some (.string S) ∧ w'.cell? ⟨w.heap.size, 3, none⟩ = some (.int .i64 x))
          (first
            | (with_reducible exact z0.four)
            | (with_reducible exact za.four)
            | (with_reducible exact z1.four)
            | (with_reducible exact z1a.four)
            | (with_reducible exact z3.four)
            | (with_reducible exact z3a.four)
            | (with_reducible exact zE.four))
          (first
            | (go_at_call 19; first
              | ((with_reducible refine (num_calls _ _ V.drew).mono ?_); rintro e w4 ⟨rfl, b4⟩; have z1 := z0.below b4; have z1a := z1.alloc (.cells #[.int .i64 0, .bool false, .string ⟨#[]⟩, .int .i64 0] 23))
              | ((with_reducible refine (num_calls _ _ (V.alloc (.cells #[.int .i64 0, .bool false, .string ⟨#[]⟩, .int .i64 0] 23)).drew).mono ?_); rintro e w4 ⟨rfl, b4⟩; have z1 := za.below b4; have B1 := (Bk.start V 23 #[.int .i64 0, .bool false, .string ⟨#[]⟩, .int .i64 0]).drew.below b4))
            | (go_at_call 16; first
              | (have tag := B1; (with_reducible refine (HY'.out w4 (PW.out.below z1.bl)).mono ?_); rintro e w5 ⟨rfl, b5⟩; have z3 := z1.below b5; have B3 := B1.below b5; have hq3 : gx < V.heap.size := hlt; have BE := B3.set4 (.int .i64 c) (.bool g) (.string S) (.int .i64 x) rfl; have zE := z3.far4 hq3 (.int .i64 c) (.bool g) (.string S) (.int .i64 x); have q3 := eight' B3)
              | ((with_reducible refine (HY'.out w4 (PW.out.below z1.bl)).mono ?_); rintro e w5 ⟨rfl, b5⟩; have z3 := z1.below b5; have z3a := z3.alloc (.cells #[.int .i64 0, .bool false, .string ⟨#[]⟩, .int .i64 0] 23); have zE := z3.alloc (.cells #[.int .i64 c, .bool g, .string S, .int .i64 x] 23); have BE := Bk.start w5 23 #[.int .i64 c, .bool g, .string S, .int .i64 x])
              | ((with_reducible refine (HY'.out _ (PW.out.below z1a.bl)).mono ?_); rintro e w5 ⟨rfl, b5⟩; have z3 := z1a.below b5; have B3 := (Bk.start w4 23 #[.int .i64 0, .bool false, .string ⟨#[]⟩, .int .i64 0]).below b5; have hq3 : gx < w4.heap.size := z1.x.lt; have BE := B3.set4 (.int .i64 c) (.bool g) (.string S) (.int .i64 x) rfl; have zE := z3.far4 hq3 (.int .i64 c) (.bool g) (.string S) (.int .i64 x); have q3 := eight' B3)))
        all_goals
          have kE := zE.keep
          have yE := four BE
          clear z0 za
          try clear z1 z1a
          try clear z3 z3a
          try clear B1 
          try clear B3 q3
          go_wp2_with (first
            | (go_at_call 20; (with_reducible refine (HL'.out _).mono ?_); rintro e w6 ⟨rfl, b6⟩; have z6 := zE.below b6; have k6 := z6.keep)
            | (go_at_call 14; (with_reducible refine (HZ'.out w6 HN.out i1.out i2.out (PW.out.below z6.bl)).mono ?_); rintro e w7 ⟨rfl, b7⟩; have z7 := (z6.below b7).alloc (.cells #[.int .i64 c, .bool g, .string S, .int .i64 x] 23); have k7 := z7.keep; have y7 := four (Bk.start w7 23 #[.int .i64 c, .bool g, .string S, .int .i64 x])))
          go_ret
          exact ⟨rfl, z6.bl⟩
  · have dr1 := decide_eq_false r1
    by_cases hc0 : c = 0
    · have cb : (c == 0) = true := beq_iff_eq.2 hc0
      clear hc0
      go_enter Tryz.func6, Tryz.ntmps6
      go_wp2_with (first
        | (go_at_call 13; (with_reducible refine HA.out.mono ?_); rintro e w1 ⟨rfl, b1⟩; have d1 := D0.out.below b1; have k1 := four d1)
        | (go_at_call 18; (with_reducible refine (HM'.out w1).mono ?_); rintro e w2 ⟨rfl, b2⟩; have d2 := d1.below b2; have k2 := four d2)
        | (go_at_call 11; (with_reducible refine (HX'.out w2 (PW.out.below (on (on B0.out b1) b2))).mono ?_); rintro e w3 ⟨rfl, b3⟩))
      have V0 : TU w (w3.alloc (.cells #[.int .i64 c, .bool g, .string S, .int .i64 x] 23)) w3.heap.size #[.int .i64 c, .bool g, .string S, .int .i64 x] #[.int .i64 c, .bool g, .string S, .int .i64 x] := ⟨(d2.below b3).alloc _, Bk.start w3 23 #[.int .i64 c, .bool g, .string S, .int .i64 x], Nat.lt_of_lt_of_le D0.out.lt (Nat.le_trans b1.size (Nat.le_trans b2.size b3.size)), on (on (on (on B0.out b1) b2) b3) (alloc_below w3 _)⟩
      generalize w3.alloc (.cells #[.int .i64 c, .bool g, .string S, .int .i64 x] 23) = V at *
      generalize w3.heap.size = gx at *
      clear k1 k2 d1 d2 b1 b2 b3
      have z0 := V0.drew
      have za := (V0.alloc (.cells #[.int .i64 0, .bool false, .string ⟨#[]⟩, .int .i64 0] 23)).drew
      have hlt := V0.x.lt
      go_region_held3 (fun w' => w'.cell? ⟨w.heap.size, 0, none⟩ = some (.int .i64 c) ∧ w'.cell? ⟨w.heap.size, 1, none⟩ = some (.bool g) ∧ w'.cell? ⟨w.heap.size, 2, none⟩ = some (.string S) ∧ w'.cell? ⟨w.heap.size, 3, none⟩ = some (.int .i64 x))
        (first
          | (with_reducible exact z0.four)
          | (with_reducible exact za.four)
          | (with_reducible exact z1.four)
          | (with_reducible exact z1a.four)
          | (with_reducible exact z3.four)
          | (with_reducible exact z3a.four)
          | (with_reducible exact zE.four))
        (first
          | (go_at_call 19; first
            | ((with_reducible refine (num_calls _ _ V.drew).mono ?_); rintro e w4 ⟨rfl, b4⟩; have z1 := z0.below b4; have z1a := z1.alloc (.cells #[.int .i64 0, .bool false, .string ⟨#[]⟩, .int .i64 0] 23))
            | ((with_reducible refine (num_calls _ _ (V.alloc (.cells #[.int .i64 0, .bool false, .string ⟨#[]⟩, .int .i64 0] 23)).drew).mono ?_); rintro e w4 ⟨rfl, b4⟩; have z1 := za.below b4; have B1 := (Bk.start V 23 #[.int .i64 0, .bool false, .string ⟨#[]⟩, .int .i64 0]).drew.below b4))
          | (go_at_call 16; first
            | (have tag := B1; (with_reducible refine (HY'.out w4 (PW.out.below z1.bl)).mono ?_); rintro e w5 ⟨rfl, b5⟩; have z3 := z1.below b5; have B3 := B1.below b5; have hq3 : gx < V.heap.size := hlt; have BE := B3.set4 (.int .i64 c) (.bool g) (.string S) (.int .i64 x) rfl; have zE := z3.far4 hq3 (.int .i64 c) (.bool g) (.string S) (.int .i64 x); have q3 := eight' B3)
            | ((with_reducible refine (HY'.out w4 (PW.out.below z1.bl)).mono ?_); rintro e w5 ⟨rfl, b5⟩; have z3 := z1.below b5; have z3a := z3.alloc (.cells #[.int .i64 0, .bool false, .string ⟨#[]⟩, .int .i64 0] 23); have zE := z3.alloc (.cells #[.int .i64 c, .bool g, .string S, .int .i64 x] 23); have BE := Bk.start w5 23 #[.int .i64 c, .bool g, .string S, .int .i64 x])
            | ((with_reducible refine (HY'.out _ (PW.out.below z1a.bl)).mono ?_); rintro e w5 ⟨rfl, b5⟩; have z3 := z1a.below b5; have B3 := (Bk.start w4 23 #[.int .i64 0, .bool false, .string ⟨#[]⟩, .int .i64 0]).below b5; have hq3 : gx < w4.heap.size := z1.x.lt; have BE := B3.set4 (.int .i64 c) (.bool g) (.string S) (.int .i64 x) rfl; have zE := z3.far4 hq3 (.int .i64 c) (.bool g) (.string S) (.int .i64 x); have q3 := eight' B3)))
      all_goals
        have kE := zE.keep
        have yE := four BE
        clear z0 za
        try clear z1 z1a
        try clear z3 z3a
        try clear B1 
        try clear B3 q3
        go_wp2_with (first
          | (go_at_call 20; (with_reducible refine (HL'.out _).mono ?_); rintro e w6 ⟨rfl, b6⟩; have z6 := zE.below b6; have k6 := z6.keep)
          | (go_at_call 14; (with_reducible refine (HZ'.out w6 HN.out i1.out i2.out (PW.out.below z6.bl)).mono ?_); rintro e w7 ⟨rfl, b7⟩; have z7 := (z6.below b7).alloc (.cells #[.int .i64 c, .bool g, .string S, .int .i64 x] 23); have k7 := z7.keep; have y7 := four (Bk.start w7 23 #[.int .i64 c, .bool g, .string S, .int .i64 x])))
        go_ret
        exact ⟨rfl, z6.bl⟩
    · have cb := eqB hc0
      go_enter Tryz.func6, Tryz.ntmps6
      go_wp2_with (first
        | (go_at_call 13; (with_reducible refine HA.out.mono ?_); rintro e w1 ⟨rfl, b1⟩; have d1 := D0.out.below b1; have k1 := four d1)
        | (go_at_call 18; (with_reducible refine (HM'.out w1).mono ?_); rintro e w2 ⟨rfl, b2⟩; have d2 := d1.below b2; have k2 := four d2)
        | (go_at_call 11; (with_reducible refine (HX'.out w2 (PW.out.below (on (on B0.out b1) b2))).mono ?_); rintro e w3 ⟨rfl, b3⟩))
      have V0 : TU w (w3.alloc (.cells #[.int .i64 c, .bool g, .string S, .int .i64 x] 23)) w3.heap.size #[.int .i64 c, .bool g, .string S, .int .i64 x] #[.int .i64 c, .bool g, .string S, .int .i64 x] := ⟨(d2.below b3).alloc _, Bk.start w3 23 #[.int .i64 c, .bool g, .string S, .int .i64 x], Nat.lt_of_lt_of_le D0.out.lt (Nat.le_trans b1.size (Nat.le_trans b2.size b3.size)), on (on (on (on B0.out b1) b2) b3) (alloc_below w3 _)⟩
      generalize w3.alloc (.cells #[.int .i64 c, .bool g, .string S, .int .i64 x] 23) = V at *
      generalize w3.heap.size = gx at *
      clear k1 k2 d1 d2 b1 b2 b3
      have z0 := V0.drew
      have za := (V0.alloc (.cells #[.int .i64 0, .bool false, .string ⟨#[]⟩, .int .i64 0] 23)).drew
      have hlt := V0.x.lt
      go_region_held3 (fun w' => w'.cell? ⟨w.heap.size, 0, none⟩ = some (.int .i64 c) ∧ w'.cell? ⟨w.heap.size, 1, none⟩ = some (.bool g) ∧ w'.cell? ⟨w.heap.size, 2, none⟩ = some (.string S) ∧ w'.cell? ⟨w.heap.size, 3, none⟩ = some (.int .i64 x))
        (first
          | (with_reducible exact z0.four)
          | (with_reducible exact za.four)
          | (with_reducible exact z1.four)
          | (with_reducible exact z1a.four)
          | (with_reducible exact z3.four)
          | (with_reducible exact z3a.four)
          | (with_reducible exact zE.four))
        (first
          | (go_at_call 19; first
            | ((with_reducible refine (num_calls _ _ V.drew).mono ?_); rintro e w4 ⟨rfl, b4⟩; have z1 := z0.below b4; have z1a := z1.alloc (.cells #[.int .i64 0, .bool false, .string ⟨#[]⟩, .int .i64 0] 23))
            | ((with_reducible refine (num_calls _ _ (V.alloc (.cells #[.int .i64 0, .bool false, .string ⟨#[]⟩, .int .i64 0] 23)).drew).mono ?_); rintro e w4 ⟨rfl, b4⟩; have z1 := za.below b4; have B1 := (Bk.start V 23 #[.int .i64 0, .bool false, .string ⟨#[]⟩, .int .i64 0]).drew.below b4))
          | (go_at_call 16; first
            | (have tag := B1; (with_reducible refine (HY'.out w4 (PW.out.below z1.bl)).mono ?_); rintro e w5 ⟨rfl, b5⟩; have z3 := z1.below b5; have B3 := B1.below b5; have hq3 : gx < V.heap.size := hlt; have BE := B3.set4 (.int .i64 c) (.bool g) (.string S) (.int .i64 x) rfl; have zE := z3.far4 hq3 (.int .i64 c) (.bool g) (.string S) (.int .i64 x); have q3 := eight' B3)
            | ((with_reducible refine (HY'.out w4 (PW.out.below z1.bl)).mono ?_); rintro e w5 ⟨rfl, b5⟩; have z3 := z1.below b5; have z3a := z3.alloc (.cells #[.int .i64 0, .bool false, .string ⟨#[]⟩, .int .i64 0] 23); have zE := z3.alloc (.cells #[.int .i64 c, .bool g, .string S, .int .i64 x] 23); have BE := Bk.start w5 23 #[.int .i64 c, .bool g, .string S, .int .i64 x])
            | ((with_reducible refine (HY'.out _ (PW.out.below z1a.bl)).mono ?_); rintro e w5 ⟨rfl, b5⟩; have z3 := z1a.below b5; have B3 := (Bk.start w4 23 #[.int .i64 0, .bool false, .string ⟨#[]⟩, .int .i64 0]).below b5; have hq3 : gx < w4.heap.size := z1.x.lt; have BE := B3.set4 (.int .i64 c) (.bool g) (.string S) (.int .i64 x) rfl; have zE := z3.far4 hq3 (.int .i64 c) (.bool g) (.string S) (.int .i64 x); have q3 := eight' B3)))
      all_goals
        have kE := zE.keep
        have yE := four BE
        clear z0 za
        try clear z1 z1a
        try clear z3 z3a
        try clear B1 
        try clear B3 q3
        go_wp2_with (first
          | (go_at_call 20; (with_reducible refine (HL'.out _).mono ?_); rintro e w6 ⟨rfl, b6⟩; have z6 := zE.below b6; have k6 := z6.keep)
          | (go_at_call 14; (with_reducible refine (HZ'.out w6 HN.out i1.out i2.out (PW.out.below z6.bl)).mono ?_); rintro e w7 ⟨rfl, b7⟩; have z7 := (z6.below b7).alloc (.cells #[.int .i64 c, .bool g, .string S, .int .i64 x] 23); have k7 := z7.keep; have y7 := four (Bk.start w7 23 #[.int .i64 c, .bool g, .string S, .int .i64 x])))
        go_ret
        exact ⟨rfl, z6.bl⟩
set_option maxHeartbeats 16000000 in
set_option maxRecDepth 100000 in
theorem ways_far (g : Bool) (S : ByteArray) (x place mode pl ca : Int) (ga : Bool) (la : ByteArray) (xa ea : Int) (w : World) (hp : Pow w) (m0 : ¬ mode < 0) (m7 : ¬ 7 < mode) (p0 : ¬ place < -1990) (p1 : ¬ 1990 < place) (e1 : S.toList.isEmpty = false) (e2 : (S.toList == []) = false) (hplb : -100000 ≤ pl ∧ pl ≤ 100000)
    (HM : ∀ w1, Calls Tryz.prog 18 #[.agg #[.int .i64 0, .bool g, .string S, .int .i64 x]] w1 fun e w' => e = .returned (.bool true) ∧ Below w1.heap.size w1 w')
    (HX : ∀ w1, Pow w1 → Calls Tryz.prog 11 #[.agg #[.int .i64 0, .bool g, .string S, .int .i64 x], .int .i64 place, .int .i64 mode] w1 fun e w' => e = .returned (.tuple #[.agg #[.int .i64 ca, .bool ga, .string la, .int .i64 xa], .int .i64 ea]) ∧ Below w1.heap.size w1 w')
    (HY : ∀ w1, Pow w1 → Calls Tryz.prog 16 #[.agg #[.int .i64 0, .bool g, .string S, .int .i64 x], .agg #[.int .i64 0, .bool false, .string ⟨#[49]⟩, .int .i64 place], .int .i64 mode] w1 fun e w' => e = .returned (.tuple #[.agg #[.int .i64 ca, .bool ga, .string la, .int .i64 xa], .int .i64 ea]) ∧ Below w1.heap.size w1 w')
    (HL : ∀ w1, Calls Tryz.prog 20 #[.agg #[.int .i64 0, .bool g, .string S, .int .i64 x]] w1 fun e w' => e = .returned (.int .i64 pl) ∧ Below w1.heap.size w1 w')
    (HZ : ∀ n w1, n = pl - place → 1 ≤ n → n ≤ 1000 → Pow w1 → Calls Tryz.prog 14 #[.agg #[.int .i64 0, .bool g, .string S, .int .i64 x], .int .i64 n, .int .i64 mode] w1 fun e w' => e = .returned (.tuple #[.agg #[.int .i64 ca, .bool ga, .string la, .int .i64 xa], .int .i64 ea]) ∧ Below w1.heap.size w1 w') (hx : x < place) :
    Calls Tryz.prog 6 #[.agg #[.int .i64 0, .bool g, .string S, .int .i64 x], .int .i64 place, .int .i64 mode] w fun e w' => e = .returned (.bool true) ∧ Below w.heap.size w w' := by
  have D0 := Lib.hid (Bk.start w 23 #[.int .i64 0, .bool g, .string S, .int .i64 x])
  have b0 := alloc_below w (.cells #[.int .i64 0, .bool g, .string S, .int .i64 x] 23)
  have HA := Lib.hid (awake_calls _ (hp.below b0))
  have PW := Lib.hid hp
  have B0 := Lib.hid b0
  have HM' := Lib.hid HM
  have HX' := Lib.hid HX
  have HY' := Lib.hid HY
  have HL' := Lib.hid HL
  obtain ⟨n, hn⟩ : ∃ n, n = pl - place := ⟨_, rfl⟩
  have HZ' := Lib.hid (HZ n)
  have HN := Lib.hid hn
  have hn' : pl - place = n := hn.symm
  have dm0 := decide_eq_false m0
  have dm7 := decide_eq_false m7
  have dp0 := decide_eq_false p0
  have dp1 := decide_eq_false p1
  clear hp b0 HM HX HY HL HZ hn
  by_cases r1 : 1 ≤ n
  · have dr1 := decide_eq_true r1
    by_cases r2 : n ≤ 1000
    · have dr2 := decide_eq_true r2
      have i1 := Lib.hid r1
      have i2 := Lib.hid r2
      have dx := decide_eq_true hx
      go_enter Tryz.func6, Tryz.ntmps6
      go_wp2_with (first
        | (go_at_call 13; (with_reducible refine HA.out.mono ?_); rintro e w1 ⟨rfl, b1⟩; have d1 := D0.out.below b1; have k1 := four d1)
        | (go_at_call 18; (with_reducible refine (HM'.out w1).mono ?_); rintro e w2 ⟨rfl, b2⟩; have d2 := d1.below b2; have k2 := four d2)
        | (go_at_call 11; (with_reducible refine (HX'.out w2 (PW.out.below (on (on B0.out b1) b2))).mono ?_); rintro e w3 ⟨rfl, b3⟩))
      have V0 : TU w (w3.alloc (.cells #[.int .i64 ca, .bool ga, .string la, .int .i64 xa] 23)) w3.heap.size #[.int .i64 0, .bool g, .string S, .int .i64 x] #[.int .i64 ca, .bool ga, .string la, .int .i64 xa] := ⟨(d2.below b3).alloc _, Bk.start w3 23 #[.int .i64 ca, .bool ga, .string la, .int .i64 xa], Nat.lt_of_lt_of_le D0.out.lt (Nat.le_trans b1.size (Nat.le_trans b2.size b3.size)), on (on (on (on B0.out b1) b2) b3) (alloc_below w3 _)⟩
      generalize w3.alloc (.cells #[.int .i64 ca, .bool ga, .string la, .int .i64 xa] 23) = V at *
      generalize w3.heap.size = gx at *
      clear k1 k2 d1 d2 b1 b2 b3
      have z0 := V0.drew
      have za := (V0.alloc (.cells #[.int .i64 0, .bool false, .string ⟨#[]⟩, .int .i64 0] 23)).drew
      have hlt := V0.x.lt
      go_region_held3 (fun w' => w'.cell? ⟨w.heap.size, 0, none⟩ = some (.int .i64 0) ∧ w'.cell? ⟨w.heap.size, 1, none⟩ = some (.bool g) ∧ w'.cell? ⟨w.heap.size, 2, none⟩ = some (.string S) ∧ w'.cell? ⟨w.heap.size, 3, none⟩ = some (.int .i64 x))
        (first
          | (with_reducible exact z0.four)
          | (with_reducible exact za.four)
          | (with_reducible exact z1.four)
          | (with_reducible exact z1a.four)
          | (with_reducible exact z3.four)
          | (with_reducible exact z3a.four)
          | (with_reducible exact zE.four))
        (first
          | (go_at_call 19; first
            | ((with_reducible refine (num_calls _ _ V.drew).mono ?_); rintro e w4 ⟨rfl, b4⟩; have z1 := z0.below b4; have z1a := z1.alloc (.cells #[.int .i64 0, .bool false, .string ⟨#[]⟩, .int .i64 0] 23))
            | ((with_reducible refine (num_calls _ _ (V.alloc (.cells #[.int .i64 0, .bool false, .string ⟨#[]⟩, .int .i64 0] 23)).drew).mono ?_); rintro e w4 ⟨rfl, b4⟩; have z1 := za.below b4; have B1 := (Bk.start V 23 #[.int .i64 0, .bool false, .string ⟨#[]⟩, .int .i64 0]).drew.below b4))
          | (go_at_call 16; first
            | (have tag := B1; (with_reducible refine (HY'.out w4 (PW.out.below z1.bl)).mono ?_); rintro e w5 ⟨rfl, b5⟩; have z3 := z1.below b5; have B3 := B1.below b5; have hq3 : gx < V.heap.size := hlt; have BE := B3.set4 (.int .i64 ca) (.bool ga) (.string la) (.int .i64 xa) rfl; have zE := z3.far4 hq3 (.int .i64 ca) (.bool ga) (.string la) (.int .i64 xa); have q3 := eight' B3)
            | ((with_reducible refine (HY'.out w4 (PW.out.below z1.bl)).mono ?_); rintro e w5 ⟨rfl, b5⟩; have z3 := z1.below b5; have z3a := z3.alloc (.cells #[.int .i64 0, .bool false, .string ⟨#[]⟩, .int .i64 0] 23); have zE := z3.alloc (.cells #[.int .i64 ca, .bool ga, .string la, .int .i64 xa] 23); have BE := Bk.start w5 23 #[.int .i64 ca, .bool ga, .string la, .int .i64 xa])
            | ((with_reducible refine (HY'.out _ (PW.out.below z1a.bl)).mono ?_); rintro e w5 ⟨rfl, b5⟩; have z3 := z1a.below b5; have B3 := (Bk.start w4 23 #[.int .i64 0, .bool false, .string ⟨#[]⟩, .int .i64 0]).below b5; have hq3 : gx < w4.heap.size := z1.x.lt; have BE := B3.set4 (.int .i64 ca) (.bool ga) (.string la) (.int .i64 xa) rfl; have zE := z3.far4 hq3 (.int .i64 ca) (.bool ga) (.string la) (.int .i64 xa); have q3 := eight' B3)))
      all_goals
        have kE := zE.keep
        have yE := four BE
        clear z0 za
        try clear z1 z1a
        try clear z3 z3a
        try clear B1 
        try clear B3 q3
        go_wp2_with (first
          | (go_at_call 20; (with_reducible refine (HL'.out _).mono ?_); rintro e w6 ⟨rfl, b6⟩; have z6 := zE.below b6; have k6 := z6.keep)
          | (go_at_call 14; (with_reducible refine (HZ'.out w6 HN.out i1.out i2.out (PW.out.below z6.bl)).mono ?_); rintro e w7 ⟨rfl, b7⟩; have z7 := (z6.below b7).alloc (.cells #[.int .i64 ca, .bool ga, .string la, .int .i64 xa] 23); have k7 := z7.keep; have y7 := four (Bk.start w7 23 #[.int .i64 ca, .bool ga, .string la, .int .i64 xa])))
        go_ret
        exact ⟨rfl, z7.bl⟩
    · have dr2 := decide_eq_false r2
      have dx := decide_eq_true hx
      go_enter Tryz.func6, Tryz.ntmps6
      go_wp2_with (first
        | (go_at_call 13; (with_reducible refine HA.out.mono ?_); rintro e w1 ⟨rfl, b1⟩; have d1 := D0.out.below b1; have k1 := four d1)
        | (go_at_call 18; (with_reducible refine (HM'.out w1).mono ?_); rintro e w2 ⟨rfl, b2⟩; have d2 := d1.below b2; have k2 := four d2)
        | (go_at_call 11; (with_reducible refine (HX'.out w2 (PW.out.below (on (on B0.out b1) b2))).mono ?_); rintro e w3 ⟨rfl, b3⟩))
      have V0 : TU w (w3.alloc (.cells #[.int .i64 ca, .bool ga, .string la, .int .i64 xa] 23)) w3.heap.size #[.int .i64 0, .bool g, .string S, .int .i64 x] #[.int .i64 ca, .bool ga, .string la, .int .i64 xa] := ⟨(d2.below b3).alloc _, Bk.start w3 23 #[.int .i64 ca, .bool ga, .string la, .int .i64 xa], Nat.lt_of_lt_of_le D0.out.lt (Nat.le_trans b1.size (Nat.le_trans b2.size b3.size)), on (on (on (on B0.out b1) b2) b3) (alloc_below w3 _)⟩
      generalize w3.alloc (.cells #[.int .i64 ca, .bool ga, .string la, .int .i64 xa] 23) = V at *
      generalize w3.heap.size = gx at *
      clear k1 k2 d1 d2 b1 b2 b3
      have z0 := V0.drew
      have za := (V0.alloc (.cells #[.int .i64 0, .bool false, .string ⟨#[]⟩, .int .i64 0] 23)).drew
      have hlt := V0.x.lt
      go_region_held3 (fun w' => w'.cell? ⟨w.heap.size, 0, none⟩ = some (.int .i64 0) ∧ w'.cell? ⟨w.heap.size, 1, none⟩ = some (.bool g) ∧ w'.cell? ⟨w.heap.size, 2, none⟩ = some (.string S) ∧ w'.cell? ⟨w.heap.size, 3, none⟩ = some (.int .i64 x))
        (first
          | (with_reducible exact z0.four)
          | (with_reducible exact za.four)
          | (with_reducible exact z1.four)
          | (with_reducible exact z1a.four)
          | (with_reducible exact z3.four)
          | (with_reducible exact z3a.four)
          | (with_reducible exact zE.four))
        (first
          | (go_at_call 19; first
            | ((with_reducible refine (num_calls _ _ V.drew).mono ?_); rintro e w4 ⟨rfl, b4⟩; have z1 := z0.below b4; have z1a := z1.alloc (.cells #[.int .i64 0, .bool false, .string ⟨#[]⟩, .int .i64 0] 23))
            | ((with_reducible refine (num_calls _ _ (V.alloc (.cells #[.int .i64 0, .bool false, .string ⟨#[]⟩, .int .i64 0] 23)).drew).mono ?_); rintro e w4 ⟨rfl, b4⟩; have z1 := za.below b4; have B1 := (Bk.start V 23 #[.int .i64 0, .bool false, .string ⟨#[]⟩, .int .i64 0]).drew.below b4))
          | (go_at_call 16; first
            | (have tag := B1; (with_reducible refine (HY'.out w4 (PW.out.below z1.bl)).mono ?_); rintro e w5 ⟨rfl, b5⟩; have z3 := z1.below b5; have B3 := B1.below b5; have hq3 : gx < V.heap.size := hlt; have BE := B3.set4 (.int .i64 ca) (.bool ga) (.string la) (.int .i64 xa) rfl; have zE := z3.far4 hq3 (.int .i64 ca) (.bool ga) (.string la) (.int .i64 xa); have q3 := eight' B3)
            | ((with_reducible refine (HY'.out w4 (PW.out.below z1.bl)).mono ?_); rintro e w5 ⟨rfl, b5⟩; have z3 := z1.below b5; have z3a := z3.alloc (.cells #[.int .i64 0, .bool false, .string ⟨#[]⟩, .int .i64 0] 23); have zE := z3.alloc (.cells #[.int .i64 ca, .bool ga, .string la, .int .i64 xa] 23); have BE := Bk.start w5 23 #[.int .i64 ca, .bool ga, .string la, .int .i64 xa])
            | ((with_reducible refine (HY'.out _ (PW.out.below z1a.bl)).mono ?_); rintro e w5 ⟨rfl, b5⟩; have z3 := z1a.below b5; have B3 := (Bk.start w4 23 #[.int .i64 0, .bool false, .string ⟨#[]⟩, .int .i64 0]).below b5; have hq3 : gx < w4.heap.size := z1.x.lt; have BE := B3.set4 (.int .i64 ca) (.bool ga) (.string la) (.int .i64 xa) rfl; have zE := z3.far4 hq3 (.int .i64 ca) (.bool ga) (.string la) (.int .i64 xa); have q3 := eight' B3)))
      all_goals
        have kE := zE.keep
        have yE := four BE
        clear z0 za
        try clear z1 z1a
        try clear z3 z3a
        try clear B1 
        try clear B3 q3
        go_wp2_with (first
          | (go_at_call 20; (with_reducible refine (HL'.out _).mono ?_); rintro e w6 ⟨rfl, b6⟩; have z6 := zE.below b6; have k6 := z6.keep)
          | (go_at_call 14; (with_reducible refine (HZ'.out w6 HN.out i1.out i2.out (PW.out.below z6.bl)).mono ?_); rintro e w7 ⟨rfl, b7⟩; have z7 := (z6.below b7).alloc (.cells #[.int .i64 ca, .bool ga, .string la, .int .i64 xa] 23); have k7 := z7.keep; have y7 := four (Bk.start w7 23 #[.int .i64 ca, .bool ga, .string la, .int .i64 xa])))
        go_ret
        exact ⟨rfl, z6.bl⟩
  · have dr1 := decide_eq_false r1
    have dx := decide_eq_true hx
    go_enter Tryz.func6, Tryz.ntmps6
    go_wp2_with (first
      | (go_at_call 13; (with_reducible refine HA.out.mono ?_); rintro e w1 ⟨rfl, b1⟩; have d1 := D0.out.below b1; have k1 := four d1)
      | (go_at_call 18; (with_reducible refine (HM'.out w1).mono ?_); rintro e w2 ⟨rfl, b2⟩; have d2 := d1.below b2; have k2 := four d2)
      | (go_at_call 11; (with_reducible refine (HX'.out w2 (PW.out.below (on (on B0.out b1) b2))).mono ?_); rintro e w3 ⟨rfl, b3⟩))
    have V0 : TU w (w3.alloc (.cells #[.int .i64 ca, .bool ga, .string la, .int .i64 xa] 23)) w3.heap.size #[.int .i64 0, .bool g, .string S, .int .i64 x] #[.int .i64 ca, .bool ga, .string la, .int .i64 xa] := ⟨(d2.below b3).alloc _, Bk.start w3 23 #[.int .i64 ca, .bool ga, .string la, .int .i64 xa], Nat.lt_of_lt_of_le D0.out.lt (Nat.le_trans b1.size (Nat.le_trans b2.size b3.size)), on (on (on (on B0.out b1) b2) b3) (alloc_below w3 _)⟩
    generalize w3.alloc (.cells #[.int .i64 ca, .bool ga, .string la, .int .i64 xa] 23) = V at *
    generalize w3.heap.size = gx at *
    clear k1 k2 d1 d2 b1 b2 b3
    have z0 := V0.drew
    have za := (V0.alloc (.cells #[.int .i64 0, .bool false, .string ⟨#[]⟩, .int .i64 0] 23)).drew
    have hlt := V0.x.lt
    go_region_held3 (fun w' => w'.cell? ⟨w.heap.size, 0, none⟩ = some (.int .i64 0) ∧ w'.cell? ⟨w.heap.size, 1, none⟩ = some (.bool g) ∧ w'.cell? ⟨w.heap.size, 2, none⟩ = some (.string S) ∧ w'.cell? ⟨w.heap.size, 3, none⟩ = some (.int .i64 x))
      (first
        | (with_reducible exact z0.four)
        | (with_reducible exact za.four)
        | (with_reducible exact z1.four)
        | (with_reducible exact z1a.four)
        | (with_reducible exact z3.four)
        | (with_reducible exact z3a.four)
        | (with_reducible exact zE.four))
      (first
        | (go_at_call 19; first
          | ((with_reducible refine (num_calls _ _ V.drew).mono ?_); rintro e w4 ⟨rfl, b4⟩; have z1 := z0.below b4; have z1a := z1.alloc (.cells #[.int .i64 0, .bool false, .string ⟨#[]⟩, .int .i64 0] 23))
          | ((with_reducible refine (num_calls _ _ (V.alloc (.cells #[.int .i64 0, .bool false, .string ⟨#[]⟩, .int .i64 0] 23)).drew).mono ?_); rintro e w4 ⟨rfl, b4⟩; have z1 := za.below b4; have B1 := (Bk.start V 23 #[.int .i64 0, .bool false, .string ⟨#[]⟩, .int .i64 0]).drew.below b4))
        | (go_at_call 16; first
          | (have tag := B1; (with_reducible refine (HY'.out w4 (PW.out.below z1.bl)).mono ?_); rintro e w5 ⟨rfl, b5⟩; have z3 := z1.below b5; have B3 := B1.below b5; have hq3 : gx < V.heap.size := hlt; have BE := B3.set4 (.int .i64 ca) (.bool ga) (.string la) (.int .i64 xa) rfl; have zE := z3.far4 hq3 (.int .i64 ca) (.bool ga) (.string la) (.int .i64 xa); have q3 := eight' B3)
          | ((with_reducible refine (HY'.out w4 (PW.out.below z1.bl)).mono ?_); rintro e w5 ⟨rfl, b5⟩; have z3 := z1.below b5; have z3a := z3.alloc (.cells #[.int .i64 0, .bool false, .string ⟨#[]⟩, .int .i64 0] 23); have zE := z3.alloc (.cells #[.int .i64 ca, .bool ga, .string la, .int .i64 xa] 23); have BE := Bk.start w5 23 #[.int .i64 ca, .bool ga, .string la, .int .i64 xa])
          | ((with_reducible refine (HY'.out _ (PW.out.below z1a.bl)).mono ?_); rintro e w5 ⟨rfl, b5⟩; have z3 := z1a.below b5; have B3 := (Bk.start w4 23 #[.int .i64 0, .bool false, .string ⟨#[]⟩, .int .i64 0]).below b5; have hq3 : gx < w4.heap.size := z1.x.lt; have BE := B3.set4 (.int .i64 ca) (.bool ga) (.string la) (.int .i64 xa) rfl; have zE := z3.far4 hq3 (.int .i64 ca) (.bool ga) (.string la) (.int .i64 xa); have q3 := eight' B3)))
    all_goals
      have kE := zE.keep
      have yE := four BE
      clear z0 za
      try clear z1 z1a
      try clear z3 z3a
      try clear B1 
      try clear B3 q3
      go_wp2_with (first
        | (go_at_call 20; (with_reducible refine (HL'.out _).mono ?_); rintro e w6 ⟨rfl, b6⟩; have z6 := zE.below b6; have k6 := z6.keep)
        | (go_at_call 14; (with_reducible refine (HZ'.out w6 HN.out i1.out i2.out (PW.out.below z6.bl)).mono ?_); rintro e w7 ⟨rfl, b7⟩; have z7 := (z6.below b7).alloc (.cells #[.int .i64 ca, .bool ga, .string la, .int .i64 xa] 23); have k7 := z7.keep; have y7 := four (Bk.start w7 23 #[.int .i64 ca, .bool ga, .string la, .int .i64 xa])))
      go_ret
      exact ⟨rfl, z6.bl⟩
set_option maxHeartbeats 16000000 in
set_option maxRecDepth 100000 in
theorem ways_near (g : Bool) (S : ByteArray) (x place mode pl : Int) (w : World) (hp : Pow w) (m0 : ¬ mode < 0) (m7 : ¬ 7 < mode) (p0 : ¬ place < -1990) (p1 : ¬ 1990 < place) (e1 : S.toList.isEmpty = false) (e2 : (S.toList == []) = false) (hplb : -100000 ≤ pl ∧ pl ≤ 100000)
    (HM : ∀ w1, Calls Tryz.prog 18 #[.agg #[.int .i64 0, .bool g, .string S, .int .i64 x]] w1 fun e w' => e = .returned (.bool true) ∧ Below w1.heap.size w1 w')
    (HX : ∀ w1, Pow w1 → Calls Tryz.prog 11 #[.agg #[.int .i64 0, .bool g, .string S, .int .i64 x], .int .i64 place, .int .i64 mode] w1 fun e w' => e = .returned (.tuple #[.agg #[.int .i64 0, .bool g, .string S, .int .i64 x], .int .i64 0]) ∧ Below w1.heap.size w1 w')
    (HY : ∀ w1, Pow w1 → Calls Tryz.prog 16 #[.agg #[.int .i64 0, .bool g, .string S, .int .i64 x], .agg #[.int .i64 0, .bool false, .string ⟨#[49]⟩, .int .i64 place], .int .i64 mode] w1 fun e w' => e = .returned (.tuple #[.agg #[.int .i64 0, .bool g, .string S, .int .i64 x], .int .i64 0]) ∧ Below w1.heap.size w1 w')
    (HL : ∀ w1, Calls Tryz.prog 20 #[.agg #[.int .i64 0, .bool g, .string S, .int .i64 x]] w1 fun e w' => e = .returned (.int .i64 pl) ∧ Below w1.heap.size w1 w')
    (HZ : ∀ n w1, n = pl - place → 1 ≤ n → n ≤ 1000 → Pow w1 → Calls Tryz.prog 14 #[.agg #[.int .i64 0, .bool g, .string S, .int .i64 x], .int .i64 n, .int .i64 mode] w1 fun e w' => e = .returned (.tuple #[.agg #[.int .i64 0, .bool g, .string S, .int .i64 x], .int .i64 0]) ∧ Below w1.heap.size w1 w') (hx : ¬ x < place) :
    Calls Tryz.prog 6 #[.agg #[.int .i64 0, .bool g, .string S, .int .i64 x], .int .i64 place, .int .i64 mode] w fun e w' => e = .returned (.bool true) ∧ Below w.heap.size w w' := by
  have D0 := Lib.hid (Bk.start w 23 #[.int .i64 0, .bool g, .string S, .int .i64 x])
  have b0 := alloc_below w (.cells #[.int .i64 0, .bool g, .string S, .int .i64 x] 23)
  have HA := Lib.hid (awake_calls _ (hp.below b0))
  have PW := Lib.hid hp
  have B0 := Lib.hid b0
  have HM' := Lib.hid HM
  have HX' := Lib.hid HX
  have HY' := Lib.hid HY
  have HL' := Lib.hid HL
  obtain ⟨n, hn⟩ : ∃ n, n = pl - place := ⟨_, rfl⟩
  have HZ' := Lib.hid (HZ n)
  have HN := Lib.hid hn
  have hn' : pl - place = n := hn.symm
  have dm0 := decide_eq_false m0
  have dm7 := decide_eq_false m7
  have dp0 := decide_eq_false p0
  have dp1 := decide_eq_false p1
  clear hp b0 HM HX HY HL HZ hn
  by_cases r1 : 1 ≤ n
  · have dr1 := decide_eq_true r1
    by_cases r2 : n ≤ 1000
    · have dr2 := decide_eq_true r2
      have i1 := Lib.hid r1
      have i2 := Lib.hid r2
      have dx := decide_eq_false hx
      go_enter Tryz.func6, Tryz.ntmps6
      go_wp2_with (first
        | (go_at_call 13; (with_reducible refine HA.out.mono ?_); rintro e w1 ⟨rfl, b1⟩; have d1 := D0.out.below b1; have k1 := four d1)
        | (go_at_call 18; (with_reducible refine (HM'.out w1).mono ?_); rintro e w2 ⟨rfl, b2⟩; have d2 := d1.below b2; have k2 := four d2)
        | (go_at_call 11; (with_reducible refine (HX'.out w2 (PW.out.below (on (on B0.out b1) b2))).mono ?_); rintro e w3 ⟨rfl, b3⟩))
      have V0 : TU w (w3.alloc (.cells #[.int .i64 0, .bool g, .string S, .int .i64 x] 23)) w3.heap.size #[.int .i64 0, .bool g, .string S, .int .i64 x] #[.int .i64 0, .bool g, .string S, .int .i64 x] := ⟨(d2.below b3).alloc _, Bk.start w3 23 #[.int .i64 0, .bool g, .string S, .int .i64 x], Nat.lt_of_lt_of_le D0.out.lt (Nat.le_trans b1.size (Nat.le_trans b2.size b3.size)), on (on (on (on B0.out b1) b2) b3) (alloc_below w3 _)⟩
      generalize w3.alloc (.cells #[.int .i64 0, .bool g, .string S, .int .i64 x] 23) = V at *
      generalize w3.heap.size = gx at *
      clear k1 k2 d1 d2 b1 b2 b3
      have z0 := V0.drew
      have za := (V0.alloc (.cells #[.int .i64 0, .bool false, .string ⟨#[]⟩, .int .i64 0] 23)).drew
      have hlt := V0.x.lt
      go_region_held3 (fun w' => w'.cell? ⟨w.heap.size, 0, none⟩ = some (.int .i64 0) ∧ w'.cell? ⟨w.heap.size, 1, none⟩ = some (.bool g) ∧ w'.cell? ⟨w.heap.size, 2, none⟩ = some (.string S) ∧ w'.cell? ⟨w.heap.size, 3, none⟩ = some (.int .i64 x))
        (first
          | (with_reducible exact z0.four)
          | (with_reducible exact za.four)
          | (with_reducible exact z1.four)
          | (with_reducible exact z1a.four)
          | (with_reducible exact z3.four)
          | (with_reducible exact z3a.four)
          | (with_reducible exact zE.four))
        (first
          | (go_at_call 19; first
            | ((with_reducible refine (num_calls _ _ V.drew).mono ?_); rintro e w4 ⟨rfl, b4⟩; have z1 := z0.below b4; have z1a := z1.alloc (.cells #[.int .i64 0, .bool false, .string ⟨#[]⟩, .int .i64 0] 23))
            | ((with_reducible refine (num_calls _ _ (V.alloc (.cells #[.int .i64 0, .bool false, .string ⟨#[]⟩, .int .i64 0] 23)).drew).mono ?_); rintro e w4 ⟨rfl, b4⟩; have z1 := za.below b4; have B1 := (Bk.start V 23 #[.int .i64 0, .bool false, .string ⟨#[]⟩, .int .i64 0]).drew.below b4))
          | (go_at_call 16; first
            | (have tag := B1; (with_reducible refine (HY'.out w4 (PW.out.below z1.bl)).mono ?_); rintro e w5 ⟨rfl, b5⟩; have z3 := z1.below b5; have B3 := B1.below b5; have hq3 : gx < V.heap.size := hlt; have BE := B3.set4 (.int .i64 0) (.bool g) (.string S) (.int .i64 x) rfl; have zE := z3.far4 hq3 (.int .i64 0) (.bool g) (.string S) (.int .i64 x); have q3 := eight' B3)
            | ((with_reducible refine (HY'.out w4 (PW.out.below z1.bl)).mono ?_); rintro e w5 ⟨rfl, b5⟩; have z3 := z1.below b5; have z3a := z3.alloc (.cells #[.int .i64 0, .bool false, .string ⟨#[]⟩, .int .i64 0] 23); have zE := z3.alloc (.cells #[.int .i64 0, .bool g, .string S, .int .i64 x] 23); have BE := Bk.start w5 23 #[.int .i64 0, .bool g, .string S, .int .i64 x])
            | ((with_reducible refine (HY'.out _ (PW.out.below z1a.bl)).mono ?_); rintro e w5 ⟨rfl, b5⟩; have z3 := z1a.below b5; have B3 := (Bk.start w4 23 #[.int .i64 0, .bool false, .string ⟨#[]⟩, .int .i64 0]).below b5; have hq3 : gx < w4.heap.size := z1.x.lt; have BE := B3.set4 (.int .i64 0) (.bool g) (.string S) (.int .i64 x) rfl; have zE := z3.far4 hq3 (.int .i64 0) (.bool g) (.string S) (.int .i64 x); have q3 := eight' B3)))
      all_goals
        have kE := zE.keep
        have yE := four BE
        clear z0 za
        try clear z1 z1a
        try clear z3 z3a
        try clear B1 
        try clear B3 q3
        go_wp2_with (first
          | (go_at_call 20; (with_reducible refine (HL'.out _).mono ?_); rintro e w6 ⟨rfl, b6⟩; have z6 := zE.below b6; have k6 := z6.keep)
          | (go_at_call 14; (with_reducible refine (HZ'.out w6 HN.out i1.out i2.out (PW.out.below z6.bl)).mono ?_); rintro e w7 ⟨rfl, b7⟩; have z7 := (z6.below b7).alloc (.cells #[.int .i64 0, .bool g, .string S, .int .i64 x] 23); have k7 := z7.keep; have y7 := four (Bk.start w7 23 #[.int .i64 0, .bool g, .string S, .int .i64 x])))
        go_ret
        exact ⟨rfl, z7.bl⟩
    · have dr2 := decide_eq_false r2
      have dx := decide_eq_false hx
      go_enter Tryz.func6, Tryz.ntmps6
      go_wp2_with (first
        | (go_at_call 13; (with_reducible refine HA.out.mono ?_); rintro e w1 ⟨rfl, b1⟩; have d1 := D0.out.below b1; have k1 := four d1)
        | (go_at_call 18; (with_reducible refine (HM'.out w1).mono ?_); rintro e w2 ⟨rfl, b2⟩; have d2 := d1.below b2; have k2 := four d2)
        | (go_at_call 11; (with_reducible refine (HX'.out w2 (PW.out.below (on (on B0.out b1) b2))).mono ?_); rintro e w3 ⟨rfl, b3⟩))
      have V0 : TU w (w3.alloc (.cells #[.int .i64 0, .bool g, .string S, .int .i64 x] 23)) w3.heap.size #[.int .i64 0, .bool g, .string S, .int .i64 x] #[.int .i64 0, .bool g, .string S, .int .i64 x] := ⟨(d2.below b3).alloc _, Bk.start w3 23 #[.int .i64 0, .bool g, .string S, .int .i64 x], Nat.lt_of_lt_of_le D0.out.lt (Nat.le_trans b1.size (Nat.le_trans b2.size b3.size)), on (on (on (on B0.out b1) b2) b3) (alloc_below w3 _)⟩
      generalize w3.alloc (.cells #[.int .i64 0, .bool g, .string S, .int .i64 x] 23) = V at *
      generalize w3.heap.size = gx at *
      clear k1 k2 d1 d2 b1 b2 b3
      have z0 := V0.drew
      have za := (V0.alloc (.cells #[.int .i64 0, .bool false, .string ⟨#[]⟩, .int .i64 0] 23)).drew
      have hlt := V0.x.lt
      go_region_held3 (fun w' => w'.cell? ⟨w.heap.size, 0, none⟩ = some (.int .i64 0) ∧ w'.cell? ⟨w.heap.size, 1, none⟩ = some (.bool g) ∧ w'.cell? ⟨w.heap.size, 2, none⟩ = some (.string S) ∧ w'.cell? ⟨w.heap.size, 3, none⟩ = some (.int .i64 x))
        (first
          | (with_reducible exact z0.four)
          | (with_reducible exact za.four)
          | (with_reducible exact z1.four)
          | (with_reducible exact z1a.four)
          | (with_reducible exact z3.four)
          | (with_reducible exact z3a.four)
          | (with_reducible exact zE.four))
        (first
          | (go_at_call 19; first
            | ((with_reducible refine (num_calls _ _ V.drew).mono ?_); rintro e w4 ⟨rfl, b4⟩; have z1 := z0.below b4; have z1a := z1.alloc (.cells #[.int .i64 0, .bool false, .string ⟨#[]⟩, .int .i64 0] 23))
            | ((with_reducible refine (num_calls _ _ (V.alloc (.cells #[.int .i64 0, .bool false, .string ⟨#[]⟩, .int .i64 0] 23)).drew).mono ?_); rintro e w4 ⟨rfl, b4⟩; have z1 := za.below b4; have B1 := (Bk.start V 23 #[.int .i64 0, .bool false, .string ⟨#[]⟩, .int .i64 0]).drew.below b4))
          | (go_at_call 16; first
            | (have tag := B1; (with_reducible refine (HY'.out w4 (PW.out.below z1.bl)).mono ?_); rintro e w5 ⟨rfl, b5⟩; have z3 := z1.below b5; have B3 := B1.below b5; have hq3 : gx < V.heap.size := hlt; have BE := B3.set4 (.int .i64 0) (.bool g) (.string S) (.int .i64 x) rfl; have zE := z3.far4 hq3 (.int .i64 0) (.bool g) (.string S) (.int .i64 x); have q3 := eight' B3)
            | ((with_reducible refine (HY'.out w4 (PW.out.below z1.bl)).mono ?_); rintro e w5 ⟨rfl, b5⟩; have z3 := z1.below b5; have z3a := z3.alloc (.cells #[.int .i64 0, .bool false, .string ⟨#[]⟩, .int .i64 0] 23); have zE := z3.alloc (.cells #[.int .i64 0, .bool g, .string S, .int .i64 x] 23); have BE := Bk.start w5 23 #[.int .i64 0, .bool g, .string S, .int .i64 x])
            | ((with_reducible refine (HY'.out _ (PW.out.below z1a.bl)).mono ?_); rintro e w5 ⟨rfl, b5⟩; have z3 := z1a.below b5; have B3 := (Bk.start w4 23 #[.int .i64 0, .bool false, .string ⟨#[]⟩, .int .i64 0]).below b5; have hq3 : gx < w4.heap.size := z1.x.lt; have BE := B3.set4 (.int .i64 0) (.bool g) (.string S) (.int .i64 x) rfl; have zE := z3.far4 hq3 (.int .i64 0) (.bool g) (.string S) (.int .i64 x); have q3 := eight' B3)))
      all_goals
        have kE := zE.keep
        have yE := four BE
        clear z0 za
        try clear z1 z1a
        try clear z3 z3a
        try clear B1 
        try clear B3 q3
        go_wp2_with (first
          | (go_at_call 20; (with_reducible refine (HL'.out _).mono ?_); rintro e w6 ⟨rfl, b6⟩; have z6 := zE.below b6; have k6 := z6.keep)
          | (go_at_call 14; (with_reducible refine (HZ'.out w6 HN.out i1.out i2.out (PW.out.below z6.bl)).mono ?_); rintro e w7 ⟨rfl, b7⟩; have z7 := (z6.below b7).alloc (.cells #[.int .i64 0, .bool g, .string S, .int .i64 x] 23); have k7 := z7.keep; have y7 := four (Bk.start w7 23 #[.int .i64 0, .bool g, .string S, .int .i64 x])))
        go_ret
        exact ⟨rfl, z6.bl⟩
  · have dr1 := decide_eq_false r1
    have dx := decide_eq_false hx
    go_enter Tryz.func6, Tryz.ntmps6
    go_wp2_with (first
      | (go_at_call 13; (with_reducible refine HA.out.mono ?_); rintro e w1 ⟨rfl, b1⟩; have d1 := D0.out.below b1; have k1 := four d1)
      | (go_at_call 18; (with_reducible refine (HM'.out w1).mono ?_); rintro e w2 ⟨rfl, b2⟩; have d2 := d1.below b2; have k2 := four d2)
      | (go_at_call 11; (with_reducible refine (HX'.out w2 (PW.out.below (on (on B0.out b1) b2))).mono ?_); rintro e w3 ⟨rfl, b3⟩))
    have V0 : TU w (w3.alloc (.cells #[.int .i64 0, .bool g, .string S, .int .i64 x] 23)) w3.heap.size #[.int .i64 0, .bool g, .string S, .int .i64 x] #[.int .i64 0, .bool g, .string S, .int .i64 x] := ⟨(d2.below b3).alloc _, Bk.start w3 23 #[.int .i64 0, .bool g, .string S, .int .i64 x], Nat.lt_of_lt_of_le D0.out.lt (Nat.le_trans b1.size (Nat.le_trans b2.size b3.size)), on (on (on (on B0.out b1) b2) b3) (alloc_below w3 _)⟩
    generalize w3.alloc (.cells #[.int .i64 0, .bool g, .string S, .int .i64 x] 23) = V at *
    generalize w3.heap.size = gx at *
    clear k1 k2 d1 d2 b1 b2 b3
    have z0 := V0.drew
    have za := (V0.alloc (.cells #[.int .i64 0, .bool false, .string ⟨#[]⟩, .int .i64 0] 23)).drew
    have hlt := V0.x.lt
    go_region_held3 (fun w' => w'.cell? ⟨w.heap.size, 0, none⟩ = some (.int .i64 0) ∧ w'.cell? ⟨w.heap.size, 1, none⟩ = some (.bool g) ∧ w'.cell? ⟨w.heap.size, 2, none⟩ = some (.string S) ∧ w'.cell? ⟨w.heap.size, 3, none⟩ = some (.int .i64 x))
      (first
        | (with_reducible exact z0.four)
        | (with_reducible exact za.four)
        | (with_reducible exact z1.four)
        | (with_reducible exact z1a.four)
        | (with_reducible exact z3.four)
        | (with_reducible exact z3a.four)
        | (with_reducible exact zE.four))
      (first
        | (go_at_call 19; first
          | ((with_reducible refine (num_calls _ _ V.drew).mono ?_); rintro e w4 ⟨rfl, b4⟩; have z1 := z0.below b4; have z1a := z1.alloc (.cells #[.int .i64 0, .bool false, .string ⟨#[]⟩, .int .i64 0] 23))
          | ((with_reducible refine (num_calls _ _ (V.alloc (.cells #[.int .i64 0, .bool false, .string ⟨#[]⟩, .int .i64 0] 23)).drew).mono ?_); rintro e w4 ⟨rfl, b4⟩; have z1 := za.below b4; have B1 := (Bk.start V 23 #[.int .i64 0, .bool false, .string ⟨#[]⟩, .int .i64 0]).drew.below b4))
        | (go_at_call 16; first
          | (have tag := B1; (with_reducible refine (HY'.out w4 (PW.out.below z1.bl)).mono ?_); rintro e w5 ⟨rfl, b5⟩; have z3 := z1.below b5; have B3 := B1.below b5; have hq3 : gx < V.heap.size := hlt; have BE := B3.set4 (.int .i64 0) (.bool g) (.string S) (.int .i64 x) rfl; have zE := z3.far4 hq3 (.int .i64 0) (.bool g) (.string S) (.int .i64 x); have q3 := eight' B3)
          | ((with_reducible refine (HY'.out w4 (PW.out.below z1.bl)).mono ?_); rintro e w5 ⟨rfl, b5⟩; have z3 := z1.below b5; have z3a := z3.alloc (.cells #[.int .i64 0, .bool false, .string ⟨#[]⟩, .int .i64 0] 23); have zE := z3.alloc (.cells #[.int .i64 0, .bool g, .string S, .int .i64 x] 23); have BE := Bk.start w5 23 #[.int .i64 0, .bool g, .string S, .int .i64 x])
          | ((with_reducible refine (HY'.out _ (PW.out.below z1a.bl)).mono ?_); rintro e w5 ⟨rfl, b5⟩; have z3 := z1a.below b5; have B3 := (Bk.start w4 23 #[.int .i64 0, .bool false, .string ⟨#[]⟩, .int .i64 0]).below b5; have hq3 : gx < w4.heap.size := z1.x.lt; have BE := B3.set4 (.int .i64 0) (.bool g) (.string S) (.int .i64 x) rfl; have zE := z3.far4 hq3 (.int .i64 0) (.bool g) (.string S) (.int .i64 x); have q3 := eight' B3)))
    all_goals
      have kE := zE.keep
      have yE := four BE
      clear z0 za
      try clear z1 z1a
      try clear z3 z3a
      try clear B1 
      try clear B3 q3
      go_wp2_with (first
        | (go_at_call 20; (with_reducible refine (HL'.out _).mono ?_); rintro e w6 ⟨rfl, b6⟩; have z6 := zE.below b6; have k6 := z6.keep)
        | (go_at_call 14; (with_reducible refine (HZ'.out w6 HN.out i1.out i2.out (PW.out.below z6.bl)).mono ?_); rintro e w7 ⟨rfl, b7⟩; have z7 := (z6.below b7).alloc (.cells #[.int .i64 0, .bool g, .string S, .int .i64 x] 23); have k7 := z7.keep; have y7 := four (Bk.start w7 23 #[.int .i64 0, .bool g, .string S, .int .i64 x])))
      go_ret
      exact ⟨rfl, z6.bl⟩
end Go.Proofs.YtllpggdmkdgggaaGreatDoor.Dc

/- Layer 6's laws: RoundWays, joined. -/
set_option linter.unusedSimpArgs false
set_option linter.unusedVariables false
namespace Go.Proofs.YtllpggdmkdgggaaGreatDoor.Dc
open Go.RowKit Go.Proofs.YtllpggdmkdgggaaGreatDoor.Dig Go.Proofs.YtllpggdmkdgggaaGreatDoor.W Go.Proofs.YtllpggdmkdgggaaGreatDoor.Nat Go.Proofs.YtllpggdmkdgggaaGreatDoor.Wh Go.Proofs.YtllpggdmkdgggaaGreatDoor.Td Go.Proofs.YtllpggdmkdgggaaGreatDoor.Bu Go.Proofs.YtllpggdmkdgggaaGreatDoor.Tx Go.Proofs.YtllpggdmkdgggaaGreatDoor.Sp Go.Proofs.YtllpggdmkdgggaaGreatDoor.Rd

theorem ask_ok {m : Bool} {mode : Int} (h : m = true) (h0 : 0 ≤ mode) (h1 : mode < 8) : askE m mode = 0 := by unfold askE; rw [h, if_neg (by decide), if_neg (by omega)]
theorem atV_ok {c : Int} {g : Bool} {l : List UInt8} {x place mode : Int} (hm : mayB c g l x = true) (h0 : 0 ≤ mode) (h1 : mode < 8) (hp : -4000 ≤ place ∧ place ≤ 4000) : atV c g l x place mode = fin mode c g l x place := by
  unfold atV; rw [ask_ok hm h0 h1, if_neg (by decide), if_neg (by omega)]
theorem dgV_ok {c : Int} {g : Bool} {l : List UInt8} {x n mode : Int} (hm : mayB c g l x = true) (h0 : 0 ≤ mode) (h1 : mode < 8) (hn : 1 ≤ n) (hn2 : n ≤ 1000) : dgV c g l x n mode = fin mode c g l x ((l.length : Int) + x - n) := by
  unfold dgV; rw [ask_ok hm h0 h1, if_neg (by decide), if_neg (by omega)]
theorem stV_ok {c : Int} {g : Bool} {l : List UInt8} {x place mode : Int} (hm : mayB c g l x = true) (h0 : 0 ≤ mode) (h1 : mode < 8) (hp : -1990 ≤ place ∧ place ≤ 1990) : stV c g l x 0 false [49] place mode = fin mode c g l x place := by
  have hF := formed_1
  have hms : mayB 0 false [49] place = true := by
    rw [may_form hF, decide_eq_true]
    refine ⟨by decide, ?_, ?_⟩
    · show -2000 ≤ (1 : Int) + place; omega
    · show (1 : Int) + place ≤ 2000; omega
  unfold stV fin
  rw [hms, if_neg (by decide), ask_ok hm h0 h1, if_neg (by decide), if_neg (by decide)]
  have e1 : nv 0 [49] = 1 := by decide
  rw [e1, Nat.mul_one]
  rfl
theorem fin_nil (mode c : Int) (g : Bool) (x place : Int) : fin mode c g [] x place = (dec c g [] x, 0) := by unfold fin; rw [if_pos rfl]
theorem fin_some {mode c : Int} {g : Bool} {l : List UInt8} {x place : Int} (h : l ≠ []) : fin mode c g l x place = (oc g (pw mode.toNat g l x place), oe (pw mode.toNat g l x place)) := by unfold fin; rw [if_neg h]
theorem roundWays_calls (c : Int) (g : Bool) (l : List UInt8) (x place mode : Int) (w : World) (hp : Pow w) (hl : l.length ≤ 9223372036854775807) :
    Calls Tryz.prog 6 #[.agg (dec c g l x), .int .i64 place, .int .i64 mode] w fun e w' => e = .returned (.bool true) ∧ Below w.heap.size w w' := by
  have HM := fun w1 => rmay_calls c g l x w1
  by_cases ho : mayB c g l x = false ∨ mode < 0 ∨ 7 < mode ∨ place < -1990 ∨ 1990 < place
  · exact ways_out c g ⟨l.toArray⟩ x place mode (mayB c g l x) w hp HM ho
  · have hm : mayB c g l x = true := by
      cases h1 : mayB c g l x
      · exact absurd (.inl h1) ho
      · rfl
    have m0 : ¬ mode < 0 := fun e => ho (.inr (.inl e))
    have m7 : ¬ 7 < mode := fun e => ho (.inr (.inr (.inl e)))
    have p0 : ¬ place < -1990 := fun e => ho (.inr (.inr (.inr (.inl e))))
    have p1 : ¬ 1990 < place := fun e => ho (.inr (.inr (.inr (.inr e))))
    have HX := fun w1 hp => at_calls c g l x place mode w1 hp hl
    have HY := fun w1 hp => step_calls c g l x 0 false [49] place mode w1 hp hl (by decide)
    have HZ := fun n w1 hp => dig_calls c g l x n mode w1 hp hl
    unfold Res at HX HY HZ
    rw [atV_ok hm (by omega) (by omega) (by omega)] at HX
    rw [stV_ok hm (by omega) (by omega) (by omega)] at HY
    rw [hm] at HM
    by_cases h0 : l = []
    · subst h0
      rw [fin_nil] at HX HY
      obtain ⟨e1, e2⟩ := empS (rfl : ([] : List UInt8) = [])
      refine ways_nil c g ⟨([] : List UInt8).toArray⟩ x place mode w hp m0 m7 p0 p1 e1 e2 HM HX HY (fun w1 => place_nil c g _ x w1 e1 e2) ?_
      intro n w1 _ n1 n2 hp1
      have e := HZ n w1 hp1
      rw [dgV_ok hm (by omega) (by omega) n1 n2, fin_nil] at e
      exact e
    · obtain ⟨rfl, hF, hf⟩ := may_str hm h0
      rw [fin_some h0] at HX HY
      have hpos := hF.len
      rw [← size_of l] at hpos
      obtain ⟨e1, e2⟩ := emp hpos
      obtain ⟨f1, f2, f3⟩ := hf
      have HL := fun w1 => place_calls g l x w1 hF ⟨f1, f2, f3⟩
      have HZ' : ∀ n w1, n = (l.length : Int) + x - place → 1 ≤ n → n ≤ 1000 → Pow w1 → Calls Tryz.prog 14 #[.agg (dec 0 g l x), .int .i64 n, .int .i64 mode] w1 fun e w' => e = .returned (.tuple #[.agg (oc g (pw mode.toNat g l x place)), .int .i64 (oe (pw mode.toNat g l x place))]) ∧ Below w1.heap.size w1 w' := by
        intro n w1 hn n1 n2 hp1
        have e := HZ n w1 hp1
        rw [dgV_ok hm (by omega) (by omega) n1 n2, fin_some h0, show (l.length : Int) + x - n = place by omega] at e
        exact e
      by_cases hx : x < place
      · obtain ⟨g', L', x', e4⟩ := oc_four g (pw mode.toNat g l x place)
        rw [e4] at HX HY HZ'
        exact ways_far g ⟨l.toArray⟩ x place mode ((l.length : Int) + x) 0 g' L' x' _ w hp m0 m7 p0 p1 e1 e2 (by omega) HM HX HY HL HZ' hx
      · rw [pw_low hF ⟨f1, f2, f3⟩ (by omega)] at HX HY HZ'
        exact ways_near g ⟨l.toArray⟩ x place mode ((l.length : Int) + x) w hp m0 m7 p0 p1 e1 e2 (by omega) HM HX HY HL HZ' hx
end Go.Proofs.YtllpggdmkdgggaaGreatDoor.Dc
