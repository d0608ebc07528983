/- Texts of one layer, joined: Fp. -/
import Derived.Test.YtfddokfnplehkaaGreatDoorFC
import Derived.Test.YtfddokfnplehkaaGreatDoorGJ
set_option linter.unusedVariables false
set_option linter.unusedSimpArgs false
set_option linter.unusedSectionVars false
/- Layer 4's laws: NearestRises. -/
set_option linter.unusedSimpArgs false
set_option linter.unusedVariables false
namespace Go.Proofs.YtfddokfnplehkaaGreatDoor.Nr
open Go.RowKit Go.Proofs.YtfddokfnplehkaaGreatDoor.Dig Go.Proofs.YtfddokfnplehkaaGreatDoor.W Go.Proofs.YtfddokfnplehkaaGreatDoor.Nat Go.Proofs.YtfddokfnplehkaaGreatDoor.Wh Go.Proofs.YtfddokfnplehkaaGreatDoor.Td Go.Proofs.YtfddokfnplehkaaGreatDoor.Bu Go.Proofs.YtfddokfnplehkaaGreatDoor.Tx Go.Proofs.YtfddokfnplehkaaGreatDoor.Sp
open Go.Proofs.YtfddokfnplehkaaGreatDoor.Rf (V V_two V_pos)
open Go.Proofs.YtfddokfnplehkaaGreatDoor.Rd (stand Formed fits mayB)
open Go.Proofs.YtfddokfnplehkaaGreatDoor.Dc (on dec str four bk_two)

/-- the boxes of two Decs -/
structure DD (w V1 : World) (cs ds : Array Value) : Prop where
  a : Bk V1 w.heap.size 23 cs
  b : Bk V1 (w.heap.size + 1) 23 ds
  bl : Below w.heap.size w V1
section
variable {w V1 V' : World} {cs ds : Array Value} {a0 a1 a2 a3 b0 b1 b2 b3 : Value}
theorem DD.start (w : World) (cs ds : Array Value) : DD w ((w.alloc (.cells cs 23)).alloc (.cells ds 23)) cs ds := by
  obtain ⟨h1, h2, h3⟩ := bk_two w cs ds 23 23
  exact ⟨h1, h2, h3⟩
theorem DD.below (h : DD w V1 cs ds) (hb : Below V1.heap.size V1 V') : DD w V' cs ds := ⟨h.a.below hb, h.b.below hb, on h.bl hb⟩
theorem DD.drew (h : DD w V1 cs ds) : DD w V1.drew cs ds := h.below (Below.refl _ _).drew
theorem DD.keep (h : DD w V1 #[a0, a1, a2, a3] #[b0, b1, b2, b3]) : V1.cell? ⟨w.heap.size, 0, none⟩ = some a0 ∧ V1.cell? ⟨w.heap.size, 1, none⟩ = some a1 ∧ V1.cell? ⟨w.heap.size, 2, none⟩ = some a2 ∧ V1.cell? ⟨w.heap.size, 3, none⟩ = some a3 ∧
  V1.cell? ⟨w.heap.size + 1, 0, none⟩ = some b0 ∧ V1.cell? ⟨w.heap.size + 1, 1, none⟩ = some b1 ∧ V1.cell? ⟨w.heap.size + 1, 2, none⟩ = some b2 ∧ V1.cell? ⟨w.heap.size + 1, 3, none⟩ = some b3 := ⟨h.a.at_ 0 rfl, h.a.at_ 1 rfl, h.a.at_ 2 rfl, h.a.at_ 3 rfl, h.b.at_ 0 rfl, h.b.at_ 1 rfl, h.b.at_ 2 rfl, h.b.at_ 3 rfl⟩
end
theorem rmay_q (p : Pt) (w : World) : Calls Tryz.prog 13 #[.agg (pV p)] w fun e w' => e = .returned (.bool (pM p)) ∧ Below w.heap.size w w' := Dc.rmay_calls p.1 p.2.1 p.2.2.1 p.2.2.2 w
set_option maxHeartbeats 16000000 in
set_option maxRecDepth 100000 in
theorem rises_off (c : Int) (g : Bool) (S : ByteArray) (x c' : Int) (g' : Bool) (S' : ByteArray) (x' : Int) (t t' : Int) (ma mb : Bool) (w : World) (hp : Pow w)
    (HT : ∀ w1, Calls Tryz.prog 11 #[.agg #[.int .i64 c, .bool g, .string S, .int .i64 x]] w1 fun e w' => e = .returned (.tuple #[.int .u64 t, .int .i64 (if ma then 0 else 40)]) ∧ Below w1.heap.size w1 w')
    (HU : ∀ w1, Calls Tryz.prog 11 #[.agg #[.int .i64 c', .bool g', .string S', .int .i64 x']] w1 fun e w' => e = .returned (.tuple #[.int .u64 t', .int .i64 (if mb then 0 else 40)]) ∧ Below w1.heap.size w1 w')
    (HM : ∀ w1, Calls Tryz.prog 13 #[.agg #[.int .i64 c, .bool g, .string S, .int .i64 x]] w1 fun e w' => e = .returned (.bool ma) ∧ Below w1.heap.size w1 w')
    (HN : ∀ w1, Calls Tryz.prog 13 #[.agg #[.int .i64 c', .bool g', .string S', .int .i64 x']] w1 fun e w' => e = .returned (.bool mb) ∧ Below w1.heap.size w1 w')
    (hoff : ma = true → mb = true → c = 0 → c' = 0 → g = false → g' = true) :
    Calls Tryz.prog 6 #[.agg #[.int .i64 c, .bool g, .string S, .int .i64 x], .agg #[.int .i64 c', .bool g', .string S', .int .i64 x']] w fun e w' => e = .returned (.bool true) ∧ Below w.heap.size w w' := by
  have HB := Lib.hid (DD.start w #[.int .i64 c, .bool g, .string S, .int .i64 x] #[.int .i64 c', .bool g', .string S', .int .i64 x'])
  have HA := Lib.hid (fun w1 (b : Below w.heap.size w w1) => awake_calls w1 (hp.below b))
  clear hp
  have key : (∃ u : Unit, ma = false ∨ mb = false) ∨ (ma = true ∧ mb = true ∧ (c == 0) = false ∧ ¬ c = 0) ∨ (ma = true ∧ mb = true ∧ c = 0 ∧ (c' == 0) = false ∧ ¬ c' = 0) ∨ (ma = true ∧ mb = true ∧ c = 0 ∧ c' = 0 ∧ g = true) ∨ (ma = true ∧ mb = true ∧ c = 0 ∧ c' = 0 ∧ g = false ∧ g' = true) := by
    cases ma
    · exact .inl ⟨(), .inl rfl⟩
    cases mb
    · exact .inl ⟨(), .inr rfl⟩
    by_cases h1 : c = 0
    · by_cases h2 : c' = 0
      · cases g
        · exact .inr (.inr (.inr (.inr ⟨rfl, rfl, h1, h2, rfl, hoff rfl rfl h1 h2 rfl⟩)))
        · exact .inr (.inr (.inr (.inl ⟨rfl, rfl, h1, h2, rfl⟩)))
      · exact .inr (.inr (.inl ⟨rfl, rfl, h1, Dc.eqB h2, h2⟩))
    · exact .inr (.inl ⟨rfl, rfl, Dc.eqB h1, h1⟩)
  clear hoff
  have fin : True := trivial
  rcases key with ⟨_, k⟩ | ⟨rfl, rfl, k, kk⟩ | ⟨rfl, rfl, rfl, k, kk⟩ | ⟨rfl, rfl, rfl, rfl, rfl⟩ | ⟨rfl, rfl, rfl, rfl, rfl, rfl⟩
  · cases ma <;> cases mb
    all_goals first | (exfalso; rcases k with k | k <;> cases k; done) | skip
    all_goals
      clear k
      simp only [Bool.false_eq_true, if_true, if_false] at HT HU
      replace HT := Lib.hid HT
      replace HU := Lib.hid HU
      replace HM := Lib.hid HM
      replace HN := Lib.hid HN
      go_enter Tryz.func6, Tryz.ntmps6
      go_wp2_with (first
        | (go_at_call 11; first
          | (have tag := y1; (with_reducible refine (HU.out _).mono ?_); rintro e w2 ⟨rfl, b2⟩; have y2 := y1.below b2; have k2 := y2.keep)
          | ((with_reducible refine (HT.out _).mono ?_); rintro e w1 ⟨rfl, b1⟩; have y1 := HB.out.below b1; have k1 := y1.keep))
        | (go_at_call 12; (with_reducible refine (HA.out _ y2.bl).mono ?_); rintro e w3 ⟨rfl, b3⟩; have y3 := y2.below b3; have k3 := y3.keep)
        | (go_at_call 13; first
          | (have tag := y4; (with_reducible refine (HN.out _).mono ?_); rintro e w5 ⟨rfl, b5⟩; have y5 := y4.below b5; have k5 := y5.keep)
          | ((with_reducible refine (HM.out _).mono ?_); rintro e w4 ⟨rfl, b4⟩; have y4 := y3.below b4; have k4 := y4.keep)))
      go_ret
      exact ⟨rfl, y5.bl⟩
  all_goals
    simp only [if_true] at HT HU
    replace HT := Lib.hid HT
    replace HU := Lib.hid HU
    replace HM := Lib.hid HM
    replace HN := Lib.hid HN
    go_enter Tryz.func6, Tryz.ntmps6
    go_wp2_with (first
      | (go_at_call 11; first
        | (have tag := y1; (with_reducible refine (HU.out _).mono ?_); rintro e w2 ⟨rfl, b2⟩; have y2 := y1.below b2; have k2 := y2.keep)
        | ((with_reducible refine (HT.out _).mono ?_); rintro e w1 ⟨rfl, b1⟩; have y1 := HB.out.below b1; have k1 := y1.keep))
      | (go_at_call 12; (with_reducible refine (HA.out _ y2.bl).mono ?_); rintro e w3 ⟨rfl, b3⟩; have y3 := y2.below b3; have k3 := y3.keep)
      | (go_at_call 13; first
        | (have tag := y4; (with_reducible refine (HN.out _).mono ?_); rintro e w5 ⟨rfl, b5⟩; have y5 := y4.below b5; have k5 := y5.keep)
        | ((with_reducible refine (HM.out _).mono ?_); rintro e w4 ⟨rfl, b4⟩; have y4 := y3.below b4; have k4 := y4.keep)))
    go_ret
    exact ⟨rfl, y5.bl⟩
set_option maxHeartbeats 16000000 in
set_option maxRecDepth 100000 in
theorem rises_on (S : ByteArray) (x : Int) (S' : ByteArray) (x' u : Int) (t t' k k' L L' : Nat) (st : Int) (w : World) (hp : Pow w)
    (hu : min x x' = u) (hk : x - u = (k : Int)) (hk' : x' - u = (k' : Int)) (kb : k ≤ 10000) (kb' : k' ≤ 10000)
    (HT : ∀ w1, Calls Tryz.prog 11 #[.agg #[.int .i64 0, .bool false, .string S, .int .i64 x]] w1 fun e w' => e = .returned (.tuple #[.int .u64 (t : Nat), .int .i64 0]) ∧ Below w1.heap.size w1 w')
    (HU : ∀ w1, Calls Tryz.prog 11 #[.agg #[.int .i64 0, .bool false, .string S', .int .i64 x']] w1 fun e w' => e = .returned (.tuple #[.int .u64 (t' : Nat), .int .i64 0]) ∧ Below w1.heap.size w1 w')
    (HM : ∀ w1, Calls Tryz.prog 13 #[.agg #[.int .i64 0, .bool false, .string S, .int .i64 x]] w1 fun e w' => e = .returned (.bool true) ∧ Below w1.heap.size w1 w')
    (HN : ∀ w1, Calls Tryz.prog 13 #[.agg #[.int .i64 0, .bool false, .string S', .int .i64 x']] w1 fun e w' => e = .returned (.bool true) ∧ Below w1.heap.size w1 w')
    (HO : ∀ w1, Calls Tryz.prog 24 #[.string S] w1 (Gives w1 .u32 (digs V L)))
    (HO' : ∀ w1, Calls Tryz.prog 24 #[.string S'] w1 (Gives w1 .u32 (digs V L')))
    (bL : (digs V L).length ≤ 8192) (bL' : (digs V L').length ≤ 8192)
    (hst : stand (L * 10 ^ k) (L' * 10 ^ k') = st) (hs : (st = -1 ∧ t ≤ t') ∨ (st = 0 ∧ t = t') ∨ (st = 1 ∧ t' ≤ t)) :
    Calls Tryz.prog 6 #[.agg #[.int .i64 0, .bool false, .string S, .int .i64 x], .agg #[.int .i64 0, .bool false, .string S', .int .i64 x']] w fun e w' => e = .returned (.bool true) ∧ Below w.heap.size w w' := by
  have HB := Lib.hid (DD.start w #[.int .i64 0, .bool false, .string S, .int .i64 x] #[.int .i64 0, .bool false, .string S', .int .i64 x'])
  have HA := Lib.hid (fun w1 (b : Below w.heap.size w w1) => awake_calls w1 (hp.below b))
  have e1 : IntKind.i64.wrap (x - u) = (k : Int) := by rw [IntWalk.i64_in _ (by omega)]; exact hk
  have e2 : IntKind.i64.wrap (x' - u) = (k' : Int) := by rw [IntWalk.i64_in _ (by omega)]; exact hk'
  have HP := Lib.hid (fun w1 => Sh.rpow_f 10 10 k (IntKind.i64.wrap (x - u)) w1 rfl (by omega) (by omega) e1 (by omega))
  have HP' := Lib.hid (fun w1 => Sh.rpow_f 10 10 k' (IntKind.i64.wrap (x' - u)) w1 rfl (by omega) (by omega) e2 (by omega))
  have bk : ∀ j, j ≤ 10000 → (digs V (10 ^ j)).length ≤ 65536 := fun j hj => by have := (ten_bt (k := j) (j := 4000) (by omega)).len16; omega
  have HMu := Lib.hid (fun (A A' : Option Addr) (n c n' c' : Nat) (w1 : World) (h : SI w1 .u32 A n c (digs V L)) (h' : SI w1 .u32 A' n' c' (digs V (10 ^ k))) => Sh.rmul_e A A' n c n' c' L (10 ^ k) w1 h h' (by omega) (bk k kb))
  have HMu' := Lib.hid (fun (A A' : Option Addr) (n c n' c' : Nat) (w1 : World) (h : SI w1 .u32 A n c (digs V L')) (h' : SI w1 .u32 A' n' c' (digs V (10 ^ k'))) => Sh.rmul_e A A' n c n' c' L' (10 ^ k') w1 h h' (by omega) (bk k' kb'))
  have HC := Lib.hid (fun (A A' : Option Addr) (n c n' c' : Nat) (w1 : World) (h : SI w1 .u32 A n c (digs V (L * 10 ^ k))) (h' : SI w1 .u32 A' n' c' (digs V (L' * 10 ^ k'))) => r_cmp A A' n c n' c' (L * 10 ^ k) (L' * 10 ^ k') w1 h h')
  rw [hst] at HC
  generalize L * 10 ^ k = N at *
  generalize L' * 10 ^ k' = N' at *
  generalize 10 ^ k = P at *
  generalize 10 ^ k' = P' at *
  clear bk bL bL' hst hp e1 e2 hk hk' kb kb'
  replace HT := Lib.hid HT
  replace HU := Lib.hid HU
  replace HM := Lib.hid HM
  replace HN := Lib.hid HN
  replace HO := Lib.hid HO
  replace HO' := Lib.hid HO'
  have HS : (st = -1 ∧ decide ((t : Int) ≤ (t' : Int)) = true ∧ t ≤ t') ∨ (st = 0 ∧ t = t') ∨ (st = 1 ∧ decide ((t' : Int) ≤ (t : Int)) = true ∧ t' ≤ t) := by
    rcases hs with ⟨h, k⟩ | ⟨h, k⟩ | ⟨h, k⟩
    · exact .inl ⟨h, decide_eq_true (by omega), k⟩
    · exact .inr (.inl ⟨h, k⟩)
    · exact .inr (.inr ⟨h, decide_eq_true (by omega), k⟩)
  clear hs
  replace HS := Lib.hid HS
  go_enter Tryz.func6, Tryz.ntmps6
  go_wp2_with (first
    | (go_at_call 11; first
      | (have tag := y1; (with_reducible refine (HU.out _).mono ?_); rintro e w2 ⟨rfl, b2⟩; have y2 := y1.below b2; have k2 := y2.keep)
      | ((with_reducible refine (HT.out _).mono ?_); rintro e w1 ⟨rfl, b1⟩; have y1 := HB.out.below b1; have k1 := y1.keep))
    | (go_at_call 12; (with_reducible refine (HA.out _ y2.bl).mono ?_); rintro e w3 ⟨rfl, b3⟩; have y3 := y2.below b3; have k3 := y3.keep)
    | (go_at_call 13; first
      | (have tag := y4; (with_reducible refine (HN.out _).mono ?_); rintro e w5 ⟨rfl, b5⟩; have y5 := y4.below b5; have k5 := y5.keep)
      | ((with_reducible refine (HM.out _).mono ?_); rintro e w4 ⟨rfl, b4⟩; have y4 := y3.below b4; have k4 := y4.keep)))
  have d0 := y5.drew
  clear k1 k2 k3 k4 k5 y1 y2 y3 y4 y5 b1 b2 b3 b4 b5 HB HT HU HM HN HA
  go_region_held3 (fun w' => w'.cell? ⟨w.heap.size, 0, none⟩ = some (.int .i64 0) ∧ w'.cell? ⟨w.heap.size, 1, none⟩ = some (.bool false) ∧ w'.cell? ⟨w.heap.size, 2, none⟩ = some (.string S) ∧ w'.cell? ⟨w.heap.size, 3, none⟩ = some (.int .i64 x) ∧ w'.cell? ⟨w.heap.size + 1, 0, none⟩ = some (.int .i64 0) ∧ w'.cell? ⟨w.heap.size + 1, 1, none⟩ = some (.bool false) ∧ w'.cell? ⟨w.heap.size + 1, 2, none⟩ = some (.string S') ∧ w'.cell? ⟨w.heap.size + 1, 3, none⟩ = some (.int .i64 x'))
    (first | (with_reducible exact d0.keep) | (with_reducible exact d1.keep) | (with_reducible exact d2.keep) | (with_reducible exact d3.keep) | (with_reducible exact d4.keep) | (with_reducible exact d5.keep) | (with_reducible exact d6.keep) | (with_reducible exact d7.keep))
    (first
      | (go_at_call 24; first
        | (have tag := d3; (with_reducible refine (HO'.out _).mono ?_); rintro e v4 ⟨A4, n4, q4, rfl, r4, b4⟩; have d4 := d3.below b4; have r34 := r3.below b4)
        | ((with_reducible refine (HO.out _).mono ?_); rintro e v1 ⟨A1, n1, q1, rfl, r1, b1⟩; have d1 := d0.below b1))
      | (go_at_call 25; first
        | (have tag := d4; (with_reducible refine (HP'.out _).mono ?_); rintro e v5 ⟨A5, n5, q5, rfl, r5, b5⟩; have d5 := d4.below b5; have r35 := r34.below b5; have r45 := r4.below b5)
        | ((with_reducible refine (HP.out _).mono ?_); rintro e v2 ⟨A2, n2, q2, rfl, r2, b2⟩; have d2 := d1.below b2; have r12 := r1.below b2))
      | (go_at_call 23; first
        | (have tag := d5; (with_reducible refine (HMu'.out A4 A5 n4 q4 n5 q5 _ r45 r5).mono ?_); rintro e v6 ⟨A6, n6, q6, rfl, r6, b6⟩; have d6 := d5.below b6; have r36 := r35.below b6)
        | ((with_reducible refine (HMu.out A1 A2 n1 q1 n2 q2 _ r12 r2).mono ?_); rintro e v3 ⟨A3, n3, q3, rfl, r3, b3⟩; have d3 := d2.below b3))
      | (go_at_call 22; (with_reducible refine (HC.out A3 A6 n3 q3 n6 q6 _ r36 r6).mono ?_); rintro e v7 ⟨rfl, c7⟩; have d7 := d6.below c7.below))
  all_goals
    rcases HS.out with ⟨rfl, hs, hn⟩ | ⟨rfl, rfl⟩ | ⟨rfl, hs, hn⟩
    all_goals
      go_wp2
      all_goals
        go_ret
        exact ⟨by first | (simp; done) | (simp; omega) | (exfalso; omega), d7.bl⟩
set_option exponentiation.threshold 2000 in
theorem nb_nil (x : Int) : nb 52 1074 (nv 0 []) x = 0 := by
  refine nb_eq (by omega) ?_
  unfold NearD
  rw [nv_nil, Nat.zero_mul, Nat.zero_mul]
  refine ⟨⟨by omega, fun h => absurd h (by decide)⟩, fun h => absurd h (by omega)⟩
theorem pT_plus {l : List UInt8} {x : Int} (hm : mayB 0 false l x = true) : pT_w (0, false, l, x) = min (nb 52 1074 (nv 0 l) x) 9218868437227405312 := by
  by_cases h : l = []
  · subst h
    obtain rfl : x = 0 := by
      rcases (Rd.mayB_iff ..).1 hm with ⟨_, h, _⟩ | ⟨_, h, _⟩
      · exact h
      · exact absurd rfl h.ne
    rw [pT_zero_w, nb_nil]
    rfl
  · rw [pT_fin_w hm h (nb_spec (by omega) 1074 (nv 0 l) x)]
    exact Nat.zero_or _
theorem may_x {l : List UInt8} {x : Int} (hm : mayB 0 false l x = true) : -3000 ≤ x ∧ x ≤ 2000 ∧ l.length ≤ 1000 ∧ ∀ c ∈ l, isDig c := by
  rcases (Rd.mayB_iff ..).1 hm with ⟨h, h2, _⟩ | ⟨_, hF, h1, h2, h3⟩
  · subst h; subst h2
    exact ⟨by omega, by omega, by simp, fun c hc => by simp at hc⟩
  · exact ⟨by omega, by omega, h1, hF.dig⟩
set_option exponentiation.threshold 2000 in
theorem nearestRises_calls (p q : Pt) (w : World) (hp : Pow w) (hl : p.2.2.1.length ≤ 9223372036854775807) (hl' : q.2.2.1.length ≤ 9223372036854775807) :
    Calls Tryz.prog 6 #[.agg (pV p), .agg (pV q)] w fun e w' => e = .returned (.bool true) ∧ Below w.heap.size w w' := by
  have HT := fun w1 => To64_calls p w1 hl
  have HU := fun w1 => To64_calls q w1 hl'
  have HM := fun w1 => rmay_q p w1
  have HN := fun w1 => rmay_q q w1
  unfold pE at HT HU
  obtain ⟨c, g, l, x⟩ := p
  obtain ⟨c', g', l', x'⟩ := q
  by_cases hon : pM (c, g, l, x) = true ∧ pM (c', g', l', x') = true ∧ c = 0 ∧ c' = 0 ∧ g = false ∧ g' = false
  · obtain ⟨h1, h2, rfl, rfl, rfl, rfl⟩ := hon
    simp only [h1, h2, if_true] at HT HU HM HN
    obtain ⟨x1, x2, x3, x4⟩ := may_x (show mayB 0 false l x = true from h1)
    obtain ⟨y1, y2, y3, y4⟩ := may_x (show mayB 0 false l' x' = true from h2)
    rw [pT_plus h1] at HT
    rw [pT_plus h2] at HU
    have b1 := nb_spec (M := 52) (by omega) 1074 (nv 0 l) x
    have b2 := nb_spec (M := 52) (by omega) 1074 (nv 0 l') x'
    obtain ⟨u, hu⟩ : ∃ u, min x x' = u := ⟨_, rfl⟩
    have hub : u ≤ x ∧ u ≤ x' ∧ -3000 ≤ u := by omega
    obtain ⟨k, hk⟩ : ∃ k : Nat, x - u = (k : Int) := ⟨(x - u).toNat, by omega⟩
    obtain ⟨k', hk'⟩ : ∃ k : Nat, x' - u = (k : Int) := ⟨(x' - u).toNat, by omega⟩
    have hlen : ∀ {m : List UInt8}, m.length ≤ 1000 → (∀ c ∈ m, isDig c) → (digs V (nv 0 m)).length ≤ 8192 := fun {m} h hd => by
      have := ((ten_bt (k := 1000) (j := 700) (by omega)).le (Nat.le_trans (Nat.le_of_lt (nv_lt hd)) (Nat.pow_le_pow_right (by omega) h))).len16
      omega
    have mono : ∀ {D D' : Nat} {z z' : Int} {j j' : Nat}, z - u = (j : Int) → z' - u = (j' : Int) → D * 10 ^ j ≤ D' * 10 ^ j' → NearD 52 1074 D z (nb 52 1074 D z) → NearD 52 1074 D' z' (nb 52 1074 D' z') → min (nb 52 1074 D z) 9218868437227405312 ≤ min (nb 52 1074 D' z') 9218868437227405312 := by
      intro D D' z z' j j' hj hj' h n1 n2
      obtain ⟨i, hi⟩ : ∃ i : Nat, (i : Int) = u - min u 0 := ⟨(u - min u 0).toNat, by omega⟩
      have := nearD_mono (E := min u 0) (by omega) (by omega) (by omega) (by
        rw [show (z - min u 0).toNat = j + i by omega, show (z' - min u 0).toNat = j' + i by omega, Nat.pow_add, Nat.pow_add, ← Nat.mul_assoc, ← Nat.mul_assoc]
        exact Nat.mul_le_mul_right _ h) n1 n2
      omega
    refine rises_on ⟨l.toArray⟩ x ⟨l'.toArray⟩ x' u _ _ k k' (nv 0 l) (nv 0 l') _ w hp hu hk hk' (by omega) (by omega) HT HU HM HN (fun w1 => rof_d x4 (by omega) w1) (fun w1 => rof_d y4 (by omega) w1) (hlen x3 x4) (hlen y3 y4) rfl ?_
    unfold stand
    rcases Nat.lt_trichotomy (nv 0 l * 10 ^ k) (nv 0 l' * 10 ^ k') with h | h | h
    · left
      exact ⟨if_pos h, mono hk hk' (Nat.le_of_lt h) b1 b2⟩
    · right; left
      refine ⟨by rw [if_neg (by omega), if_pos h], Nat.le_antisymm (mono hk hk' (Nat.le_of_eq h) b1 b2) (mono hk' hk (Nat.le_of_eq h.symm) b2 b1)⟩
    · right; right
      exact ⟨by rw [if_neg (by omega), if_neg (by omega)], mono hk' hk (Nat.le_of_lt h) b2 b1⟩
  · refine rises_off c g ⟨l.toArray⟩ x c' g' ⟨l'.toArray⟩ x' _ _ _ _ w hp HT HU HM HN ?_
    intro h1 h2 h3 h4 h5
    cases h6 : g'
    · exact absurd ⟨h1, h2, h3, h4, h5, h6⟩ hon
    · rfl
end Go.Proofs.YtfddokfnplehkaaGreatDoor.Nr
