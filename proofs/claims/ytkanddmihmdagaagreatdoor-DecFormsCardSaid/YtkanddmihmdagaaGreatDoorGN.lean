/- Texts of one layer, joined: Ca, Cb. -/
import Derived.Test.YtkanddmihmdagaaGreatDoorGL
import Derived.Test.YtkanddmihmdagaaGreatDoorGM
set_option linter.unusedVariables false
set_option linter.unusedSimpArgs false
set_option linter.unusedSectionVars false
/- Layer 5: dec.Cmp and dec.Neg, whole. -/
set_option linter.unusedSimpArgs false
set_option linter.unusedVariables false
namespace Go.Proofs.YtkanddmihmdagaaGreatDoor.Dc
open Go.RowKit Go.Proofs.YtkanddmihmdagaaGreatDoor.Dig Go.Proofs.YtkanddmihmdagaaGreatDoor.W Go.Proofs.YtkanddmihmdagaaGreatDoor.Nat Go.Proofs.YtkanddmihmdagaaGreatDoor.Wh Go.Proofs.YtkanddmihmdagaaGreatDoor.Td Go.Proofs.YtkanddmihmdagaaGreatDoor.Bu Go.Proofs.YtkanddmihmdagaaGreatDoor.Tx Go.Proofs.YtkanddmihmdagaaGreatDoor.Sp Go.Proofs.YtkanddmihmdagaaGreatDoor.Rd

/-- a finite one's value, in the least unit -/
def valV (c : Int) (g : Bool) (l : List UInt8) (x : Int) : Int := if c = 0 then sv g (amt l x (-10000)) else 0
def lex (k v k' v' : Int) : Int := if k < k' then -1 else if k' < k then 1 else order v v'
def cmpV (c : Int) (g : Bool) (l : List UInt8) (x : Int) (c' : Int) (g' : Bool) (l' : List UInt8) (x' : Int) : Int × Int :=
  if mayB c g l x = false ∨ mayB c' g' l' x' = false then (0, 52) else (lex (keyV c g) (valV c g l x) (keyV c' g') (valV c' g' l' x'), 0)
set_option maxHeartbeats 4000000 in
set_option maxRecDepth 100000 in
theorem cmp_e1 (c : Int) (g : Bool) (S : ByteArray) (x c' : Int) (g' : Bool) (S' : ByteArray) (x' : Int) (w : World)
    (M1 : ∀ w1, Calls Tryz.prog 14 #[.agg #[.int .i64 c, .bool g, .string S, .int .i64 x]] w1 fun e w' => e = .returned (.bool false) ∧ Below w1.heap.size w1 w') :
    Calls Tryz.prog 22 #[.agg #[.int .i64 c, .bool g, .string S, .int .i64 x], .agg #[.int .i64 c', .bool g', .string S', .int .i64 x']] w fun e w' => e = .returned (.tuple #[.int .i64 0, .int .i64 52]) ∧ Below w.heap.size w w' := by
  have T := T8.start w #[.int .i64 c, .bool g, .string S, .int .i64 x] #[.int .i64 c', .bool g', .string S', .int .i64 x']
  have HB := Lib.hid T.bl
  have HM := Lib.hid M1
  clear T M1
  go_enter Tryz.func22, Tryz.ntmps22
  go_wp2_with (go_at_call 14; (with_reducible refine (HM.out _).mono ?_); rintro e w1 ⟨rfl, b1⟩)
  go_ret2
  exact ⟨rfl, on HB.out b1⟩
set_option maxHeartbeats 4000000 in
set_option maxRecDepth 100000 in
theorem cmp_e2 (c : Int) (g : Bool) (S : ByteArray) (x c' : Int) (g' : Bool) (S' : ByteArray) (x' : Int) (w : World)
    (M1 : ∀ w1, Calls Tryz.prog 14 #[.agg #[.int .i64 c, .bool g, .string S, .int .i64 x]] w1 fun e w' => e = .returned (.bool true) ∧ Below w1.heap.size w1 w')
    (M2 : ∀ w1, Calls Tryz.prog 14 #[.agg #[.int .i64 c', .bool g', .string S', .int .i64 x']] w1 fun e w' => e = .returned (.bool false) ∧ Below w1.heap.size w1 w') :
    Calls Tryz.prog 22 #[.agg #[.int .i64 c, .bool g, .string S, .int .i64 x], .agg #[.int .i64 c', .bool g', .string S', .int .i64 x']] w fun e w' => e = .returned (.tuple #[.int .i64 0, .int .i64 52]) ∧ Below w.heap.size w w' := by
  have T := T8.start w #[.int .i64 c, .bool g, .string S, .int .i64 x] #[.int .i64 c', .bool g', .string S', .int .i64 x']
  have HT := Lib.hid T
  have HM := Lib.hid M1
  have HN := Lib.hid M2
  clear T M1 M2
  go_enter Tryz.func22, Tryz.ntmps22
  go_wp2_with (go_at_call 14; first
    | ((with_reducible refine (HM.out _).mono ?_); rintro e w1 ⟨rfl, b1⟩; have x1 := HT.out.below b1; have k1 := x1.keep)
    | ((with_reducible refine (HN.out w1).mono ?_); rintro e w2 ⟨rfl, b2⟩))
  go_ret2
  exact ⟨rfl, on x1.bl b2⟩
theorem may_len {c : Int} {g : Bool} {l : List UInt8} {x : Int} (h : mayB c g l x = true) : l.length ≤ 1000 := by
  rcases (mayB_iff ..).1 h with ⟨h, _⟩ | ⟨_, _, h⟩
  · rw [h]; decide
  · exact h.1
theorem may_low {c : Int} {g : Bool} {l : List UInt8} {x : Int} (h : mayB c g l x = true) : -3000 ≤ x ∧ x ≤ 2000 := by
  rcases (mayB_iff ..).1 h with ⟨_, h, _⟩ | ⟨_, _, h1, h2, h3⟩ <;> omega
theorem key_cls {c : Int} {g : Bool} {l : List UInt8} {x : Int} (h : mayB c g l x = true) : keyV c g = 0 ↔ c = 0 := by
  obtain ⟨hc, _, _⟩ := may_cls h
  unfold keyV
  rcases hc with rfl | rfl | rfl
  · simp
  · cases g <;> simp
  · simp
/-- dec.Cmp at any two -/
theorem cmp_all (c : Int) (g : Bool) (l : List UInt8) (x : Int) (c' : Int) (g' : Bool) (l' : List UInt8) (x' : Int) (w : World) (hl : l.length ≤ 9223372036854775807) (hl' : l'.length ≤ 9223372036854775807) :
    Calls Tryz.prog 22 #[.agg (dec c g l x), .agg (dec c' g' l' x')] w fun e w' => e = .returned (.tuple #[.int .i64 (cmpV c g l x c' g' l' x').1, .int .i64 (cmpV c g l x c' g' l' x').2]) ∧ Below w.heap.size w w' := by
  have M1 := fun w1 => dmay_calls c g l x w1 hl
  have M2 := fun w1 => dmay_calls c' g' l' x' w1 hl'
  unfold cmpV
  cases h1 : mayB c g l x
  · rw [h1] at M1
    rw [if_pos (.inl rfl)]
    exact cmp_e1 c g ⟨l.toArray⟩ x c' g' ⟨l'.toArray⟩ x' w M1
  cases h2 : mayB c' g' l' x'
  · rw [h1] at M1
    rw [h2] at M2
    rw [if_pos (.inr rfl)]
    exact cmp_e2 c g ⟨l.toArray⟩ x c' g' ⟨l'.toArray⟩ x' w M1 M2
  rw [if_neg (by rintro (h | h) <;> cases h)]
  have k1 := key_cls h1
  have k2 := key_cls h2
  have l1 := may_len h1
  have l2 := may_len h2
  by_cases hc : c = 0 ∧ c' = 0
  · obtain ⟨rfl, rfl⟩ := hc
    have e := cmp_fin g g' l l' x x' (-10000) w h1 h2 (fun _ => by have := may_low h1; omega) (fun _ => by have := may_low h2; omega)
    have : lex (keyV 0 g) (valV 0 g l x) (keyV 0 g') (valV 0 g' l' x') = order (sv g (amt l x (-10000))) (sv g' (amt l' x' (-10000))) := rfl
    rw [this]
    exact e
  · have hne : Lib.compareInt (keyV c g) (keyV c' g') ≠ 0 ∨ c ≠ 0 := by
      by_cases h0 : c = 0
      · left
        have h3 : keyV c' g' ≠ 0 := fun k => hc ⟨h0, k2.1 k⟩
        rw [k1.2 h0]
        unfold Lib.compareInt
        split
        · decide
        · split
          · decide
          · omega
      · exact .inr h0
    have e := cmp_cls c c' g g' l l' x x' w h1 h2 (by omega) (by omega) hne
    have hv : lex (keyV c g) (valV c g l x) (keyV c' g') (valV c' g' l' x') = Lib.compareInt (keyV c g) (keyV c' g') := by
      unfold lex Lib.compareInt
      by_cases ha : keyV c g < keyV c' g'
      · rw [if_pos ha, if_pos ha]
      · rw [if_neg ha, if_neg ha]
        by_cases hb : keyV c' g' < keyV c g
        · rw [if_pos hb, if_pos hb]
        · rw [if_neg hb, if_neg (by omega)]
          have h0 : c ≠ 0 := fun k => by
            have := k1.2 k
            exact hc ⟨k, k2.1 (by omega)⟩
          have h0' : c' ≠ 0 := fun k => by
            have := k2.2 k
            exact h0 (k1.1 (by omega))
          unfold valV
          rw [if_neg h0, if_neg h0']
          rfl
    rw [hv]
    exact e
end Go.Proofs.YtkanddmihmdagaaGreatDoor.Dc

/- Layer 5: dec.Mul. -/
set_option linter.unusedSimpArgs false
set_option linter.unusedVariables false
namespace Go.Proofs.YtkanddmihmdagaaGreatDoor.Dc
open Go.RowKit Go.Proofs.YtkanddmihmdagaaGreatDoor.Dig Go.Proofs.YtkanddmihmdagaaGreatDoor.W Go.Proofs.YtkanddmihmdagaaGreatDoor.Nat Go.Proofs.YtkanddmihmdagaaGreatDoor.Wh Go.Proofs.YtkanddmihmdagaaGreatDoor.Td Go.Proofs.YtkanddmihmdagaaGreatDoor.Bu Go.Proofs.YtkanddmihmdagaaGreatDoor.Tx Go.Proofs.YtkanddmihmdagaaGreatDoor.Sp Go.Proofs.YtkanddmihmdagaaGreatDoor.Rd
set_option maxHeartbeats 32000000 in
set_option maxRecDepth 100000 in
/-- two that are not zero -/
theorem mul_both (g g' : Bool) (l l' : List UInt8) (x x' : Int) (w : World) (hp : Pow w) (hF : Formed l) (hF' : Formed l') (hf : fits l x) (hf' : fits l' x') :
    Calls Tryz.prog 30 #[.agg (dec 0 g l x), .agg (dec 0 g' l' x')] w
      (Ans w (g != g') (told (g != g') (nv 0 l * nv 0 l') (x + x'))) := by
  rw [show (g != g') = (!(g == g')) by cases g <;> cases g' <;> rfl]
  have M1 := fun w1 => dmay_calls 0 g l x w1 (by have := hf.1; omega)
  have M2 := fun w1 => dmay_calls 0 g' l' x' w1 (by have := hf'.1; omega)
  rw [may_form hF, decide_eq_true hf] at M1
  rw [may_form hF', decide_eq_true hf'] at M2
  obtain ⟨f1, f2, f3⟩ := hf
  obtain ⟨f1', f2', f3'⟩ := hf'
  have P1 := fun w1 => parse_formed hF (by omega) w1
  have P2 := fun w1 => parse_formed hF' (by omega) w1
  have L1 := (nv_10 hF).mono f1
  have L2 := (nv_10 hF').mono f1'
  have L3 := L1.mul L2
  have hlen := hF.len
  have hlen' := hF'.len
  have hwr : IntKind.i64.wrap (x + x') = x + x' := by rw [IntKind.wrap_i64]; omega
  obtain ⟨y, hy⟩ : ∃ y, x + x' = y := ⟨_, rfl⟩
  have hy2 : -1000000 ≤ y ∧ y ≤ 1000000 := by omega
  generalize nv 0 l = D at *
  generalize nv 0 l' = D' at *
  have MU := fun (A A' : Option Addr) (n c n' c' : Nat) (w1 : World) (h : SI w1 .u64 A n c (digs U D)) (h' : SI w1 .u64 A' n' c' (digs U D')) => mul_10 A A' n c n' c' D D' w1 h h' L1 L2 (by omega)
  obtain ⟨m, hm⟩ : ∃ m, D * D' = m := ⟨_, rfl⟩
  rw [hm] at L3
  simp only [hm] at MU
  rw [hm, hy]
  have hdl := dec_len_le L3 (by omega)
  have TX := fun (A : Option Addr) (n c : Nat) (w1 : World) (h : SI w1 .u64 A n c (digs U m)) (hp : Pow w1) => text_d A n c m w1 h (by rw [← h.len]; have := L3.len; omega) hp
  have MA := fun w1 => dmade_calls (!(g == g')) (Lib.decDigits m) y w1 (dec_isDig _) (by omega) (by omega) (by omega)
  rw [nv_dec] at MA
  unfold Ans at MA ⊢
  obtain ⟨G, L, X, e4⟩ := oc_four (!(g == g')) (told (!(g == g')) m y)
  rw [e4] at MA ⊢
  generalize oe (told (!(g == g')) m y) = er at *
  unfold dec str at M1 M2 ⊢
  unfold str at TX MA
  rw [← size_of l] at hlen
  rw [← size_of l'] at hlen'
  generalize (⟨l.toArray⟩ : ByteArray) = S at *
  generalize (⟨l'.toArray⟩ : ByteArray) = S' at *
  generalize (⟨(Lib.decDigits m).toArray⟩ : ByteArray) = T at *
  obtain ⟨em1, em2⟩ := emp hlen
  obtain ⟨em3, em4⟩ := emp hlen'
  have HM1 := Lib.hid M1
  have HM2 := Lib.hid M2
  have HP1 := Lib.hid P1
  have HP2 := Lib.hid P2
  have HMU := Lib.hid MU
  have HTX := Lib.hid TX
  have HMA := Lib.hid MA
  have T0 := TS.start w (.int .i64 0) (.bool g) (.string S) (.int .i64 x) (.int .i64 0) (.bool g') (.string S') (.int .i64 x')
  have HT := Lib.hid T0
  have HP := Lib.hid hp
  have HW := Lib.hid (hp.below T0.bl)
  subst hy
  clear M1 M2 P1 P2 MU TX MA hm L1 L2 L3 hdl e4 hlen hlen' hF hF' f1 f2 f3 f1' f2' f3' T0 hp
  go_enter Tryz.func30, Tryz.ntmps30
  go_wp2_with (first
    | (go_at_call 14; first
      | ((with_reducible refine (HM1.out _).mono ?_); rintro e w1 ⟨rfl, b1⟩; have x1 := HT.out.below b1; have k1 := x1.k8)
      | ((with_reducible refine (HM2.out w1).mono ?_); rintro e V ⟨rfl, b2⟩; have x2 := x1.below b2; have p2 := (HW.out.below b1).below b2; have k2 := x2.k8))
    | (go_at_call 51; first
      | ((with_reducible refine (HP1.out V).mono ?_); rintro e w3 ⟨A3, n3, c3, rfl, r3, b3⟩; have x3 := x2.below b3; have p3 := p2.below b3; have k3 := x3.k8)
      | ((with_reducible refine (HP2.out w3).mono ?_); rintro e w4 ⟨A4, n4, c4, rfl, r4, b4⟩; have x4 := x3.below b4; have p4 := p3.below b4; have k4 := x4.k8)))
  have z4 := x4.drew
  have pz := p4.below (Below.refl _ _).drew
  have s3 := (r3.below b4).below (Below.refl _ _).drew
  have s4 := r4.below (Below.refl _ _).drew
  have kz := z4.k8
  clear k1 k2 k3 k4 x1 x2 x3
  go_region_held3 (fun w' => w'.cell? ⟨w.heap.size, 0, none⟩ = some (.int .i64 0) ∧ w'.cell? ⟨w.heap.size, 1, none⟩ = some (.bool g) ∧ w'.cell? ⟨w.heap.size, 2, none⟩ = some (.string S) ∧ w'.cell? ⟨w.heap.size, 3, none⟩ = some (.int .i64 x) ∧ w'.cell? ⟨w.heap.size + 1, 0, none⟩ = some (.int .i64 0) ∧ w'.cell? ⟨w.heap.size + 1, 1, none⟩ = some (.bool g') ∧ w'.cell? ⟨w.heap.size + 1, 2, none⟩ = some (.string S') ∧ w'.cell? ⟨w.heap.size + 1, 3, none⟩ = some (.int .i64 x'))
    (first
      | (with_reducible exact kz)
      | (with_reducible exact k5)
      | (with_reducible exact k6)
      | (with_reducible exact k7)
      | (with_reducible exact k8))
    (first
      | (go_at_call 52; (with_reducible refine (HMU.out A3 A4 n3 c3 n4 c4 _ s3 s4).mono ?_); rintro e w5 ⟨v5, rfl, o5, b5⟩; obtain ⟨A5, n5, c5, rfl, r5⟩ := o5.reads_n; have z5 := z4.below b5; have p5 := pz.below b5; have k5 := z5.k8)
      | (go_at_call 48; (with_reducible refine (HTX.out A5 n5 c5 _ r5 p5).mono ?_); rintro e w6 ⟨rfl, b6⟩; have z6 := z5.below b6; have k6 := z6.k8)
      | (go_at_call 35; (with_reducible refine (HMA.out w6).mono ?_); rintro e w7 ⟨rfl, b7⟩; have z7 := z6.below b7; have k7 := z7.k8; have q7 := z7.res; have k8 := z7.fars (.int .i64 0) (.bool G) (.string L) (.int .i64 X); unfold KS at k8))
  go_wp2
  obtain ⟨o1, o2⟩ := z7.ret (.int .i64 0) (.bool G) (.string L) (.int .i64 X)
  exact bodyPost_ret (res_bk_t rfl _ o1 rfl Tryz.underlying23 rfl (by kernel_rfl)) rfl ⟨rfl, o2⟩
set_option maxHeartbeats 16000000 in
set_option maxRecDepth 100000 in
theorem mulc_m1 (c c' : Int) (g g' : Bool) (S S' : ByteArray) (x x' : Int) (w : World)
    (M1 : ∀ w1, Calls Tryz.prog 14 #[.agg #[.int .i64 c, .bool g, .string S, .int .i64 x]] w1 fun e w' => e = .returned (.bool false) ∧ Below w1.heap.size w1 w') :
    Calls Tryz.prog 30 #[.agg #[.int .i64 c, .bool g, .string S, .int .i64 x], .agg #[.int .i64 c', .bool g', .string S', .int .i64 x']] w fun e w' => e = .returned (.tuple #[.agg #[.int .i64 0, .bool false, .string ⟨#[]⟩, .int .i64 0], .int .i64 52]) ∧ Below w.heap.size w w' := by
  have HM1 := Lib.hid M1
  have HT := Lib.hid (TS.start w (.int .i64 c) (.bool g) (.string S) (.int .i64 x) (.int .i64 c') (.bool g') (.string S') (.int .i64 x'))
  clear M1
  go_enter Tryz.func30, Tryz.ntmps30
  go_wp2_with (first
    | (go_at_call 14; ((with_reducible refine (HM1.out _).mono ?_); rintro e w1 ⟨rfl, b1⟩; have x1 := HT.out.below b1; have k1 := x1.k8; have q2 := x1.res)))
  obtain ⟨o1, o2⟩ := x1.ret (.int .i64 0) (.bool (false)) (.string ⟨#[]⟩) (.int .i64 0)
  exact bodyPost_ret (res_bk_t rfl _ o1 rfl Tryz.underlying23 rfl (by kernel_rfl)) rfl ⟨rfl, o2⟩
set_option maxHeartbeats 16000000 in
set_option maxRecDepth 100000 in
theorem mulc_m2 (c c' : Int) (g g' : Bool) (S S' : ByteArray) (x x' : Int) (w : World)
    (M1 : ∀ w1, Calls Tryz.prog 14 #[.agg #[.int .i64 c, .bool g, .string S, .int .i64 x]] w1 fun e w' => e = .returned (.bool true) ∧ Below w1.heap.size w1 w')
    (M2 : ∀ w1, Calls Tryz.prog 14 #[.agg #[.int .i64 c', .bool g', .string S', .int .i64 x']] w1 fun e w' => e = .returned (.bool false) ∧ Below w1.heap.size w1 w') :
    Calls Tryz.prog 30 #[.agg #[.int .i64 c, .bool g, .string S, .int .i64 x], .agg #[.int .i64 c', .bool g', .string S', .int .i64 x']] w fun e w' => e = .returned (.tuple #[.agg #[.int .i64 0, .bool false, .string ⟨#[]⟩, .int .i64 0], .int .i64 52]) ∧ Below w.heap.size w w' := by
  have HM1 := Lib.hid M1
  have HM2 := Lib.hid M2
  have HT := Lib.hid (TS.start w (.int .i64 c) (.bool g) (.string S) (.int .i64 x) (.int .i64 c') (.bool g') (.string S') (.int .i64 x'))
  clear M1 M2
  go_enter Tryz.func30, Tryz.ntmps30
  go_wp2_with (first
    | (go_at_call 14; first
      | ((with_reducible refine (HM1.out _).mono ?_); rintro e w1 ⟨rfl, b1⟩; have x1 := HT.out.below b1; have k1 := x1.k8)
      | ((with_reducible refine (HM2.out w1).mono ?_); rintro e w2 ⟨rfl, b2⟩; have x2 := x1.below b2; have k2 := x2.k8; have q2 := x2.res)))
  obtain ⟨o1, o2⟩ := x2.ret (.int .i64 0) (.bool (false)) (.string ⟨#[]⟩) (.int .i64 0)
  exact bodyPost_ret (res_bk_t rfl _ o1 rfl Tryz.underlying23 rfl (by kernel_rfl)) rfl ⟨rfl, o2⟩
set_option maxHeartbeats 16000000 in
set_option maxRecDepth 100000 in
theorem mulc_nn (g g' : Bool) (S S' : ByteArray) (x x' : Int) (w : World)
    (M1 : ∀ w1, Calls Tryz.prog 14 #[.agg #[.int .i64 2, .bool g, .string S, .int .i64 x]] w1 fun e w' => e = .returned (.bool true) ∧ Below w1.heap.size w1 w')
    (M2 : ∀ w1, Calls Tryz.prog 14 #[.agg #[.int .i64 2, .bool g', .string S', .int .i64 x']] w1 fun e w' => e = .returned (.bool true) ∧ Below w1.heap.size w1 w') :
    Calls Tryz.prog 30 #[.agg #[.int .i64 2, .bool g, .string S, .int .i64 x], .agg #[.int .i64 2, .bool g', .string S', .int .i64 x']] w fun e w' => e = .returned (.tuple #[.agg #[.int .i64 2, .bool false, .string ⟨#[]⟩, .int .i64 0], .int .i64 0]) ∧ Below w.heap.size w w' := by
  have HM1 := Lib.hid M1
  have HM2 := Lib.hid M2
  have HT := Lib.hid (TS.start w (.int .i64 2) (.bool g) (.string S) (.int .i64 x) (.int .i64 2) (.bool g') (.string S') (.int .i64 x'))
  clear M1 M2
  go_enter Tryz.func30, Tryz.ntmps30
  go_wp2_with (first
    | (go_at_call 14; first
      | ((with_reducible refine (HM1.out _).mono ?_); rintro e w1 ⟨rfl, b1⟩; have x1 := HT.out.below b1; have k1 := x1.k8)
      | ((with_reducible refine (HM2.out w1).mono ?_); rintro e w2 ⟨rfl, b2⟩; have x2 := x1.below b2; have k2 := x2.k8; have q2 := x2.res)))
  obtain ⟨o1, o2⟩ := x2.ret (.int .i64 2) (.bool (false)) (.string ⟨#[]⟩) (.int .i64 0)
  exact bodyPost_ret (res_bk_t rfl _ o1 rfl Tryz.underlying23 rfl (by kernel_rfl)) rfl ⟨rfl, o2⟩
set_option maxHeartbeats 16000000 in
set_option maxRecDepth 100000 in
theorem mulc_ni (g g' : Bool) (S S' : ByteArray) (x x' : Int) (w : World)
    (M1 : ∀ w1, Calls Tryz.prog 14 #[.agg #[.int .i64 2, .bool g, .string S, .int .i64 x]] w1 fun e w' => e = .returned (.bool true) ∧ Below w1.heap.size w1 w')
    (M2 : ∀ w1, Calls Tryz.prog 14 #[.agg #[.int .i64 1, .bool g', .string S', .int .i64 x']] w1 fun e w' => e = .returned (.bool true) ∧ Below w1.heap.size w1 w') :
    Calls Tryz.prog 30 #[.agg #[.int .i64 2, .bool g, .string S, .int .i64 x], .agg #[.int .i64 1, .bool g', .string S', .int .i64 x']] w fun e w' => e = .returned (.tuple #[.agg #[.int .i64 2, .bool false, .string ⟨#[]⟩, .int .i64 0], .int .i64 0]) ∧ Below w.heap.size w w' := by
  have HM1 := Lib.hid M1
  have HM2 := Lib.hid M2
  have HT := Lib.hid (TS.start w (.int .i64 2) (.bool g) (.string S) (.int .i64 x) (.int .i64 1) (.bool g') (.string S') (.int .i64 x'))
  clear M1 M2
  go_enter Tryz.func30, Tryz.ntmps30
  go_wp2_with (first
    | (go_at_call 14; first
      | ((with_reducible refine (HM1.out _).mono ?_); rintro e w1 ⟨rfl, b1⟩; have x1 := HT.out.below b1; have k1 := x1.k8)
      | ((with_reducible refine (HM2.out w1).mono ?_); rintro e w2 ⟨rfl, b2⟩; have x2 := x1.below b2; have k2 := x2.k8; have q2 := x2.res)))
  obtain ⟨o1, o2⟩ := x2.ret (.int .i64 2) (.bool (false)) (.string ⟨#[]⟩) (.int .i64 0)
  exact bodyPost_ret (res_bk_t rfl _ o1 rfl Tryz.underlying23 rfl (by kernel_rfl)) rfl ⟨rfl, o2⟩
set_option maxHeartbeats 16000000 in
set_option maxRecDepth 100000 in
theorem mulc_nz (g g' : Bool) (S S' : ByteArray) (x x' : Int) (w : World) (i1 : S'.toList.isEmpty = true) (i2 : (S'.toList == []) = true)
    (M1 : ∀ w1, Calls Tryz.prog 14 #[.agg #[.int .i64 2, .bool g, .string S, .int .i64 x]] w1 fun e w' => e = .returned (.bool true) ∧ Below w1.heap.size w1 w')
    (M2 : ∀ w1, Calls Tryz.prog 14 #[.agg #[.int .i64 0, .bool g', .string S', .int .i64 x']] w1 fun e w' => e = .returned (.bool true) ∧ Below w1.heap.size w1 w') :
    Calls Tryz.prog 30 #[.agg #[.int .i64 2, .bool g, .string S, .int .i64 x], .agg #[.int .i64 0, .bool g', .string S', .int .i64 x']] w fun e w' => e = .returned (.tuple #[.agg #[.int .i64 2, .bool false, .string ⟨#[]⟩, .int .i64 0], .int .i64 0]) ∧ Below w.heap.size w w' := by
  have HM1 := Lib.hid M1
  have HM2 := Lib.hid M2
  have HT := Lib.hid (TS.start w (.int .i64 2) (.bool g) (.string S) (.int .i64 x) (.int .i64 0) (.bool g') (.string S') (.int .i64 x'))
  clear M1 M2
  go_enter Tryz.func30, Tryz.ntmps30
  go_wp2_with (first
    | (go_at_call 14; first
      | ((with_reducible refine (HM1.out _).mono ?_); rintro e w1 ⟨rfl, b1⟩; have x1 := HT.out.below b1; have k1 := x1.k8)
      | ((with_reducible refine (HM2.out w1).mono ?_); rintro e w2 ⟨rfl, b2⟩; have x2 := x1.below b2; have k2 := x2.k8; have q2 := x2.res)))
  obtain ⟨o1, o2⟩ := x2.ret (.int .i64 2) (.bool (false)) (.string ⟨#[]⟩) (.int .i64 0)
  exact bodyPost_ret (res_bk_t rfl _ o1 rfl Tryz.underlying23 rfl (by kernel_rfl)) rfl ⟨rfl, o2⟩
set_option maxHeartbeats 16000000 in
set_option maxRecDepth 100000 in
theorem mulc_np (g g' : Bool) (S S' : ByteArray) (x x' : Int) (w : World) (i1 : S'.toList.isEmpty = false) (i2 : (S'.toList == []) = false)
    (M1 : ∀ w1, Calls Tryz.prog 14 #[.agg #[.int .i64 2, .bool g, .string S, .int .i64 x]] w1 fun e w' => e = .returned (.bool true) ∧ Below w1.heap.size w1 w')
    (M2 : ∀ w1, Calls Tryz.prog 14 #[.agg #[.int .i64 0, .bool g', .string S', .int .i64 x']] w1 fun e w' => e = .returned (.bool true) ∧ Below w1.heap.size w1 w') :
    Calls Tryz.prog 30 #[.agg #[.int .i64 2, .bool g, .string S, .int .i64 x], .agg #[.int .i64 0, .bool g', .string S', .int .i64 x']] w fun e w' => e = .returned (.tuple #[.agg #[.int .i64 2, .bool false, .string ⟨#[]⟩, .int .i64 0], .int .i64 0]) ∧ Below w.heap.size w w' := by
  have HM1 := Lib.hid M1
  have HM2 := Lib.hid M2
  have HT := Lib.hid (TS.start w (.int .i64 2) (.bool g) (.string S) (.int .i64 x) (.int .i64 0) (.bool g') (.string S') (.int .i64 x'))
  clear M1 M2
  go_enter Tryz.func30, Tryz.ntmps30
  go_wp2_with (first
    | (go_at_call 14; first
      | ((with_reducible refine (HM1.out _).mono ?_); rintro e w1 ⟨rfl, b1⟩; have x1 := HT.out.below b1; have k1 := x1.k8)
      | ((with_reducible refine (HM2.out w1).mono ?_); rintro e w2 ⟨rfl, b2⟩; have x2 := x1.below b2; have k2 := x2.k8; have q2 := x2.res)))
  obtain ⟨o1, o2⟩ := x2.ret (.int .i64 2) (.bool (false)) (.string ⟨#[]⟩) (.int .i64 0)
  exact bodyPost_ret (res_bk_t rfl _ o1 rfl Tryz.underlying23 rfl (by kernel_rfl)) rfl ⟨rfl, o2⟩
set_option maxHeartbeats 16000000 in
set_option maxRecDepth 100000 in
theorem mulc_in (g g' : Bool) (S S' : ByteArray) (x x' : Int) (w : World)
    (M1 : ∀ w1, Calls Tryz.prog 14 #[.agg #[.int .i64 1, .bool g, .string S, .int .i64 x]] w1 fun e w' => e = .returned (.bool true) ∧ Below w1.heap.size w1 w')
    (M2 : ∀ w1, Calls Tryz.prog 14 #[.agg #[.int .i64 2, .bool g', .string S', .int .i64 x']] w1 fun e w' => e = .returned (.bool true) ∧ Below w1.heap.size w1 w') :
    Calls Tryz.prog 30 #[.agg #[.int .i64 1, .bool g, .string S, .int .i64 x], .agg #[.int .i64 2, .bool g', .string S', .int .i64 x']] w fun e w' => e = .returned (.tuple #[.agg #[.int .i64 2, .bool false, .string ⟨#[]⟩, .int .i64 0], .int .i64 0]) ∧ Below w.heap.size w w' := by
  have HM1 := Lib.hid M1
  have HM2 := Lib.hid M2
  have HT := Lib.hid (TS.start w (.int .i64 1) (.bool g) (.string S) (.int .i64 x) (.int .i64 2) (.bool g') (.string S') (.int .i64 x'))
  clear M1 M2
  go_enter Tryz.func30, Tryz.ntmps30
  go_wp2_with (first
    | (go_at_call 14; first
      | ((with_reducible refine (HM1.out _).mono ?_); rintro e w1 ⟨rfl, b1⟩; have x1 := HT.out.below b1; have k1 := x1.k8)
      | ((with_reducible refine (HM2.out w1).mono ?_); rintro e w2 ⟨rfl, b2⟩; have x2 := x1.below b2; have k2 := x2.k8; have q2 := x2.res)))
  obtain ⟨o1, o2⟩ := x2.ret (.int .i64 2) (.bool (false)) (.string ⟨#[]⟩) (.int .i64 0)
  exact bodyPost_ret (res_bk_t rfl _ o1 rfl Tryz.underlying23 rfl (by kernel_rfl)) rfl ⟨rfl, o2⟩
set_option maxHeartbeats 16000000 in
set_option maxRecDepth 100000 in
theorem mulc_ii (g g' : Bool) (S S' : ByteArray) (x x' : Int) (w : World)
    (M1 : ∀ w1, Calls Tryz.prog 14 #[.agg #[.int .i64 1, .bool g, .string S, .int .i64 x]] w1 fun e w' => e = .returned (.bool true) ∧ Below w1.heap.size w1 w')
    (M2 : ∀ w1, Calls Tryz.prog 14 #[.agg #[.int .i64 1, .bool g', .string S', .int .i64 x']] w1 fun e w' => e = .returned (.bool true) ∧ Below w1.heap.size w1 w') :
    Calls Tryz.prog 30 #[.agg #[.int .i64 1, .bool g, .string S, .int .i64 x], .agg #[.int .i64 1, .bool g', .string S', .int .i64 x']] w fun e w' => e = .returned (.tuple #[.agg #[.int .i64 1, .bool (g != g'), .string ⟨#[]⟩, .int .i64 0], .int .i64 0]) ∧ Below w.heap.size w w' := by
  have HM1 := Lib.hid M1
  have HM2 := Lib.hid M2
  have HT := Lib.hid (TS.start w (.int .i64 1) (.bool g) (.string S) (.int .i64 x) (.int .i64 1) (.bool g') (.string S') (.int .i64 x'))
  clear M1 M2
  go_enter Tryz.func30, Tryz.ntmps30
  go_wp2_with (first
    | (go_at_call 14; first
      | ((with_reducible refine (HM1.out _).mono ?_); rintro e w1 ⟨rfl, b1⟩; have x1 := HT.out.below b1; have k1 := x1.k8)
      | ((with_reducible refine (HM2.out w1).mono ?_); rintro e w2 ⟨rfl, b2⟩; have x2 := x1.below b2; have k2 := x2.k8; have q2 := x2.res)))
  obtain ⟨o1, o2⟩ := x2.ret (.int .i64 1) (.bool ((g != g'))) (.string ⟨#[]⟩) (.int .i64 0)
  exact bodyPost_ret (res_bk_t rfl _ o1 rfl Tryz.underlying23 rfl (by kernel_rfl)) rfl ⟨rfl, o2⟩
set_option maxHeartbeats 16000000 in
set_option maxRecDepth 100000 in
theorem mulc_iz (g g' : Bool) (S S' : ByteArray) (x x' : Int) (w : World) (i1 : S'.toList.isEmpty = true) (i2 : (S'.toList == []) = true)
    (M1 : ∀ w1, Calls Tryz.prog 14 #[.agg #[.int .i64 1, .bool g, .string S, .int .i64 x]] w1 fun e w' => e = .returned (.bool true) ∧ Below w1.heap.size w1 w')
    (M2 : ∀ w1, Calls Tryz.prog 14 #[.agg #[.int .i64 0, .bool g', .string S', .int .i64 x']] w1 fun e w' => e = .returned (.bool true) ∧ Below w1.heap.size w1 w') :
    Calls Tryz.prog 30 #[.agg #[.int .i64 1, .bool g, .string S, .int .i64 x], .agg #[.int .i64 0, .bool g', .string S', .int .i64 x']] w fun e w' => e = .returned (.tuple #[.agg #[.int .i64 2, .bool false, .string ⟨#[]⟩, .int .i64 0], .int .i64 0]) ∧ Below w.heap.size w w' := by
  have HM1 := Lib.hid M1
  have HM2 := Lib.hid M2
  have HT := Lib.hid (TS.start w (.int .i64 1) (.bool g) (.string S) (.int .i64 x) (.int .i64 0) (.bool g') (.string S') (.int .i64 x'))
  clear M1 M2
  go_enter Tryz.func30, Tryz.ntmps30
  go_wp2_with (first
    | (go_at_call 14; first
      | ((with_reducible refine (HM1.out _).mono ?_); rintro e w1 ⟨rfl, b1⟩; have x1 := HT.out.below b1; have k1 := x1.k8)
      | ((with_reducible refine (HM2.out w1).mono ?_); rintro e w2 ⟨rfl, b2⟩; have x2 := x1.below b2; have k2 := x2.k8; have q2 := x2.res)))
  obtain ⟨o1, o2⟩ := x2.ret (.int .i64 2) (.bool (false)) (.string ⟨#[]⟩) (.int .i64 0)
  exact bodyPost_ret (res_bk_t rfl _ o1 rfl Tryz.underlying23 rfl (by kernel_rfl)) rfl ⟨rfl, o2⟩
set_option maxHeartbeats 16000000 in
set_option maxRecDepth 100000 in
theorem mulc_ip (g g' : Bool) (S S' : ByteArray) (x x' : Int) (w : World) (i1 : S'.toList.isEmpty = false) (i2 : (S'.toList == []) = false)
    (M1 : ∀ w1, Calls Tryz.prog 14 #[.agg #[.int .i64 1, .bool g, .string S, .int .i64 x]] w1 fun e w' => e = .returned (.bool true) ∧ Below w1.heap.size w1 w')
    (M2 : ∀ w1, Calls Tryz.prog 14 #[.agg #[.int .i64 0, .bool g', .string S', .int .i64 x']] w1 fun e w' => e = .returned (.bool true) ∧ Below w1.heap.size w1 w') :
    Calls Tryz.prog 30 #[.agg #[.int .i64 1, .bool g, .string S, .int .i64 x], .agg #[.int .i64 0, .bool g', .string S', .int .i64 x']] w fun e w' => e = .returned (.tuple #[.agg #[.int .i64 1, .bool (g != g'), .string ⟨#[]⟩, .int .i64 0], .int .i64 0]) ∧ Below w.heap.size w w' := by
  have HM1 := Lib.hid M1
  have HM2 := Lib.hid M2
  have HT := Lib.hid (TS.start w (.int .i64 1) (.bool g) (.string S) (.int .i64 x) (.int .i64 0) (.bool g') (.string S') (.int .i64 x'))
  clear M1 M2
  go_enter Tryz.func30, Tryz.ntmps30
  go_wp2_with (first
    | (go_at_call 14; first
      | ((with_reducible refine (HM1.out _).mono ?_); rintro e w1 ⟨rfl, b1⟩; have x1 := HT.out.below b1; have k1 := x1.k8)
      | ((with_reducible refine (HM2.out w1).mono ?_); rintro e w2 ⟨rfl, b2⟩; have x2 := x1.below b2; have k2 := x2.k8; have q2 := x2.res)))
  obtain ⟨o1, o2⟩ := x2.ret (.int .i64 1) (.bool ((g != g'))) (.string ⟨#[]⟩) (.int .i64 0)
  exact bodyPost_ret (res_bk_t rfl _ o1 rfl Tryz.underlying23 rfl (by kernel_rfl)) rfl ⟨rfl, o2⟩
set_option maxHeartbeats 16000000 in
set_option maxRecDepth 100000 in
theorem mulc_zn (g g' : Bool) (S S' : ByteArray) (x x' : Int) (w : World) (e1 : S.toList.isEmpty = true) (e2 : (S.toList == []) = true)
    (M1 : ∀ w1, Calls Tryz.prog 14 #[.agg #[.int .i64 0, .bool g, .string S, .int .i64 x]] w1 fun e w' => e = .returned (.bool true) ∧ Below w1.heap.size w1 w')
    (M2 : ∀ w1, Calls Tryz.prog 14 #[.agg #[.int .i64 2, .bool g', .string S', .int .i64 x']] w1 fun e w' => e = .returned (.bool true) ∧ Below w1.heap.size w1 w') :
    Calls Tryz.prog 30 #[.agg #[.int .i64 0, .bool g, .string S, .int .i64 x], .agg #[.int .i64 2, .bool g', .string S', .int .i64 x']] w fun e w' => e = .returned (.tuple #[.agg #[.int .i64 2, .bool false, .string ⟨#[]⟩, .int .i64 0], .int .i64 0]) ∧ Below w.heap.size w w' := by
  have HM1 := Lib.hid M1
  have HM2 := Lib.hid M2
  have HT := Lib.hid (TS.start w (.int .i64 0) (.bool g) (.string S) (.int .i64 x) (.int .i64 2) (.bool g') (.string S') (.int .i64 x'))
  clear M1 M2
  go_enter Tryz.func30, Tryz.ntmps30
  go_wp2_with (first
    | (go_at_call 14; first
      | ((with_reducible refine (HM1.out _).mono ?_); rintro e w1 ⟨rfl, b1⟩; have x1 := HT.out.below b1; have k1 := x1.k8)
      | ((with_reducible refine (HM2.out w1).mono ?_); rintro e w2 ⟨rfl, b2⟩; have x2 := x1.below b2; have k2 := x2.k8; have q2 := x2.res)))
  obtain ⟨o1, o2⟩ := x2.ret (.int .i64 2) (.bool (false)) (.string ⟨#[]⟩) (.int .i64 0)
  exact bodyPost_ret (res_bk_t rfl _ o1 rfl Tryz.underlying23 rfl (by kernel_rfl)) rfl ⟨rfl, o2⟩
set_option maxHeartbeats 16000000 in
set_option maxRecDepth 100000 in
theorem mulc_zi (g g' : Bool) (S S' : ByteArray) (x x' : Int) (w : World) (e1 : S.toList.isEmpty = true) (e2 : (S.toList == []) = true)
    (M1 : ∀ w1, Calls Tryz.prog 14 #[.agg #[.int .i64 0, .bool g, .string S, .int .i64 x]] w1 fun e w' => e = .returned (.bool true) ∧ Below w1.heap.size w1 w')
    (M2 : ∀ w1, Calls Tryz.prog 14 #[.agg #[.int .i64 1, .bool g', .string S', .int .i64 x']] w1 fun e w' => e = .returned (.bool true) ∧ Below w1.heap.size w1 w') :
    Calls Tryz.prog 30 #[.agg #[.int .i64 0, .bool g, .string S, .int .i64 x], .agg #[.int .i64 1, .bool g', .string S', .int .i64 x']] w fun e w' => e = .returned (.tuple #[.agg #[.int .i64 2, .bool false, .string ⟨#[]⟩, .int .i64 0], .int .i64 0]) ∧ Below w.heap.size w w' := by
  have HM1 := Lib.hid M1
  have HM2 := Lib.hid M2
  have HT := Lib.hid (TS.start w (.int .i64 0) (.bool g) (.string S) (.int .i64 x) (.int .i64 1) (.bool g') (.string S') (.int .i64 x'))
  clear M1 M2
  go_enter Tryz.func30, Tryz.ntmps30
  go_wp2_with (first
    | (go_at_call 14; first
      | ((with_reducible refine (HM1.out _).mono ?_); rintro e w1 ⟨rfl, b1⟩; have x1 := HT.out.below b1; have k1 := x1.k8)
      | ((with_reducible refine (HM2.out w1).mono ?_); rintro e w2 ⟨rfl, b2⟩; have x2 := x1.below b2; have k2 := x2.k8; have q2 := x2.res)))
  obtain ⟨o1, o2⟩ := x2.ret (.int .i64 2) (.bool (false)) (.string ⟨#[]⟩) (.int .i64 0)
  exact bodyPost_ret (res_bk_t rfl _ o1 rfl Tryz.underlying23 rfl (by kernel_rfl)) rfl ⟨rfl, o2⟩
set_option maxHeartbeats 16000000 in
set_option maxRecDepth 100000 in
theorem mulc_zz (g g' : Bool) (S S' : ByteArray) (x x' : Int) (w : World) (e1 : S.toList.isEmpty = true) (e2 : (S.toList == []) = true) (i1 : S'.toList.isEmpty = true) (i2 : (S'.toList == []) = true)
    (M1 : ∀ w1, Calls Tryz.prog 14 #[.agg #[.int .i64 0, .bool g, .string S, .int .i64 x]] w1 fun e w' => e = .returned (.bool true) ∧ Below w1.heap.size w1 w')
    (M2 : ∀ w1, Calls Tryz.prog 14 #[.agg #[.int .i64 0, .bool g', .string S', .int .i64 x']] w1 fun e w' => e = .returned (.bool true) ∧ Below w1.heap.size w1 w') :
    Calls Tryz.prog 30 #[.agg #[.int .i64 0, .bool g, .string S, .int .i64 x], .agg #[.int .i64 0, .bool g', .string S', .int .i64 x']] w fun e w' => e = .returned (.tuple #[.agg #[.int .i64 0, .bool (g != g'), .string ⟨#[]⟩, .int .i64 0], .int .i64 0]) ∧ Below w.heap.size w w' := by
  have HM1 := Lib.hid M1
  have HM2 := Lib.hid M2
  have HT := Lib.hid (TS.start w (.int .i64 0) (.bool g) (.string S) (.int .i64 x) (.int .i64 0) (.bool g') (.string S') (.int .i64 x'))
  clear M1 M2
  go_enter Tryz.func30, Tryz.ntmps30
  go_wp2_with (first
    | (go_at_call 14; first
      | ((with_reducible refine (HM1.out _).mono ?_); rintro e w1 ⟨rfl, b1⟩; have x1 := HT.out.below b1; have k1 := x1.k8)
      | ((with_reducible refine (HM2.out w1).mono ?_); rintro e w2 ⟨rfl, b2⟩; have x2 := x1.below b2; have k2 := x2.k8; have q2 := x2.res)))
  obtain ⟨o1, o2⟩ := x2.ret (.int .i64 0) (.bool ((g != g'))) (.string ⟨#[]⟩) (.int .i64 0)
  exact bodyPost_ret (res_bk_t rfl _ o1 rfl Tryz.underlying23 rfl (by kernel_rfl)) rfl ⟨rfl, o2⟩
set_option maxHeartbeats 16000000 in
set_option maxRecDepth 100000 in
theorem mulc_zp (g g' : Bool) (S S' : ByteArray) (x x' : Int) (w : World) (e1 : S.toList.isEmpty = true) (e2 : (S.toList == []) = true) (i1 : S'.toList.isEmpty = false) (i2 : (S'.toList == []) = false)
    (M1 : ∀ w1, Calls Tryz.prog 14 #[.agg #[.int .i64 0, .bool g, .string S, .int .i64 x]] w1 fun e w' => e = .returned (.bool true) ∧ Below w1.heap.size w1 w')
    (M2 : ∀ w1, Calls Tryz.prog 14 #[.agg #[.int .i64 0, .bool g', .string S', .int .i64 x']] w1 fun e w' => e = .returned (.bool true) ∧ Below w1.heap.size w1 w') :
    Calls Tryz.prog 30 #[.agg #[.int .i64 0, .bool g, .string S, .int .i64 x], .agg #[.int .i64 0, .bool g', .string S', .int .i64 x']] w fun e w' => e = .returned (.tuple #[.agg #[.int .i64 0, .bool (g != g'), .string ⟨#[]⟩, .int .i64 0], .int .i64 0]) ∧ Below w.heap.size w w' := by
  have HM1 := Lib.hid M1
  have HM2 := Lib.hid M2
  have HT := Lib.hid (TS.start w (.int .i64 0) (.bool g) (.string S) (.int .i64 x) (.int .i64 0) (.bool g') (.string S') (.int .i64 x'))
  clear M1 M2
  go_enter Tryz.func30, Tryz.ntmps30
  go_wp2_with (first
    | (go_at_call 14; first
      | ((with_reducible refine (HM1.out _).mono ?_); rintro e w1 ⟨rfl, b1⟩; have x1 := HT.out.below b1; have k1 := x1.k8)
      | ((with_reducible refine (HM2.out w1).mono ?_); rintro e w2 ⟨rfl, b2⟩; have x2 := x1.below b2; have k2 := x2.k8; have q2 := x2.res)))
  obtain ⟨o1, o2⟩ := x2.ret (.int .i64 0) (.bool ((g != g'))) (.string ⟨#[]⟩) (.int .i64 0)
  exact bodyPost_ret (res_bk_t rfl _ o1 rfl Tryz.underlying23 rfl (by kernel_rfl)) rfl ⟨rfl, o2⟩
set_option maxHeartbeats 16000000 in
set_option maxRecDepth 100000 in
theorem mulc_pn (g g' : Bool) (S S' : ByteArray) (x x' : Int) (w : World) (e1 : S.toList.isEmpty = false) (e2 : (S.toList == []) = false)
    (M1 : ∀ w1, Calls Tryz.prog 14 #[.agg #[.int .i64 0, .bool g, .string S, .int .i64 x]] w1 fun e w' => e = .returned (.bool true) ∧ Below w1.heap.size w1 w')
    (M2 : ∀ w1, Calls Tryz.prog 14 #[.agg #[.int .i64 2, .bool g', .string S', .int .i64 x']] w1 fun e w' => e = .returned (.bool true) ∧ Below w1.heap.size w1 w') :
    Calls Tryz.prog 30 #[.agg #[.int .i64 0, .bool g, .string S, .int .i64 x], .agg #[.int .i64 2, .bool g', .string S', .int .i64 x']] w fun e w' => e = .returned (.tuple #[.agg #[.int .i64 2, .bool false, .string ⟨#[]⟩, .int .i64 0], .int .i64 0]) ∧ Below w.heap.size w w' := by
  have HM1 := Lib.hid M1
  have HM2 := Lib.hid M2
  have HT := Lib.hid (TS.start w (.int .i64 0) (.bool g) (.string S) (.int .i64 x) (.int .i64 2) (.bool g') (.string S') (.int .i64 x'))
  clear M1 M2
  go_enter Tryz.func30, Tryz.ntmps30
  go_wp2_with (first
    | (go_at_call 14; first
      | ((with_reducible refine (HM1.out _).mono ?_); rintro e w1 ⟨rfl, b1⟩; have x1 := HT.out.below b1; have k1 := x1.k8)
      | ((with_reducible refine (HM2.out w1).mono ?_); rintro e w2 ⟨rfl, b2⟩; have x2 := x1.below b2; have k2 := x2.k8; have q2 := x2.res)))
  obtain ⟨o1, o2⟩ := x2.ret (.int .i64 2) (.bool (false)) (.string ⟨#[]⟩) (.int .i64 0)
  exact bodyPost_ret (res_bk_t rfl _ o1 rfl Tryz.underlying23 rfl (by kernel_rfl)) rfl ⟨rfl, o2⟩
set_option maxHeartbeats 16000000 in
set_option maxRecDepth 100000 in
theorem mulc_pi (g g' : Bool) (S S' : ByteArray) (x x' : Int) (w : World) (e1 : S.toList.isEmpty = false) (e2 : (S.toList == []) = false)
    (M1 : ∀ w1, Calls Tryz.prog 14 #[.agg #[.int .i64 0, .bool g, .string S, .int .i64 x]] w1 fun e w' => e = .returned (.bool true) ∧ Below w1.heap.size w1 w')
    (M2 : ∀ w1, Calls Tryz.prog 14 #[.agg #[.int .i64 1, .bool g', .string S', .int .i64 x']] w1 fun e w' => e = .returned (.bool true) ∧ Below w1.heap.size w1 w') :
    Calls Tryz.prog 30 #[.agg #[.int .i64 0, .bool g, .string S, .int .i64 x], .agg #[.int .i64 1, .bool g', .string S', .int .i64 x']] w fun e w' => e = .returned (.tuple #[.agg #[.int .i64 1, .bool (g != g'), .string ⟨#[]⟩, .int .i64 0], .int .i64 0]) ∧ Below w.heap.size w w' := by
  have HM1 := Lib.hid M1
  have HM2 := Lib.hid M2
  have HT := Lib.hid (TS.start w (.int .i64 0) (.bool g) (.string S) (.int .i64 x) (.int .i64 1) (.bool g') (.string S') (.int .i64 x'))
  clear M1 M2
  go_enter Tryz.func30, Tryz.ntmps30
  go_wp2_with (first
    | (go_at_call 14; first
      | ((with_reducible refine (HM1.out _).mono ?_); rintro e w1 ⟨rfl, b1⟩; have x1 := HT.out.below b1; have k1 := x1.k8)
      | ((with_reducible refine (HM2.out w1).mono ?_); rintro e w2 ⟨rfl, b2⟩; have x2 := x1.below b2; have k2 := x2.k8; have q2 := x2.res)))
  obtain ⟨o1, o2⟩ := x2.ret (.int .i64 1) (.bool ((g != g'))) (.string ⟨#[]⟩) (.int .i64 0)
  exact bodyPost_ret (res_bk_t rfl _ o1 rfl Tryz.underlying23 rfl (by kernel_rfl)) rfl ⟨rfl, o2⟩
set_option maxHeartbeats 16000000 in
set_option maxRecDepth 100000 in
theorem mulc_pz (g g' : Bool) (S S' : ByteArray) (x x' : Int) (w : World) (e1 : S.toList.isEmpty = false) (e2 : (S.toList == []) = false) (i1 : S'.toList.isEmpty = true) (i2 : (S'.toList == []) = true)
    (M1 : ∀ w1, Calls Tryz.prog 14 #[.agg #[.int .i64 0, .bool g, .string S, .int .i64 x]] w1 fun e w' => e = .returned (.bool true) ∧ Below w1.heap.size w1 w')
    (M2 : ∀ w1, Calls Tryz.prog 14 #[.agg #[.int .i64 0, .bool g', .string S', .int .i64 x']] w1 fun e w' => e = .returned (.bool true) ∧ Below w1.heap.size w1 w') :
    Calls Tryz.prog 30 #[.agg #[.int .i64 0, .bool g, .string S, .int .i64 x], .agg #[.int .i64 0, .bool g', .string S', .int .i64 x']] w fun e w' => e = .returned (.tuple #[.agg #[.int .i64 0, .bool (g != g'), .string ⟨#[]⟩, .int .i64 0], .int .i64 0]) ∧ Below w.heap.size w w' := by
  have HM1 := Lib.hid M1
  have HM2 := Lib.hid M2
  have HT := Lib.hid (TS.start w (.int .i64 0) (.bool g) (.string S) (.int .i64 x) (.int .i64 0) (.bool g') (.string S') (.int .i64 x'))
  clear M1 M2
  go_enter Tryz.func30, Tryz.ntmps30
  go_wp2_with (first
    | (go_at_call 14; first
      | ((with_reducible refine (HM1.out _).mono ?_); rintro e w1 ⟨rfl, b1⟩; have x1 := HT.out.below b1; have k1 := x1.k8)
      | ((with_reducible refine (HM2.out w1).mono ?_); rintro e w2 ⟨rfl, b2⟩; have x2 := x1.below b2; have k2 := x2.k8; have q2 := x2.res)))
  obtain ⟨o1, o2⟩ := x2.ret (.int .i64 0) (.bool ((g != g'))) (.string ⟨#[]⟩) (.int .i64 0)
  exact bodyPost_ret (res_bk_t rfl _ o1 rfl Tryz.underlying23 rfl (by kernel_rfl)) rfl ⟨rfl, o2⟩

/-- what dec.Mul answers -/
def mulV (c : Int) (g : Bool) (l : List UInt8) (x : Int) (c' : Int) (g' : Bool) (l' : List UInt8) (x' : Int) : Array Value × Int :=
  if mayB c g l x = false ∨ mayB c' g' l' x' = false then (dec 0 false [] 0, 52)
  else if c = 2 ∨ c' = 2 ∨ (c = 1 ∧ c' = 0 ∧ l' = []) ∨ (c' = 1 ∧ c = 0 ∧ l = []) then (dec 2 false [] 0, 0)
  else if c = 1 ∨ c' = 1 then (dec 1 (g != g') [] 0, 0)
  else if l = [] ∨ l' = [] then (dec 0 (g != g') [] 0, 0)
  else (oc (g != g') (told (g != g') (nv 0 l * nv 0 l') (x + x')), oe (told (g != g') (nv 0 l * nv 0 l') (x + x')))
theorem mul_calls (c : Int) (g : Bool) (l : List UInt8) (x : Int) (c' : Int) (g' : Bool) (l' : List UInt8) (x' : Int) (w : World) (hp : Pow w) (hl : l.length ≤ 9223372036854775807) (hl' : l'.length ≤ 9223372036854775807) :
    Calls Tryz.prog 30 #[.agg (dec c g l x), .agg (dec c' g' l' x')] w fun e w' => e = .returned (.tuple #[.agg (mulV c g l x c' g' l' x').1, .int .i64 (mulV c g l x c' g' l' x').2]) ∧ Below w.heap.size w w' := by
  have M1 := fun w1 => dmay_calls c g l x w1 hl
  have M2 := fun w1 => dmay_calls c' g' l' x' w1 hl'
  obtain ⟨e1, e2⟩ := emp_iff l
  obtain ⟨i1, i2⟩ := emp_iff l'
  unfold mulV
  by_cases m1 : mayB c g l x = false
  · rw [if_pos (.inl m1)]
    rw [m1] at M1
    exact mulc_m1 c c' g g' ⟨l.toArray⟩ ⟨l'.toArray⟩ x x' w M1
  have m1 : mayB c g l x = true := by simpa using m1
  rw [m1] at M1
  by_cases m2 : mayB c' g' l' x' = false
  · rw [if_pos (.inr m2)]
    rw [m2] at M2
    exact mulc_m2 c c' g g' ⟨l.toArray⟩ ⟨l'.toArray⟩ x x' w M1 M2
  have m2 : mayB c' g' l' x' = true := by simpa using m2
  rw [m2] at M2
  rw [if_neg (by rw [m1, m2]; rintro (h | h) <;> cases h)]
  obtain ⟨k1, _, z1⟩ := may_cls m1
  obtain ⟨k2, _, z2⟩ := may_cls m2
  rcases k1 with rfl | rfl | rfl
  · by_cases hl0 : l = []
    · rw [decide_eq_true hl0] at e1 e2
      rcases k2 with rfl | rfl | rfl
      · by_cases hl1 : l' = []
        · rw [decide_eq_true hl1] at i1 i2
          rw [if_neg (by rintro (h | h | h | h); (omega); (omega); (exact absurd h.1 (by omega)); (exact absurd h.1 (by omega)))]
          rw [if_neg (by rintro (h | h) <;> omega), if_pos (.inl hl0)]
          exact mulc_zz g g' ⟨l.toArray⟩ ⟨l'.toArray⟩ x x' w e1 e2 i1 i2 M1 M2
        · rw [decide_eq_false hl1] at i1 i2
          rw [if_neg (by rintro (h | h | h | h); (omega); (omega); (exact absurd h.1 (by omega)); (exact absurd h.1 (by omega)))]
          rw [if_neg (by rintro (h | h) <;> omega), if_pos (.inl hl0)]
          exact mulc_zp g g' ⟨l.toArray⟩ ⟨l'.toArray⟩ x x' w e1 e2 i1 i2 M1 M2
      · rw [if_pos (.inr (.inr (.inr ⟨rfl, rfl, hl0⟩)))]
        exact mulc_zi g g' ⟨l.toArray⟩ ⟨l'.toArray⟩ x x' w e1 e2 M1 M2
      · rw [if_pos (.inr (.inl rfl))]
        exact mulc_zn g g' ⟨l.toArray⟩ ⟨l'.toArray⟩ x x' w e1 e2 M1 M2
    · rw [decide_eq_false hl0] at e1 e2
      rcases k2 with rfl | rfl | rfl
      · by_cases hl1 : l' = []
        · rw [decide_eq_true hl1] at i1 i2
          rw [if_neg (by rintro (h | h | h | h); (omega); (omega); (exact absurd h.1 (by omega)); (exact absurd h.1 (by omega)))]
          rw [if_neg (by rintro (h | h) <;> omega), if_pos (.inr hl1)]
          exact mulc_pz g g' ⟨l.toArray⟩ ⟨l'.toArray⟩ x x' w e1 e2 i1 i2 M1 M2
        · rw [decide_eq_false hl1] at i1 i2
          rw [if_neg (by rintro (h | h | h | h); (omega); (omega); (exact absurd h.1 (by omega)); (exact absurd h.1 (by omega))), if_neg (by rintro (h | h) <;> omega), if_neg (by rintro (h | h); (exact hl0 h); (exact hl1 h))]
          obtain ⟨_, hF, hf⟩ := may_str m1 hl0
          obtain ⟨_, hF', hf'⟩ := may_str m2 hl1
          exact mul_both g g' l l' x x' w hp hF hF' hf hf'
      · rw [if_neg (by rintro (h | h | h | h); (omega); (omega); (exact absurd h.1 (by omega)); (exact hl0 h.2.2))]
        rw [if_pos (.inr rfl)]
        exact mulc_pi g g' ⟨l.toArray⟩ ⟨l'.toArray⟩ x x' w e1 e2 M1 M2
      · rw [if_pos (.inr (.inl rfl))]
        exact mulc_pn g g' ⟨l.toArray⟩ ⟨l'.toArray⟩ x x' w e1 e2 M1 M2
  · rcases k2 with rfl | rfl | rfl
    · by_cases hl1 : l' = []
      · rw [decide_eq_true hl1] at i1 i2
        rw [if_pos (.inr (.inr (.inl ⟨rfl, rfl, hl1⟩)))]
        exact mulc_iz g g' ⟨l.toArray⟩ ⟨l'.toArray⟩ x x' w i1 i2 M1 M2
      · rw [decide_eq_false hl1] at i1 i2
        rw [if_neg (by rintro (h | h | h | h); (omega); (omega); (exact hl1 h.2.2); (exact absurd h.1 (by omega)))]
        rw [if_pos (.inl rfl)]
        exact mulc_ip g g' ⟨l.toArray⟩ ⟨l'.toArray⟩ x x' w i1 i2 M1 M2
    · rw [if_neg (by rintro (h | h | h | h); (omega); (omega); (exact absurd h.2.1 (by omega)); (exact absurd h.2.1 (by omega)))]
      rw [if_pos (.inl rfl)]
      exact mulc_ii g g' ⟨l.toArray⟩ ⟨l'.toArray⟩ x x' w  M1 M2
    · rw [if_pos (.inr (.inl rfl))]
      exact mulc_in g g' ⟨l.toArray⟩ ⟨l'.toArray⟩ x x' w  M1 M2
  · rcases k2 with rfl | rfl | rfl
    · by_cases hl1 : l' = []
      · rw [decide_eq_true hl1] at i1 i2
        rw [if_pos (.inl rfl)]
        exact mulc_nz g g' ⟨l.toArray⟩ ⟨l'.toArray⟩ x x' w i1 i2 M1 M2
      · rw [decide_eq_false hl1] at i1 i2
        rw [if_pos (.inl rfl)]
        exact mulc_np g g' ⟨l.toArray⟩ ⟨l'.toArray⟩ x x' w i1 i2 M1 M2
    · rw [if_pos (.inl rfl)]
      exact mulc_ni g g' ⟨l.toArray⟩ ⟨l'.toArray⟩ x x' w  M1 M2
    · rw [if_pos (.inl rfl)]
      exact mulc_nn g g' ⟨l.toArray⟩ ⟨l'.toArray⟩ x x' w  M1 M2
end Go.Proofs.YtkanddmihmdagaaGreatDoor.Dc
