/- Texts of one layer, joined: Fh, Fi, Fj, Fk. -/
import Derived.Test.YtfddokfnplehkaaGreatDoorFA
import Derived.Test.YtfddokfnplehkaaGreatDoorHB
import Derived.Test.YtfddokfnplehkaaGreatDoorGF
import Derived.Test.YtfddokfnplehkaaGreatDoorGI
set_option linter.unusedVariables false
set_option linter.unusedSimpArgs false
set_option linter.unusedSectionVars false
/- Layer 4, the document: Bits, rounded. -/
set_option linter.unusedSimpArgs false
set_option linter.unusedVariables false
namespace Go.Proofs.YtfddokfnplehkaaGreatDoor.Nr
open Go.RowKit Go.Proofs.YtfddokfnplehkaaGreatDoor.Dig Go.Proofs.YtfddokfnplehkaaGreatDoor.W Go.Proofs.YtfddokfnplehkaaGreatDoor.Nat Go.Proofs.YtfddokfnplehkaaGreatDoor.Wh Go.Proofs.YtfddokfnplehkaaGreatDoor.Td Go.Proofs.YtfddokfnplehkaaGreatDoor.Bu Go.Proofs.YtfddokfnplehkaaGreatDoor.Tx Go.Proofs.YtfddokfnplehkaaGreatDoor.Sp
open Go.Proofs.YtfddokfnplehkaaGreatDoor.Rf (V V_two V_pos)
open Go.Proofs.YtfddokfnplehkaaGreatDoor.Rd (stand)
open Go.Proofs.YtfddokfnplehkaaGreatDoor.Dc (on)

theorem Bt.len16 {x K : Nat} (h : Bt x K) : (digs V x).length ≤ K := (digs_length_le V_two _ _).2 (Nat.lt_of_lt_of_le h (Nat.pow_le_pow_left (by unfold Rf.V; omega) K))
theorem nbits_half {v : Nat} (h : 0 < v) : nbits v = nbits (v / 2) + 1 := by rw [bits_rec, if_neg (by omega), Nat.add_comm]
set_option maxHeartbeats 4000000 in
set_option maxRecDepth 100000 in
theorem rbits_calls (A : Option Addr) (n c m K : Nat) (w : World) (h : SI w .u32 A n c (digs V m)) (hm : Bt m K) (hK : K ≤ 100000) :
    Calls Tryz.prog 42 #[.slice A n c] w fun e w' => e = .returned (.int .i64 (nbits m : Nat)) ∧ w = w' := by
  have ht := Rf.trim_reads h (digs_lt V_two m)
  rw [val_digs V_two] at ht
  have T := Rf.trim_calls A n c (digs V m) w h
  have hcap := Sl.cap ht
  have hle := Sl.le ht
  have hL := ht.len
  have hmK : trimN (digs V m) n ≤ 100000 := by rw [← hL]; have := hm.len16; omega
  generalize trimN (digs V m) n = k at *
  clear h
  cases k with
  | zero =>
    have ha := (digs_length_eq_zero V_two).1 hL
    subst ha
    rw [bits_zero]
    clear hL
    go_enter Tryz.func42, Tryz.ntmps42
    go_wp2_with (first
      | (go_at_call 47; refine T.mono ?_; rintro e w' ⟨rfl, rfl⟩))
    go_ret
    exact ⟨rfl, rfl⟩
  | succ k =>
    have ha : m ≠ 0 := fun e => by rw [e, digs_zero] at hL; cases hL
    have hb := bits_top (k := 16) (by omega) ha
    have e16 : digs (2 ^ 16) m = digs V m := rfl
    rw [e16, hL, Nat.add_sub_cancel] at hb
    have hr : rd (digs V m) k < V := rd_lt (digs_lt V_two m) V_pos k
    rw [hb]
    obtain ⟨b, o, rfl, h1⟩ := ht.at_ (j := k) (by omega)
    generalize rd (digs V m) k = t at *
    have hr' : t < 65536 := hr
    clear hL hb e16 ha hr hm ht
    have HT := Lib.hid T
    clear T
    go_enter Tryz.func42, Tryz.ntmps42
    go_wp2_with (first
      | (go_at_call 47; refine HT.out.mono ?_; rintro e w' ⟨rfl, rfl⟩))
    go_loopw [3, 4] (fun z y wr => ∃ j v : Nat, z = .int .i64 (j : Nat) ∧ y = .int .u32 (v : Nat) ∧ Hid (j + nbits v = 16 * k + nbits t) ∧ v < 65536 ∧ wr = w) (fun _ y _ => (intOf y).toNat)
    case atStart => exact ⟨16 * k, t, by go_num, rfl, rfl, hr', rfl⟩
    case round =>
      obtain ⟨j, v, rfl, rfl, HJ, hv, rfl⟩ := hrel
      have hj : j ≤ 16 * k + nbits t := by have := HJ.out; omega
      have hq : nbits t ≤ 16 := (bits_le t 16).2 hr'
      by_cases h0 : v = 0
      · subst h0
        have HF := Lib.hid (show j = 16 * k + nbits t by have := HJ.out; rw [bits_zero] at this; omega)
        clear HJ
        go_wp2
        go_ret
        exact ⟨by rw [HF.out]; rfl, rfl⟩
      · have hv0 : 0 < v := by omega
        have HN := Lib.hid (show j + 1 + nbits (v / 2) = 16 * k + nbits t by have := HJ.out; rw [nbits_half hv0] at this; omega)
        have hjj : j < 16 * k + nbits t := by have := HJ.out; rw [nbits_half hv0] at this; omega
        generalize nbits t = q at *
        clear HJ
        go_wp2
        go_roundw
        case rel => exact ⟨j + 1, v / 2, by go_num, by go_num, HN.out, by omega, trivial⟩
        case measure => simp [intOf]; omega
theorem r_shl (A : Option Addr) (n c m k : Nat) (w : World) (h : SI w .u32 A n c (digs V m)) (hn : (digs V m).length ≤ 65536) (hk : k ≤ 65536) :
    Calls Tryz.prog 50 #[.slice A n c, .int .i64 (k : Nat)] w (Gives w .u32 (digs V (m * 2 ^ k))) :=
  (Sh.rshl_e A n c m k w h (by rw [← h.len]; omega) hk).mono fun _ _ h => h.gives
theorem r_cmp (A A' : Option Addr) (n c n' c' x y : Nat) (w : World) (h : SI w .u32 A n c (digs V x)) (h' : SI w .u32 A' n' c' (digs V y)) :
    Calls Tryz.prog 22 #[.slice A n c, .slice A' n' c'] w fun e w' => e = .returned (.int .i64 (stand x y)) ∧ Drawn w w' := by
  have e := Sh.rcmp_d A A' n c n' c' x y w h h'
  rw [Rd.stand_cmp] at e
  exact e
theorem digs_one : digs V 1 = [1] := by
  rw [digs_pos V_two (by omega), show 1 / V = 0 by decide, digs_zero]
  rfl
theorem one16 (w : World) : SI (w.alloc (.cells #[.int .u32 1] 34)) .u32 (some ⟨w.heap.size, 0, none⟩) 1 1 (digs V 1) := by
  rw [digs_one]
  exact Rw.lit1R w _ rfl
/-- two slices of the document's, in a world later on -/
structure R2 (w V1 : World) (A : Option Addr) (n c x : Nat) (A' : Option Addr) (n' c' y : Nat) : Prop where
  a : SI V1 .u32 A n c (digs V x)
  b : SI V1 .u32 A' n' c' (digs V y)
  bl : Below w.heap.size w V1
theorem R2.below {w V1 V' : World} {A A' : Option Addr} {n c x n' c' y : Nat} (h : R2 w V1 A n c x A' n' c' y) (b : Below V1.heap.size V1 V') : R2 w V' A n c x A' n' c' y := ⟨h.a.below b, h.b.below b, on h.bl b⟩
set_option maxHeartbeats 8000000 in
set_option maxRecDepth 100000 in
theorem rounded_calls (A A' : Option Addr) (n c n' c' num den K : Nat) (e : Int) (w : World) (h : SI w .u32 A n c (digs V num)) (h' : SI w .u32 A' n' c' (digs V den)) (hn : Bt num K) (hd : Bt den K) (hK : K ≤ 20000) (hden : 0 < den) (he : -20000 ≤ e) (he' : e ≤ 20000) :
    Calls Tryz.prog 44 #[.slice A n c, .slice A' n' c', .int .i64 e] w (Gives w .u32 (digs V (rhe (num * 2 ^ e.toNat) (den * 2 ^ (-e).toNat)))) := by
  have Z0 := Lib.hid (show R2 w w A n c num A' n' c' den from ⟨h, h', Below.refl _ _⟩)
  obtain ⟨k, hk⟩ : ∃ k : Nat, k = e.natAbs := ⟨_, rfl⟩
  obtain ⟨N, D, bN, bD, hD, hND, hcase⟩ : ∃ N D : Nat, Bt N 40000 ∧ Bt D 40000 ∧ D ≠ 0 ∧ rhe (num * 2 ^ e.toNat) (den * 2 ^ (-e).toNat) = rhe N D ∧ ((e = -(k : Int) ∧ 0 < k ∧ N = num ∧ D = den * 2 ^ k) ∨ (e = (k : Int) ∧ N = num * 2 ^ k ∧ D = den)) := by
    by_cases h0 : e < 0
    · refine ⟨num, den * 2 ^ k, hn.mono (by omega), (hd.shl k).mono (by omega), Nat.ne_of_gt (Nat.mul_pos hden (p2 k)), ?_, .inl ⟨by omega, by omega, rfl, rfl⟩⟩
      rw [show (-e).toNat = k by omega, show e.toNat = 0 by omega, Nat.pow_zero, Nat.mul_one]
    · refine ⟨num * 2 ^ k, den, (hn.shl k).mono (by omega), hd.mono (by omega), by omega, ?_, .inr ⟨by omega, rfl, rfl⟩⟩
      rw [show (-e).toNat = 0 by omega, show e.toNat = k by omega, Nat.pow_zero, Nat.mul_one]
  rw [hND]
  have hR := rhe_cases N D
  have bQ := bN.div D
  have bR := bD.le (Nat.le_of_lt (Nat.mod_lt N (Nat.pos_of_ne_zero hD)))
  have HDM := Lib.hid (fun (A A' : Option Addr) (n c n' c' : Nat) (w1 : World) (h : SI w1 .u32 A n c (digs V N)) (h' : SI w1 .u32 A' n' c' (digs V D)) => Sh.rdiv_e A A' n c n' c' N D w1 h h' (by have := bN.len16; omega) (Nat.pos_of_ne_zero hD))
  obtain ⟨Q, hQ⟩ : ∃ Q, Q = N / D := ⟨_, rfl⟩
  obtain ⟨R, hRr⟩ : ∃ R, R = N % D := ⟨_, rfl⟩
  rw [← hQ, ← hRr] at HDM hR
  rw [← hQ] at bQ
  rw [← hRr] at bR
  have HAR := Lib.hid (fun (A : Option Addr) (n c : Nat) (w1 : World) (h : SI w1 .u32 A n c (digs V R)) => Sh.radd_e A A n c n c R R w1 h h (by have := bR.len16; omega) (by have := bR.len16; omega))
  have HCM := Lib.hid (fun (A A' : Option Addr) (n c n' c' : Nat) (w1 : World) (h : SI w1 .u32 A n c (digs V (R + R))) (h' : SI w1 .u32 A' n' c' (digs V D)) => r_cmp A A' n c n' c' (R + R) D w1 h h')
  have HAQ := Lib.hid (fun (A A' : Option Addr) (n c n' c' : Nat) (w1 : World) (h : SI w1 .u32 A n c (digs V Q)) (h' : SI w1 .u32 A' n' c' (digs V 1)) => Sh.radd_e A A' n c n' c' Q 1 w1 h h' (by have := bQ.len16; omega) (by have := (Bt.one (a := 1) (by omega)).len16; omega))
  obtain ⟨res, hres⟩ : ∃ res, res = rhe N D := ⟨_, rfl⟩
  rw [← hres] at hR ⊢
  obtain ⟨st, hst⟩ : ∃ st, st = stand (R + R) D := ⟨_, rfl⟩
  rw [← hst] at hR HCM
  have HSN := Lib.hid (fun (A : Option Addr) (n c : Nat) (w1 : World) (h : SI w1 .u32 A n c (digs V num)) => r_shl A n c num k w1 h (by have := hn.len16; omega) (by omega))
  have HSD := Lib.hid (fun (A : Option Addr) (n c : Nat) (w1 : World) (h : SI w1 .u32 A n c (digs V den)) => r_shl A n c den k w1 h (by have := hd.len16; omega) (by omega))
  clear hst hres hQ hRr hND bN bD hD bQ bR hn hd h h' hden hk
  rcases hcase with ⟨rfl, hk0, hN, hDd⟩ | ⟨rfl, hN, hDd⟩
  · rw [← hDd] at HSD
    rw [← hN] at Z0
    clear hN hDd HSN
    have hlt := decide_eq_false (show ¬ 0 ≤ -(k : Int) by omega)
    go_enter Tryz.func44, Tryz.ntmps44
    go_upto_region 4 with (go_at_call 50; (with_reducible refine (HSD.out _ _ _ _ Z0.out.b).mono ?_); rintro e w1 ⟨A1, n1, c1, rfl, r1, b1⟩)
    have Z : R2 w w1 A n c N A1 n1 c1 D := ⟨(Z0.out.below b1).a, r1, b1⟩
    clear Z0 r1 b1 hlt
    by_cases hq : Q = 0
    · subst hq
      have HL := Lib.hid (show (digs V 0).length = 0 by rw [digs_zero]; rfl)
      rcases hR with ⟨rfl, hR⟩ | ⟨rfl, hR⟩ | ⟨rfl, hR⟩
      all_goals
        have HRr := Lib.hid hR
        clear hR
        go_wp2_with (first
          | (go_at_call 27; (with_reducible refine (HDM.out _ _ _ _ _ _ _ Z.a Z.b).mono ?_); rintro e w2 ⟨A3, n3, c3, A4, n4, c4, rfl, r3, r4, b2⟩; have Z2 := Z.below b2; obtain rfl : n3 = 0 := r3.len.symm.trans HL.out)
          | (go_at_call 30; first
            | ((with_reducible refine (HAR.out A4 n4 c4 w2 r4).mono ?_); rintro e w3 ⟨A5, n5, c5, rfl, r5, b3⟩; have Z3 := Z2.below b3; have r33 := r3.below b3)
            | ((with_reducible refine (HAQ.out A3 _ _ c3 _ _ _ (r34.below a4) q4).mono ?_); rintro e w6 ⟨A7, n7, c7, rfl, r7, b6⟩; have bl6 := on (on bl4 a4) b6))
          | (go_at_call 22; (with_reducible refine (HCM.out A5 _ n5 c5 _ _ w3 r5 Z3.b).mono ?_); rintro e w4 ⟨rfl, d4⟩; have r34 := r33.below d4.below; have bl4 := on Z3.bl d4.below; have a4 := alloc_below w4 (.cells #[.int .u32 1] 34); have q4 := one16 w4))
        go_ret
        first
          | exact ⟨_, _, _, rfl, by rw [HRr.out]; exact r7, bl6⟩
          | exact ⟨_, _, _, rfl, by rw [HRr.out]; exact r34, bl4⟩
          | exact ⟨_, _, _, rfl, by rw [HRr.out, if_neg (by decide)]; exact r34, bl4⟩
    · have HL := Lib.hid (digs_length_pos V_two hq)
      obtain ⟨od, hod⟩ : ∃ od, od = decide (Q % 2 = 1) := ⟨_, rfl⟩
      have hodd : ((((rd (digs V Q) 0 : Nat) : Int) % 2) == 1) = od := by
        have := Sh.limb_odd (x := Q)
        rw [hod, Bool.eq_iff_iff]
        simp
        omega
      have hite : (if Q % 2 = 1 then Q + 1 else Q) = if od then Q + 1 else Q := by rw [hod]; simp
      rw [hite] at hR
      clear hite hod
      obtain ⟨q0, hq0⟩ : ∃ q0, q0 = rd (digs V Q) 0 := ⟨_, rfl⟩
      rw [← hq0] at hodd
      have HQ0 := Lib.hid hq0
      clear hq0
      have hk : ∀ {V1 V' : World} {b o n c : Nat}, SI V1 .u32 (some ⟨b, o, none⟩) n c (digs V Q) → 0 < n → Below V1.heap.size V1 V' → V'.cell? ⟨b, o, none⟩ = some (.int .u32 (q0 : Nat)) := fun z h bb => by
        have := (z.keepS h bb).2
        rw [HQ0.out]
        exact this
      rcases hR with ⟨rfl, hR⟩ | ⟨rfl, hR⟩ | ⟨rfl, hR⟩ <;> cases od
      all_goals
        have HRr := Lib.hid hR
        clear hR
        go_wp2_with (first
          | (go_at_call 27; (with_reducible refine (HDM.out _ _ _ _ _ _ _ Z.a Z.b).mono ?_); rintro e w2 ⟨A3, n3, c3, A4, n4, c4, rfl, r3, r4, b2⟩; have Z2 := Z.below b2; have h3 : 0 < n3 := (by rw [← r3.len]; exact HL.out); obtain ⟨bq, oq, rfl, _⟩ := r3.at_ (j := 0) h3)
          | (go_at_call 30; first
            | ((with_reducible refine (HAR.out A4 n4 c4 w2 r4).mono ?_); rintro e w3 ⟨A5, n5, c5, rfl, r5, b3⟩; have Z3 := Z2.below b3; have r33 := r3.below b3)
            | ((with_reducible refine (HAQ.out _ _ n3 c3 _ _ _ (r34.below a4) q4).mono ?_); rintro e w6 ⟨A7, n7, c7, rfl, r7, b6⟩; have bl6 := on (on bl4 a4) b6))
          | (go_at_call 22; (with_reducible refine (HCM.out A5 _ n5 c5 _ _ w3 r5 Z3.b).mono ?_); rintro e w4 ⟨rfl, d4⟩; have r34 := r33.below d4.below; have bl4 := on Z3.bl d4.below; have a4 := alloc_below w4 (.cells #[.int .u32 1] 34); have q4 := one16 w4; have kq := hk r33 h3 d4.below))
        go_ret
        first
          | exact ⟨_, _, _, rfl, by rw [HRr.out]; exact r7, bl6⟩
          | exact ⟨_, _, _, rfl, by rw [HRr.out]; exact r34, bl4⟩
          | exact ⟨_, _, _, rfl, by rw [HRr.out, if_pos rfl]; exact r7, bl6⟩
          | exact ⟨_, _, _, rfl, by rw [HRr.out, if_neg (by decide)]; exact r34, bl4⟩
  · rw [← hN] at HSN
    rw [← hDd] at Z0
    clear hN hDd HSD
    have hlt := decide_eq_true (show 0 ≤ (k : Int) by omega)
    go_enter Tryz.func44, Tryz.ntmps44
    go_upto_region 4 with (go_at_call 50; (with_reducible refine (HSN.out _ _ _ _ Z0.out.a).mono ?_); rintro e w1 ⟨A1, n1, c1, rfl, r1, b1⟩)
    have Z : R2 w w1 A1 n1 c1 N A' n' c' D := ⟨r1, (Z0.out.below b1).b, b1⟩
    clear Z0 r1 b1 hlt
    by_cases hq : Q = 0
    · subst hq
      have HL := Lib.hid (show (digs V 0).length = 0 by rw [digs_zero]; rfl)
      rcases hR with ⟨rfl, hR⟩ | ⟨rfl, hR⟩ | ⟨rfl, hR⟩
      all_goals
        have HRr := Lib.hid hR
        clear hR
        go_wp2_with (first
          | (go_at_call 27; (with_reducible refine (HDM.out _ _ _ _ _ _ _ Z.a Z.b).mono ?_); rintro e w2 ⟨A3, n3, c3, A4, n4, c4, rfl, r3, r4, b2⟩; have Z2 := Z.below b2; obtain rfl : n3 = 0 := r3.len.symm.trans HL.out)
          | (go_at_call 30; first
            | ((with_reducible refine (HAR.out A4 n4 c4 w2 r4).mono ?_); rintro e w3 ⟨A5, n5, c5, rfl, r5, b3⟩; have Z3 := Z2.below b3; have r33 := r3.below b3)
            | ((with_reducible refine (HAQ.out A3 _ _ c3 _ _ _ (r34.below a4) q4).mono ?_); rintro e w6 ⟨A7, n7, c7, rfl, r7, b6⟩; have bl6 := on (on bl4 a4) b6))
          | (go_at_call 22; (with_reducible refine (HCM.out A5 _ n5 c5 _ _ w3 r5 Z3.b).mono ?_); rintro e w4 ⟨rfl, d4⟩; have r34 := r33.below d4.below; have bl4 := on Z3.bl d4.below; have a4 := alloc_below w4 (.cells #[.int .u32 1] 34); have q4 := one16 w4))
        go_ret
        first
          | exact ⟨_, _, _, rfl, by rw [HRr.out]; exact r7, bl6⟩
          | exact ⟨_, _, _, rfl, by rw [HRr.out]; exact r34, bl4⟩
          | exact ⟨_, _, _, rfl, by rw [HRr.out, if_neg (by decide)]; exact r34, bl4⟩
    · have HL := Lib.hid (digs_length_pos V_two hq)
      obtain ⟨od, hod⟩ : ∃ od, od = decide (Q % 2 = 1) := ⟨_, rfl⟩
      have hodd : ((((rd (digs V Q) 0 : Nat) : Int) % 2) == 1) = od := by
        have := Sh.limb_odd (x := Q)
        rw [hod, Bool.eq_iff_iff]
        simp
        omega
      have hite : (if Q % 2 = 1 then Q + 1 else Q) = if od then Q + 1 else Q := by rw [hod]; simp
      rw [hite] at hR
      clear hite hod
      obtain ⟨q0, hq0⟩ : ∃ q0, q0 = rd (digs V Q) 0 := ⟨_, rfl⟩
      rw [← hq0] at hodd
      have HQ0 := Lib.hid hq0
      clear hq0
      have hk : ∀ {V1 V' : World} {b o n c : Nat}, SI V1 .u32 (some ⟨b, o, none⟩) n c (digs V Q) → 0 < n → Below V1.heap.size V1 V' → V'.cell? ⟨b, o, none⟩ = some (.int .u32 (q0 : Nat)) := fun z h bb => by
        have := (z.keepS h bb).2
        rw [HQ0.out]
        exact this
      rcases hR with ⟨rfl, hR⟩ | ⟨rfl, hR⟩ | ⟨rfl, hR⟩ <;> cases od
      all_goals
        have HRr := Lib.hid hR
        clear hR
        go_wp2_with (first
          | (go_at_call 27; (with_reducible refine (HDM.out _ _ _ _ _ _ _ Z.a Z.b).mono ?_); rintro e w2 ⟨A3, n3, c3, A4, n4, c4, rfl, r3, r4, b2⟩; have Z2 := Z.below b2; have h3 : 0 < n3 := (by rw [← r3.len]; exact HL.out); obtain ⟨bq, oq, rfl, _⟩ := r3.at_ (j := 0) h3)
          | (go_at_call 30; first
            | ((with_reducible refine (HAR.out A4 n4 c4 w2 r4).mono ?_); rintro e w3 ⟨A5, n5, c5, rfl, r5, b3⟩; have Z3 := Z2.below b3; have r33 := r3.below b3)
            | ((with_reducible refine (HAQ.out _ _ n3 c3 _ _ _ (r34.below a4) q4).mono ?_); rintro e w6 ⟨A7, n7, c7, rfl, r7, b6⟩; have bl6 := on (on bl4 a4) b6))
          | (go_at_call 22; (with_reducible refine (HCM.out A5 _ n5 c5 _ _ w3 r5 Z3.b).mono ?_); rintro e w4 ⟨rfl, d4⟩; have r34 := r33.below d4.below; have bl4 := on Z3.bl d4.below; have a4 := alloc_below w4 (.cells #[.int .u32 1] 34); have q4 := one16 w4; have kq := hk r33 h3 d4.below))
        go_ret
        first
          | exact ⟨_, _, _, rfl, by rw [HRr.out]; exact r7, bl6⟩
          | exact ⟨_, _, _, rfl, by rw [HRr.out]; exact r34, bl4⟩
          | exact ⟨_, _, _, rfl, by rw [HRr.out, if_pos rfl]; exact r7, bl6⟩
          | exact ⟨_, _, _, rfl, by rw [HRr.out, if_neg (by decide)]; exact r34, bl4⟩
end Go.Proofs.YtfddokfnplehkaaGreatDoor.Nr

/- Layer 4, the document: To. -/
set_option linter.unusedSimpArgs false
set_option linter.unusedVariables false
namespace Go.Proofs.YtfddokfnplehkaaGreatDoor.Nr
open Go.RowKit Go.Proofs.YtfddokfnplehkaaGreatDoor.Dig Go.Proofs.YtfddokfnplehkaaGreatDoor.W Go.Proofs.YtfddokfnplehkaaGreatDoor.Nat Go.Proofs.YtfddokfnplehkaaGreatDoor.Wh Go.Proofs.YtfddokfnplehkaaGreatDoor.Td Go.Proofs.YtfddokfnplehkaaGreatDoor.Bu Go.Proofs.YtfddokfnplehkaaGreatDoor.Tx Go.Proofs.YtfddokfnplehkaaGreatDoor.Sp
open Go.Proofs.YtfddokfnplehkaaGreatDoor.Rf (V V_two V_pos)
open Go.Proofs.YtfddokfnplehkaaGreatDoor.Rd (stand Formed fits mayB)
open Go.Proofs.YtfddokfnplehkaaGreatDoor.Dc (on bk_two four dec str)

theorem rhe_next {M n d j : Nat} (hd : 0 < d) (h : 2 ^ (M + 1) ≤ rhe n (d * 2 ^ j)) : 2 ^ M ≤ rhe n (d * 2 ^ (j + 1)) := by
  have hdk : 0 < d * 2 ^ j := Nat.mul_pos hd (p2 j)
  have c := rhe_le hdk h
  have e0 : d * 2 ^ (j + 1) = 2 * (d * 2 ^ j) := by rw [Nat.pow_succ, ← Nat.mul_assoc, Nat.mul_comm]
  have u1 := (rhe_bounds n (d := d * 2 ^ (j + 1)) (Nat.mul_pos hd (p2 _))).1.1
  rw [e0] at u1 ⊢
  generalize rhe n (2 * (d * 2 ^ j)) = m at *
  generalize d * 2 ^ j = D at *
  rcases Nat.lt_or_ge m (2 ^ M) with h1 | h1
  · exfalso
    rw [Nat.pow_succ] at c
    have h2 : (m + 1) * (2 * D) ≤ 2 ^ M * (2 * D) := Nat.mul_le_mul_right _ h1
    have e3 : 2 * (2 ^ M * 2) * D = 2 * (2 ^ M * (2 * D)) := by rw [Nat.mul_assoc, Nat.mul_assoc]
    rw [Nat.add_mul, Nat.one_mul] at h2
    rw [Nat.add_mul, Nat.mul_assoc, Nat.one_mul] at u1
    omega
  · exact h1
theorem rof_d {l : List UInt8} (hd : ∀ c ∈ l, isDig c) (hl : l.length ≤ 8000) (w : World) : Calls Tryz.prog 24 #[.string ⟨l.toArray⟩] w (Gives w .u32 (digs V (nv 0 l))) := by
  have e := Rw.rof_calls ⟨l.toArray⟩ (by rw [Dc.size_of]; omega) hd w
  exact e.mono fun _ _ h => h.gives
/-- the boxes of a kind and of a Dec -/
structure KD (w V1 : World) (M X c : Int) (g : Bool) (S : ByteArray) (x : Int) : Prop where
  a : Bk V1 w.heap.size 32 #[.int .i64 M, .int .i64 X]
  b : Bk V1 (w.heap.size + 1) 23 #[.int .i64 c, .bool g, .string S, .int .i64 x]
  bl : Below w.heap.size w V1
section
variable {w V1 V' : World} {M X c : Int} {g : Bool} {S : ByteArray} {x : Int}
theorem KD.start (w : World) (M X c : Int) (g : Bool) (S : ByteArray) (x : Int) : KD w ((w.alloc (.cells #[.int .i64 M, .int .i64 X] 32)).alloc (.cells #[.int .i64 c, .bool g, .string S, .int .i64 x] 23)) M X c g S x := by
  obtain ⟨h1, h2, h3⟩ := bk_two w #[.int .i64 M, .int .i64 X] #[.int .i64 c, .bool g, .string S, .int .i64 x] 32 23
  exact ⟨h1, h2, h3⟩
theorem KD.below (h : KD w V1 M X c g S x) (b : Below V1.heap.size V1 V') : KD w V' M X c g S x := ⟨h.a.below b, h.b.below b, on h.bl b⟩
theorem KD.drew (h : KD w V1 M X c g S x) : KD w V1.drew M X c g S x := h.below (Below.refl _ _).drew
theorem KD.keep (h : KD w V1 M X c g S x) : V1.cell? ⟨w.heap.size, 0, none⟩ = some (.int .i64 M) ∧ V1.cell? ⟨w.heap.size, 1, none⟩ = some (.int .i64 X) ∧ V1.cell? ⟨w.heap.size + 1, 0, none⟩ = some (.int .i64 c) ∧ V1.cell? ⟨w.heap.size + 1, 1, none⟩ = some (.bool g) ∧ V1.cell? ⟨w.heap.size + 1, 2, none⟩ = some (.string S) ∧ V1.cell? ⟨w.heap.size + 1, 3, none⟩ = some (.int .i64 x) :=
  ⟨h.a.at_ 0 rfl, h.a.at_ 1 rfl, h.b.at_ 0 rfl, h.b.at_ 1 rfl, h.b.at_ 2 rfl, h.b.at_ 3 rfl⟩
end
/-- and the numbers -/
structure RT (w V1 : World) (M X c : Int) (g : Bool) (S : ByteArray) (x : Int) (A : Option Addr) (n c1 N : Nat) (A' : Option Addr) (n' c' D : Nat) : Prop where
  z : KD w V1 M X c g S x
  a : SI V1 .u32 A n c1 (digs V N)
  b : SI V1 .u32 A' n' c' (digs V D)
section
variable {w V1 V' : World} {M X c : Int} {g : Bool} {S : ByteArray} {x : Int} {A : Option Addr} {n c1 N : Nat} {A' : Option Addr} {n' c' D : Nat}
theorem RT.below (h : RT w V1 M X c g S x A n c1 N A' n' c' D) (b : Below V1.heap.size V1 V') : RT w V' M X c g S x A n c1 N A' n' c' D := ⟨h.z.below b, h.a.below b, h.b.below b⟩
theorem RT.keep (h : RT w V1 M X c g S x A n c1 N A' n' c' D) : V1.cell? ⟨w.heap.size, 0, none⟩ = some (.int .i64 M) ∧ V1.cell? ⟨w.heap.size, 1, none⟩ = some (.int .i64 X) := ⟨h.z.a.at_ 0 rfl, h.z.a.at_ 1 rfl⟩
theorem RT.drew (h : RT w V1 M X c g S x A n c1 N A' n' c' D) : RT w V1.drew M X c g S x A n c1 N A' n' c' D := h.below (Below.refl _ _).drew
end
/-- where the search stands: exponent k - 1074 -/
def BJ_w (R : Nat → Nat) (z v : Value) (k : Nat) (A1 : Option Addr) (n1 c1 : Nat) (wr : World) : Prop :=
  z = .int .i64 ((k : Int) - 1074) ∧ v = .slice A1 n1 c1 ∧ SI wr .u32 A1 n1 c1 (digs V (R k)) ∧ (k = 0 ∨ 2 ^ (52 + 1) ≤ R (k - 1)) ∧ k ≤ 8000 + 1074
set_option maxHeartbeats 8000000 in
set_option maxRecDepth 100000 in
theorem rto_odd_w (c : Int) (g : Bool) (S : ByteArray) (x : Int) (w : World) (hc : c = 2 ∨ c = 1 ∨ (c = 0 ∧ S.toList.isEmpty = true ∧ (S.toList == []) = true)) :
    Calls Tryz.prog 14 #[.agg #[.int .i64 52, .int .i64 11], .agg #[.int .i64 c, .bool g, .string S, .int .i64 x]] w fun e w' => e = .returned (.int .u64 ((if c = 2 then 9221120237041090561 else if c = 1 then sg_w g ||| 9218868437227405312 else sg_w g : Nat) : Int)) ∧ Below w.heap.size w w' := by
  have HB := Lib.hid (KD.start w 52 11 c g S x)
  have e1 : Go.bits .or .u64 0 9218868437227405312 = 9218868437227405312 := by decide
  have e2 : Go.bits .or .u64 9223372036854775808 9218868437227405312 = ((9223372036854775808 ||| 9218868437227405312 : Nat) : Int) := by decide
  rcases hc with rfl | rfl | ⟨rfl, i1, i2⟩ <;> cases g
  all_goals
    go_enter Tryz.func14, Tryz.ntmps14
    go_wp2
    go_quiet (fail)
    have z1 := HB.out.below (drewN_below _ nq)
    generalize ((w.alloc (.cells #[.int .i64 52, .int .i64 11] 32)).alloc (.cells #[.int .i64 _, .bool _, .string S, .int .i64 x] 23)).drewN nq = Y at *
    have k1 := z1.keep
    go_wp2
    go_ret
    exact ⟨rfl, z1.bl⟩
/-- where the search stands: exponent k - 149 -/
def BJ_n (R : Nat → Nat) (z v : Value) (k : Nat) (A1 : Option Addr) (n1 c1 : Nat) (wr : World) : Prop :=
  z = .int .i64 ((k : Int) - 149) ∧ v = .slice A1 n1 c1 ∧ SI wr .u32 A1 n1 c1 (digs V (R k)) ∧ (k = 0 ∨ 2 ^ (23 + 1) ≤ R (k - 1)) ∧ k ≤ 8000 + 149
set_option maxHeartbeats 8000000 in
set_option maxRecDepth 100000 in
theorem rto_odd_n (c : Int) (g : Bool) (S : ByteArray) (x : Int) (w : World) (hc : c = 2 ∨ c = 1 ∨ (c = 0 ∧ S.toList.isEmpty = true ∧ (S.toList == []) = true)) :
    Calls Tryz.prog 14 #[.agg #[.int .i64 23, .int .i64 8], .agg #[.int .i64 c, .bool g, .string S, .int .i64 x]] w fun e w' => e = .returned (.int .u64 ((if c = 2 then 2143289345 else if c = 1 then sg_n g ||| 2139095040 else sg_n g : Nat) : Int)) ∧ Below w.heap.size w w' := by
  have HB := Lib.hid (KD.start w 23 8 c g S x)
  have e1 : Go.bits .or .u64 0 2139095040 = 2139095040 := by decide
  have e2 : Go.bits .or .u64 2147483648 2139095040 = ((2147483648 ||| 2139095040 : Nat) : Int) := by decide
  rcases hc with rfl | rfl | ⟨rfl, i1, i2⟩ <;> cases g
  all_goals
    go_enter Tryz.func14, Tryz.ntmps14
    go_wp2
    go_quiet (fail)
    have z1 := HB.out.below (drewN_below _ nq)
    generalize ((w.alloc (.cells #[.int .i64 23, .int .i64 8] 32)).alloc (.cells #[.int .i64 _, .bool _, .string S, .int .i64 x] 23)).drewN nq = Y at *
    have k1 := z1.keep
    go_wp2
    go_ret
    exact ⟨rfl, z1.bl⟩
end Go.Proofs.YtfddokfnplehkaaGreatDoor.Nr

/- Layer 4, the document: To, walked case by case. -/
set_option linter.unusedSimpArgs false
set_option linter.unusedVariables false
namespace Go.Proofs.YtfddokfnplehkaaGreatDoor.Nr
open Go.RowKit Go.Proofs.YtfddokfnplehkaaGreatDoor.Dig Go.Proofs.YtfddokfnplehkaaGreatDoor.W Go.Proofs.YtfddokfnplehkaaGreatDoor.Nat Go.Proofs.YtfddokfnplehkaaGreatDoor.Wh Go.Proofs.YtfddokfnplehkaaGreatDoor.Td Go.Proofs.YtfddokfnplehkaaGreatDoor.Bu Go.Proofs.YtfddokfnplehkaaGreatDoor.Tx Go.Proofs.YtfddokfnplehkaaGreatDoor.Sp
open Go.Proofs.YtfddokfnplehkaaGreatDoor.Rf (V V_two V_pos)
open Go.Proofs.YtfddokfnplehkaaGreatDoor.Rd (stand Formed fits mayB)
open Go.Proofs.YtfddokfnplehkaaGreatDoor.Dc (on bk_two four dec str)

theorem first_cell {V1 V' : World} {b o c m : Nat} {l : List Nat} (h : SI V1 .u64 (some ⟨b, o, none⟩) 1 c l) (hr : rd l 0 = m) (hb : Below V1.heap.size V1 V') : V'.cell? ⟨b, o, none⟩ = some (.int .u64 (m : Nat)) := by
  have := (h.keepS Nat.one_pos hb).2
  rw [hr] at this
  exact this
set_option maxHeartbeats 16000000 in
set_option maxRecDepth 100000 in
theorem rto_pf0_w (S : ByteArray) (k L P N D bn bd k0 b : Nat) (R : Nat → Nat) (w : World) (hk : k ≤ 3000) (hbn : bn ≤ 8000) (hbd : bd ≤ 11000) (i1 : S.toList.isEmpty = false) (i2 : (S.toList == []) = false)
    (HOf : ∀ w1, Calls Tryz.prog 24 #[.string S] w1 (Gives w1 .u32 (digs V L)))
    (HPw : ∀ (y : Int), y = (k : Nat) → ∀ w1, Calls Tryz.prog 25 #[.int .i64 10, .int .i64 y] w1 (Gives w1 .u32 (digs V P)))
    (HMu : ∀ (A A' : Option Addr) (n c n' c' : Nat) (w1 : World), SI w1 .u32 A n c (digs V L) → SI w1 .u32 A' n' c' (digs V P) → Calls Tryz.prog 23 #[.slice A n c, .slice A' n' c'] w1 (Gives w1 .u32 (digs V N)))
    (HN : ∀ (A : Option Addr) (n c : Nat) (V1 : World), SI V1 .u32 A n c (digs V N) → Calls Tryz.prog 42 #[.slice A n c] V1 fun e w' => e = .returned (.int .i64 (bn : Nat)) ∧ V1 = w')
    (HD : ∀ (A : Option Addr) (n c : Nat) (V1 : World), SI V1 .u32 A n c (digs V 1) → Calls Tryz.prog 42 #[.slice A n c] V1 fun e w' => e = .returned (.int .i64 (bd : Nat)) ∧ V1 = w')
    (HRo : ∀ (A A' : Option Addr) (n c n' c' : Nat) (V1 : World), SI V1 .u32 A n c (digs V N) → SI V1 .u32 A' n' c' (digs V 1) → ∀ (j : Nat) (y : Int), y = 1074 - (j : Int) → j ≤ 9000 + 1074 → Calls Tryz.prog 44 #[.slice A n c, .slice A' n' c', .int .i64 y] V1 (Gives V1 .u32 (digs V (R j))))
    (HST : ∀ j, 2 ^ (52 + 1) ≤ R j → j < 8000 + 1074) (HNO : ∀ j, R j < 2 ^ (52 + 1) → (j = 0 ∨ 2 ^ (52 + 1) ≤ R (j - 1)) → b = j * 2 ^ 52 + R j) (HNX : ∀ j, (j = 0 ∨ 2 ^ (52 + 1) ≤ R (j - 1)) → j = 0 ∨ 2 ^ 52 ≤ R j)
    (HXB : ∀ (j : Nat) (V1 : World) (A : Option Addr) (n c : Nat), SI V1 .u32 A n c (digs V (R j)) → Calls Tryz.prog 42 #[.slice A n c] V1 fun e w' => e = .returned (.int .i64 (nbits (R j) : Nat)) ∧ V1 = w')
    (HOu : ∀ (j : Nat) (V1 : World) (A : Option Addr) (n c : Nat), SI V1 .u32 A n c (digs V (R j)) → Calls Tryz.prog 45 #[.slice A n c] V1 (GivesOwn V1 24 .u64 (digs U (R j))))
    (hlt : (bn : Int) - bd - 52 - 2 < -1074) (hk1 : k0 ≤ 8000 + 1074) (hk0 : (k0 : Int) - 1074 = -1074) (HS : k0 = 0 ∨ 2 ^ (52 + 1) ≤ R (k0 - 1)) :
    Calls Tryz.prog 14 #[.agg #[.int .i64 52, .int .i64 11], .agg #[.int .i64 0, .bool false, .string S, .int .i64 (k : Nat)]] w fun e w' => e = .returned (.int .u64 ((sg_w false ||| min b 9218868437227405312 : Nat) : Int)) ∧ Below w.heap.size w w' := by
  have HB := Lib.hid (KD.start w 52 11 0 false S (k : Nat))
  have S1 := Lib.hid (show IntKind.i64.wrap ((bn : Int) - bd) = (bn : Int) - bd from IntWalk.i64_in _ (by omega))
  have S2 := Lib.hid (show IntKind.i64.wrap ((bn : Int) - bd - 52) = (bn : Int) - bd - 52 from IntWalk.i64_in _ (by omega))
  have S3 := Lib.hid (show IntKind.i64.wrap ((bn : Int) - bd - 52 - 2) = (bn : Int) - bd - 52 - 2 from IntWalk.i64_in _ (by omega))
  have HO := Lib.hid (Sh.or_nat (sg_w false) (min b 9218868437227405312) (sg_lt_w false) (by omega))
  have hx1 := decide_eq_true (show (0 : Int) ≤ (k : Int) by omega)
  replace HOf := Lib.hid HOf
  replace HPw := Lib.hid HPw
  replace HMu := Lib.hid HMu
  replace HN := Lib.hid HN
  replace HD := Lib.hid HD
  replace HRo := Lib.hid HRo
  replace HST := Lib.hid HST
  replace HNO := Lib.hid HNO
  replace HNX := Lib.hid HNX
  replace HXB := Lib.hid HXB
  replace HOu := Lib.hid HOu
  replace HS := Lib.hid HS
  obtain rfl : k0 = 0 := by omega
  clear hk0
  go_enter Tryz.func14, Tryz.ntmps14
  go_wp2
  go_quiet (fail)
  have z1 := HB.out.below (drewN_below _ nq)
  generalize World.drewN _ nq = Y at *
  have k1 := z1.keep
  go_upto_region 15 with (first
    | (go_at_call 24; (with_reducible refine (HOf.out _).mono ?_); rintro e w1 ⟨A1, n1, c1, rfl, r1, b1⟩; have a1 := alloc_below w1 (.cells #[.int .u32 1] 34); have z2 := (z1.below b1).below a1; have k2 := z2.keep; have q1 := one16 w1; have r11 := r1.below a1)
    | (go_at_call 25; (with_reducible refine (HPw.out _ ?_ _).mono ?_); (first | rfl | omega); rintro e w2 ⟨A2, n2, c2, rfl, r2, b2⟩; have z3 := z2.below b2; have r12 := r11.below b2; have q2 := q1.below b2)
    | (go_at_call 23; (with_reducible refine (HMu.out A1 A2 n1 c1 n2 c2 w2 r12 r2).mono ?_); rintro e w3 ⟨A3, n3, c3, rfl, r3, b3⟩))
  have Z : RT w w3 52 11 0 false S (k : Nat) A3 n3 c3 N (some ⟨w1.heap.size, 0, none⟩) 1 1 1 := ⟨z3.below b3, r3, q2.below b3⟩
  clear r1 r2 r3 r11 r12 q1 q2 b1 b2 b3 a1 z2 z3 k2
  have y0 := Z.drew
  clear Z z1 k1 HB HOf HPw HMu
  go_region_held3 (fun w' => w'.cell? ⟨w.heap.size, 0, none⟩ = some (.int .i64 52) ∧ w'.cell? ⟨w.heap.size, 1, none⟩ = some (.int .i64 11))
    (first | (with_reducible exact y0.keep))
    (first
      | (go_at_call 42; first
        | ((with_reducible refine (HN.out _ _ _ _ y0.a).mono ?_); rintro e u0 ⟨rfl, rfl⟩)
        | ((with_reducible refine (HD.out _ _ _ _ y0.b).mono ?_); rintro e u0 ⟨rfl, rfl⟩)))
  all_goals
    rw [S1.out, S2.out, S3.out]
    have ky := y0.keep
    clear S1 S2 S3 HN HD
    have e3 := decide_eq_true (show (bn : Int) - bd - 52 - 2 < -1074 by omega)
    clear hlt
    go_wp2_with (first
      | (go_at_call 43; first
        | ((with_reducible refine (Sh.bias_w _).mono ?_); have tag := y1; rintro e v2 ⟨rfl, bb2⟩; have y2 := y1.below bb2; have k2 := y2.keep)
        | ((with_reducible refine (Sh.bias_w _).mono ?_); rintro e v1 ⟨rfl, bb1⟩; have y1 := y0.below bb1; have k1 := y1.keep))
      | (go_at_call 44; (with_reducible refine (HRo.out _ _ _ _ _ _ _ y2.a y2.b 0 _ ?_ ?_).mono ?_); (first | rfl | omega); (omega); rintro e v3 ⟨A6, n6, c6, rfl, r6, b6⟩; have y3 := y2.below b6))
    go_loopw [9, 10] (fun z v wr => ∃ (j : Nat) (A7 : Option Addr) (n7 c7 : Nat), BJ_w R z v j A7 n7 c7 wr ∧ RT w wr 52 11 0 false S (k : Nat) A3 n3 c3 N (some ⟨w1.heap.size, 0, none⟩) 1 1 1) (fun z _ _ => (8001 - intOf z).toNat)
    case atStart => exact ⟨0, A6, n6, c6, ⟨congrArg (Value.int .i64) (by omega), rfl, r6, .inl rfl, hk1⟩, y3⟩
    case round =>
      obtain ⟨j, A7, n7, c7, ⟨rfl, rfl, r7, hs, hj⟩, z7⟩ := hrel
      clear ky y0 y1 y3 r6 b6 hk1 HS y2 bb1 bb2
      have d7 := z7.drew
      have kk := z7.keep
      have m7 := HXB.out j _ A7 n7 c7 (r7.below (Below.refl _ _).drew)
      by_cases hm : 2 ^ (52 + 1) ≤ R j
      · have hlt := HST.out j hm
        have e7 := decide_eq_true (show (52 : Int) + 1 < (nbits (R j) : Int) from bits_big.2 hm)
        rw [show (52 : Int) + 1 = (53 : Int) by decide, show (53 : Int) = IntKind.i64.wrap 53 by decide] at e7
        have HM := Lib.hid hm
        clear HNO HOu HNX hm
        generalize hnb : nbits (R j) = nb at *
        clear hnb
        have M7 := Lib.hid m7
        clear m7
        go_wp2
        clear kk
        go_region_held3 (fun w' => w'.cell? ⟨w.heap.size, 0, none⟩ = some (.int .i64 52) ∧ w'.cell? ⟨w.heap.size, 1, none⟩ = some (.int .i64 11))
          (first | (with_reducible exact d7.keep))
          (first | (go_at_call 42; (with_reducible refine M7.out.mono ?_); rintro e u0 ⟨rfl, rfl⟩))
        all_goals
          have k8 := d7.keep
          go_wp2_with (go_at_call 44; (with_reducible refine (HRo.out _ _ _ _ _ _ _ d7.a d7.b (j + 1) _ ?_ ?_).mono ?_); (omega); (omega); rintro e v8 ⟨A8, n8, c8, rfl, r8, b8⟩; have z8 := d7.below b8)
          go_roundw
          case rel => exact ⟨j + 1, A8, n8, c8, ⟨congrArg (Value.int .i64) (by omega), rfl, r8, .inr HM.out, by omega⟩, z8⟩
          case measure => simp [intOf]; omega
      · have hm' := Nat.lt_of_not_le hm
        have e7 := decide_eq_false (show ¬ (52 : Int) + 1 < (nbits (R j) : Int) from fun q => hm (bits_big.1 q))
        rw [show (52 : Int) + 1 = (53 : Int) by decide, show (53 : Int) = IntKind.i64.wrap 53 by decide] at e7
        have hB := HNO.out j hm' hs
        have hX := HNX.out j hs
        have HO8 := Lib.hid (fun (V1 : World) (z : SI V1 .u32 A7 n7 c7 (digs V (R j))) => HOu.out j V1 A7 n7 c7 z)
        clear HNO HOu HNX HST HRo HXB hm hs
        generalize hnb : nbits (R j) = nb at *
        generalize R j = m at *
        clear hnb
        simp only [Nat.reducePow, Nat.reduceAdd] at hB hX hm'
        have M7 := Lib.hid m7
        have HBB := Lib.hid hB
        clear m7 hB
        go_wp2
        clear kk
        go_region_held3 (fun w' => w'.cell? ⟨w.heap.size, 0, none⟩ = some (.int .i64 52) ∧ w'.cell? ⟨w.heap.size, 1, none⟩ = some (.int .i64 11))
          (first | (with_reducible exact d7.keep))
          (first | (go_at_call 42; (with_reducible refine M7.out.mono ?_); rintro e u0 ⟨rfl, rfl⟩))
        all_goals
          have k8 := d7.keep
          have r77 := r7.below (Below.refl wr.heap.size wr).drew
          clear M7 e7
          by_cases h0 : m = 0
          · subst h0
            have HJ := Lib.hid (show j = 0 by omega)
            have HL := Lib.hid (show (digs U 0).length = 0 by rw [digs_zero]; rfl)
            clear hX
            go_wp2_with (go_at_call 45; (with_reducible refine (HO8.out _ r77).mono ?_); rintro e v8 ⟨v9, rfl, o8, b8⟩; obtain ⟨A8, n8, c8, rfl, r8⟩ := o8.reads_n; obtain rfl : n8 = 0 := r8.len.symm.trans HL.out; have z8 := d7.below b8)
            go_ret
            have hB := HBB.out
            have hJ := HJ.out
            refine ⟨congrArg (fun z => Ending.returned (Value.int .u64 z)) ?_, z8.z.bl⟩
            rw [show b = 0 by omega]
            decide
          · have HL := Lib.hid (show (digs U m).length = 1 by rw [Dig.digs_one U_two (show m < U by unfold U; omega) h0]; rfl)
            have HR := Lib.hid (show rd (digs U m) 0 = m by rw [Dig.digs_one U_two (show m < U by unfold U; omega) h0]; rfl)
            clear hX
            by_cases hE : 2047 ≤ j
            · have e8 := decide_eq_true (show (2047 : Int) ≤ (j : Int) by omega)
              go_wp2_with (first
                | (go_at_call 45; (with_reducible refine (HO8.out _ r77).mono ?_); rintro e v8 ⟨v9, rfl, o8, b8⟩; obtain ⟨A8, n8, c8, rfl, r8⟩ := o8.reads_n; obtain rfl : n8 = 1 := r8.len.symm.trans HL.out; obtain ⟨bq, oq, rfl, _⟩ := r8.at_ (j := 0) Nat.one_pos; have z8 := d7.below b8; have k88 := z8.keep)
                | (go_at_call 43; (with_reducible refine (Sh.bias_w _).mono ?_); rintro e v9 ⟨rfl, b9⟩; have z9 := z8.below b9; have k9 := z9.keep))
              go_ret
              have hB := HBB.out
              refine ⟨congrArg (fun z => Ending.returned (Value.int .u64 z)) ?_, z9.z.bl⟩
              rw [show min b 9218868437227405312 = 9218868437227405312 by omega]
              decide
            · have e8 := decide_eq_false (show ¬ (2047 : Int) ≤ (j : Int) by omega)
              go_wp2_with (first
                | (go_at_call 45; (with_reducible refine (HO8.out _ r77).mono ?_); rintro e v8 ⟨v9, rfl, o8, b8⟩; obtain ⟨A8, n8, c8, rfl, r8⟩ := o8.reads_n; obtain rfl : n8 = 1 := r8.len.symm.trans HL.out; obtain ⟨bq, oq, rfl, _⟩ := r8.at_ (j := 0) Nat.one_pos; have z8 := d7.below b8; have k88 := z8.keep)
                | (go_at_call 43; (with_reducible refine (Sh.bias_w _).mono ?_); rintro e v9 ⟨rfl, b9⟩; have z9 := z8.below b9; have k9 := z9.keep))
              have kq := first_cell r8 HR.out b9
              go_quiet (fail)
              have zq := on z9.z.bl (drewN_below _ nq)
              have hB := HBB.out
              by_cases hT : 9218868437227405312 ≤ j * 4503599627370496 + m
              · have e9 := decide_eq_true (show (9218868437227405312 : Int) ≤ (j : Int) * 4503599627370496 + (m : Int) by omega)
                clear hB
                go_wp2
                go_ret
                have hB := HBB.out
                refine ⟨congrArg (fun z => Ending.returned (Value.int .u64 z)) ?_, zq⟩
                rw [show min b 9218868437227405312 = 9218868437227405312 by omega]
                decide
              · have e9 := decide_eq_false (show ¬ (9218868437227405312 : Int) ≤ (j : Int) * 4503599627370496 + (m : Int) by omega)
                clear hB
                go_wp2
                go_ret
                have hB := HBB.out
                refine ⟨congrArg (fun z => Ending.returned (Value.int .u64 z)) ?_, zq⟩
                rw [← HO.out]
                exact congrArg (Go.bits .or .u64 _) (show (j : Int) * 4503599627370496 + (m : Int) = ((min b 9218868437227405312 : Nat) : Int) by omega)
set_option maxHeartbeats 16000000 in
set_option maxRecDepth 100000 in
theorem rto_pfk_w (S : ByteArray) (k L P N D bn bd k0 b : Nat) (R : Nat → Nat) (w : World) (hk : k ≤ 3000) (hbn : bn ≤ 8000) (hbd : bd ≤ 11000) (i1 : S.toList.isEmpty = false) (i2 : (S.toList == []) = false)
    (HOf : ∀ w1, Calls Tryz.prog 24 #[.string S] w1 (Gives w1 .u32 (digs V L)))
    (HPw : ∀ (y : Int), y = (k : Nat) → ∀ w1, Calls Tryz.prog 25 #[.int .i64 10, .int .i64 y] w1 (Gives w1 .u32 (digs V P)))
    (HMu : ∀ (A A' : Option Addr) (n c n' c' : Nat) (w1 : World), SI w1 .u32 A n c (digs V L) → SI w1 .u32 A' n' c' (digs V P) → Calls Tryz.prog 23 #[.slice A n c, .slice A' n' c'] w1 (Gives w1 .u32 (digs V N)))
    (HN : ∀ (A : Option Addr) (n c : Nat) (V1 : World), SI V1 .u32 A n c (digs V N) → Calls Tryz.prog 42 #[.slice A n c] V1 fun e w' => e = .returned (.int .i64 (bn : Nat)) ∧ V1 = w')
    (HD : ∀ (A : Option Addr) (n c : Nat) (V1 : World), SI V1 .u32 A n c (digs V 1) → Calls Tryz.prog 42 #[.slice A n c] V1 fun e w' => e = .returned (.int .i64 (bd : Nat)) ∧ V1 = w')
    (HRo : ∀ (A A' : Option Addr) (n c n' c' : Nat) (V1 : World), SI V1 .u32 A n c (digs V N) → SI V1 .u32 A' n' c' (digs V 1) → ∀ (j : Nat) (y : Int), y = 1074 - (j : Int) → j ≤ 9000 + 1074 → Calls Tryz.prog 44 #[.slice A n c, .slice A' n' c', .int .i64 y] V1 (Gives V1 .u32 (digs V (R j))))
    (HST : ∀ j, 2 ^ (52 + 1) ≤ R j → j < 8000 + 1074) (HNO : ∀ j, R j < 2 ^ (52 + 1) → (j = 0 ∨ 2 ^ (52 + 1) ≤ R (j - 1)) → b = j * 2 ^ 52 + R j) (HNX : ∀ j, (j = 0 ∨ 2 ^ (52 + 1) ≤ R (j - 1)) → j = 0 ∨ 2 ^ 52 ≤ R j)
    (HXB : ∀ (j : Nat) (V1 : World) (A : Option Addr) (n c : Nat), SI V1 .u32 A n c (digs V (R j)) → Calls Tryz.prog 42 #[.slice A n c] V1 fun e w' => e = .returned (.int .i64 (nbits (R j) : Nat)) ∧ V1 = w')
    (HOu : ∀ (j : Nat) (V1 : World) (A : Option Addr) (n c : Nat), SI V1 .u32 A n c (digs V (R j)) → Calls Tryz.prog 45 #[.slice A n c] V1 (GivesOwn V1 24 .u64 (digs U (R j))))
    (hlt : ¬ (bn : Int) - bd - 52 - 2 < -1074) (hk1 : k0 ≤ 8000 + 1074) (hk0 : (k0 : Int) - 1074 = (bn : Int) - bd - 52 - 2) (HS : k0 = 0 ∨ 2 ^ (52 + 1) ≤ R (k0 - 1)) :
    Calls Tryz.prog 14 #[.agg #[.int .i64 52, .int .i64 11], .agg #[.int .i64 0, .bool false, .string S, .int .i64 (k : Nat)]] w fun e w' => e = .returned (.int .u64 ((sg_w false ||| min b 9218868437227405312 : Nat) : Int)) ∧ Below w.heap.size w w' := by
  have HB := Lib.hid (KD.start w 52 11 0 false S (k : Nat))
  have S1 := Lib.hid (show IntKind.i64.wrap ((bn : Int) - bd) = (bn : Int) - bd from IntWalk.i64_in _ (by omega))
  have S2 := Lib.hid (show IntKind.i64.wrap ((bn : Int) - bd - 52) = (bn : Int) - bd - 52 from IntWalk.i64_in _ (by omega))
  have S3 := Lib.hid (show IntKind.i64.wrap ((bn : Int) - bd - 52 - 2) = (bn : Int) - bd - 52 - 2 from IntWalk.i64_in _ (by omega))
  have HO := Lib.hid (Sh.or_nat (sg_w false) (min b 9218868437227405312) (sg_lt_w false) (by omega))
  have hx1 := decide_eq_true (show (0 : Int) ≤ (k : Int) by omega)
  replace HOf := Lib.hid HOf
  replace HPw := Lib.hid HPw
  replace HMu := Lib.hid HMu
  replace HN := Lib.hid HN
  replace HD := Lib.hid HD
  replace HRo := Lib.hid HRo
  replace HST := Lib.hid HST
  replace HNO := Lib.hid HNO
  replace HNX := Lib.hid HNX
  replace HXB := Lib.hid HXB
  replace HOu := Lib.hid HOu
  replace HS := Lib.hid HS
  have HK := Lib.hid hk0
  clear hk0
  go_enter Tryz.func14, Tryz.ntmps14
  go_wp2
  go_quiet (fail)
  have z1 := HB.out.below (drewN_below _ nq)
  generalize World.drewN _ nq = Y at *
  have k1 := z1.keep
  go_upto_region 15 with (first
    | (go_at_call 24; (with_reducible refine (HOf.out _).mono ?_); rintro e w1 ⟨A1, n1, c1, rfl, r1, b1⟩; have a1 := alloc_below w1 (.cells #[.int .u32 1] 34); have z2 := (z1.below b1).below a1; have k2 := z2.keep; have q1 := one16 w1; have r11 := r1.below a1)
    | (go_at_call 25; (with_reducible refine (HPw.out _ ?_ _).mono ?_); (first | rfl | omega); rintro e w2 ⟨A2, n2, c2, rfl, r2, b2⟩; have z3 := z2.below b2; have r12 := r11.below b2; have q2 := q1.below b2)
    | (go_at_call 23; (with_reducible refine (HMu.out A1 A2 n1 c1 n2 c2 w2 r12 r2).mono ?_); rintro e w3 ⟨A3, n3, c3, rfl, r3, b3⟩))
  have Z : RT w w3 52 11 0 false S (k : Nat) A3 n3 c3 N (some ⟨w1.heap.size, 0, none⟩) 1 1 1 := ⟨z3.below b3, r3, q2.below b3⟩
  clear r1 r2 r3 r11 r12 q1 q2 b1 b2 b3 a1 z2 z3 k2
  have y0 := Z.drew
  clear Z z1 k1 HB HOf HPw HMu
  go_region_held3 (fun w' => w'.cell? ⟨w.heap.size, 0, none⟩ = some (.int .i64 52) ∧ w'.cell? ⟨w.heap.size, 1, none⟩ = some (.int .i64 11))
    (first | (with_reducible exact y0.keep))
    (first
      | (go_at_call 42; first
        | ((with_reducible refine (HN.out _ _ _ _ y0.a).mono ?_); rintro e u0 ⟨rfl, rfl⟩)
        | ((with_reducible refine (HD.out _ _ _ _ y0.b).mono ?_); rintro e u0 ⟨rfl, rfl⟩)))
  all_goals
    rw [S1.out, S2.out, S3.out]
    have ky := y0.keep
    clear S1 S2 S3 HN HD
    have e3 := decide_eq_false (show ¬ (bn : Int) - bd - 52 - 2 < -1074 by omega)
    clear hlt
    go_wp2_with (first
      | (go_at_call 43; (with_reducible refine (Sh.bias_w _).mono ?_); rintro e v1 ⟨rfl, bb1⟩; have y1 := y0.below bb1; have k1 := y1.keep)
      | (go_at_call 44; (with_reducible refine (HRo.out _ _ _ _ _ _ _ y1.a y1.b k0 _ ?_ ?_).mono ?_); (have := HK.out; omega); (omega); rintro e v3 ⟨A6, n6, c6, rfl, r6, b6⟩; have y3 := y1.below b6))
    go_loopw [9, 10] (fun z v wr => ∃ (j : Nat) (A7 : Option Addr) (n7 c7 : Nat), BJ_w R z v j A7 n7 c7 wr ∧ RT w wr 52 11 0 false S (k : Nat) A3 n3 c3 N (some ⟨w1.heap.size, 0, none⟩) 1 1 1) (fun z _ _ => (8001 - intOf z).toNat)
    case atStart => exact ⟨k0, A6, n6, c6, ⟨congrArg (Value.int .i64) (by have := HK.out; omega), rfl, r6, HS.out, hk1⟩, y3⟩
    case round =>
      obtain ⟨j, A7, n7, c7, ⟨rfl, rfl, r7, hs, hj⟩, z7⟩ := hrel
      clear ky y0 y1 y3 r6 b6 hk1 HS bb1 HK
      have d7 := z7.drew
      have kk := z7.keep
      have m7 := HXB.out j _ A7 n7 c7 (r7.below (Below.refl _ _).drew)
      by_cases hm : 2 ^ (52 + 1) ≤ R j
      · have hlt := HST.out j hm
        have e7 := decide_eq_true (show (52 : Int) + 1 < (nbits (R j) : Int) from bits_big.2 hm)
        rw [show (52 : Int) + 1 = (53 : Int) by decide, show (53 : Int) = IntKind.i64.wrap 53 by decide] at e7
        have HM := Lib.hid hm
        clear HNO HOu HNX hm
        generalize hnb : nbits (R j) = nb at *
        clear hnb
        have M7 := Lib.hid m7
        clear m7
        go_wp2
        clear kk
        go_region_held3 (fun w' => w'.cell? ⟨w.heap.size, 0, none⟩ = some (.int .i64 52) ∧ w'.cell? ⟨w.heap.size, 1, none⟩ = some (.int .i64 11))
          (first | (with_reducible exact d7.keep))
          (first | (go_at_call 42; (with_reducible refine M7.out.mono ?_); rintro e u0 ⟨rfl, rfl⟩))
        all_goals
          have k8 := d7.keep
          go_wp2_with (go_at_call 44; (with_reducible refine (HRo.out _ _ _ _ _ _ _ d7.a d7.b (j + 1) _ ?_ ?_).mono ?_); (omega); (omega); rintro e v8 ⟨A8, n8, c8, rfl, r8, b8⟩; have z8 := d7.below b8)
          go_roundw
          case rel => exact ⟨j + 1, A8, n8, c8, ⟨congrArg (Value.int .i64) (by omega), rfl, r8, .inr HM.out, by omega⟩, z8⟩
          case measure => simp [intOf]; omega
      · have hm' := Nat.lt_of_not_le hm
        have e7 := decide_eq_false (show ¬ (52 : Int) + 1 < (nbits (R j) : Int) from fun q => hm (bits_big.1 q))
        rw [show (52 : Int) + 1 = (53 : Int) by decide, show (53 : Int) = IntKind.i64.wrap 53 by decide] at e7
        have hB := HNO.out j hm' hs
        have hX := HNX.out j hs
        have HO8 := Lib.hid (fun (V1 : World) (z : SI V1 .u32 A7 n7 c7 (digs V (R j))) => HOu.out j V1 A7 n7 c7 z)
        clear HNO HOu HNX HST HRo HXB hm hs
        generalize hnb : nbits (R j) = nb at *
        generalize R j = m at *
        clear hnb
        simp only [Nat.reducePow, Nat.reduceAdd] at hB hX hm'
        have M7 := Lib.hid m7
        have HBB := Lib.hid hB
        clear m7 hB
        go_wp2
        clear kk
        go_region_held3 (fun w' => w'.cell? ⟨w.heap.size, 0, none⟩ = some (.int .i64 52) ∧ w'.cell? ⟨w.heap.size, 1, none⟩ = some (.int .i64 11))
          (first | (with_reducible exact d7.keep))
          (first | (go_at_call 42; (with_reducible refine M7.out.mono ?_); rintro e u0 ⟨rfl, rfl⟩))
        all_goals
          have k8 := d7.keep
          have r77 := r7.below (Below.refl wr.heap.size wr).drew
          clear M7 e7
          by_cases h0 : m = 0
          · subst h0
            have HJ := Lib.hid (show j = 0 by omega)
            have HL := Lib.hid (show (digs U 0).length = 0 by rw [digs_zero]; rfl)
            clear hX
            go_wp2_with (go_at_call 45; (with_reducible refine (HO8.out _ r77).mono ?_); rintro e v8 ⟨v9, rfl, o8, b8⟩; obtain ⟨A8, n8, c8, rfl, r8⟩ := o8.reads_n; obtain rfl : n8 = 0 := r8.len.symm.trans HL.out; have z8 := d7.below b8)
            go_ret
            have hB := HBB.out
            have hJ := HJ.out
            refine ⟨congrArg (fun z => Ending.returned (Value.int .u64 z)) ?_, z8.z.bl⟩
            rw [show b = 0 by omega]
            decide
          · have HL := Lib.hid (show (digs U m).length = 1 by rw [Dig.digs_one U_two (show m < U by unfold U; omega) h0]; rfl)
            have HR := Lib.hid (show rd (digs U m) 0 = m by rw [Dig.digs_one U_two (show m < U by unfold U; omega) h0]; rfl)
            clear hX
            by_cases hE : 2047 ≤ j
            · have e8 := decide_eq_true (show (2047 : Int) ≤ (j : Int) by omega)
              go_wp2_with (first
                | (go_at_call 45; (with_reducible refine (HO8.out _ r77).mono ?_); rintro e v8 ⟨v9, rfl, o8, b8⟩; obtain ⟨A8, n8, c8, rfl, r8⟩ := o8.reads_n; obtain rfl : n8 = 1 := r8.len.symm.trans HL.out; obtain ⟨bq, oq, rfl, _⟩ := r8.at_ (j := 0) Nat.one_pos; have z8 := d7.below b8; have k88 := z8.keep)
                | (go_at_call 43; (with_reducible refine (Sh.bias_w _).mono ?_); rintro e v9 ⟨rfl, b9⟩; have z9 := z8.below b9; have k9 := z9.keep))
              go_ret
              have hB := HBB.out
              refine ⟨congrArg (fun z => Ending.returned (Value.int .u64 z)) ?_, z9.z.bl⟩
              rw [show min b 9218868437227405312 = 9218868437227405312 by omega]
              decide
            · have e8 := decide_eq_false (show ¬ (2047 : Int) ≤ (j : Int) by omega)
              go_wp2_with (first
                | (go_at_call 45; (with_reducible refine (HO8.out _ r77).mono ?_); rintro e v8 ⟨v9, rfl, o8, b8⟩; obtain ⟨A8, n8, c8, rfl, r8⟩ := o8.reads_n; obtain rfl : n8 = 1 := r8.len.symm.trans HL.out; obtain ⟨bq, oq, rfl, _⟩ := r8.at_ (j := 0) Nat.one_pos; have z8 := d7.below b8; have k88 := z8.keep)
                | (go_at_call 43; (with_reducible refine (Sh.bias_w _).mono ?_); rintro e v9 ⟨rfl, b9⟩; have z9 := z8.below b9; have k9 := z9.keep))
              have kq := first_cell r8 HR.out b9
              go_quiet (fail)
              have zq := on z9.z.bl (drewN_below _ nq)
              have hB := HBB.out
              by_cases hT : 9218868437227405312 ≤ j * 4503599627370496 + m
              · have e9 := decide_eq_true (show (9218868437227405312 : Int) ≤ (j : Int) * 4503599627370496 + (m : Int) by omega)
                clear hB
                go_wp2
                go_ret
                have hB := HBB.out
                refine ⟨congrArg (fun z => Ending.returned (Value.int .u64 z)) ?_, zq⟩
                rw [show min b 9218868437227405312 = 9218868437227405312 by omega]
                decide
              · have e9 := decide_eq_false (show ¬ (9218868437227405312 : Int) ≤ (j : Int) * 4503599627370496 + (m : Int) by omega)
                clear hB
                go_wp2
                go_ret
                have hB := HBB.out
                refine ⟨congrArg (fun z => Ending.returned (Value.int .u64 z)) ?_, zq⟩
                rw [← HO.out]
                exact congrArg (Go.bits .or .u64 _) (show (j : Int) * 4503599627370496 + (m : Int) = ((min b 9218868437227405312 : Nat) : Int) by omega)
set_option maxHeartbeats 16000000 in
set_option maxRecDepth 100000 in
theorem rto_pt0_w (S : ByteArray) (k L P N D bn bd k0 b : Nat) (R : Nat → Nat) (w : World) (hk : k ≤ 3000) (hbn : bn ≤ 8000) (hbd : bd ≤ 11000) (i1 : S.toList.isEmpty = false) (i2 : (S.toList == []) = false)
    (HOf : ∀ w1, Calls Tryz.prog 24 #[.string S] w1 (Gives w1 .u32 (digs V L)))
    (HPw : ∀ (y : Int), y = (k : Nat) → ∀ w1, Calls Tryz.prog 25 #[.int .i64 10, .int .i64 y] w1 (Gives w1 .u32 (digs V P)))
    (HMu : ∀ (A A' : Option Addr) (n c n' c' : Nat) (w1 : World), SI w1 .u32 A n c (digs V L) → SI w1 .u32 A' n' c' (digs V P) → Calls Tryz.prog 23 #[.slice A n c, .slice A' n' c'] w1 (Gives w1 .u32 (digs V N)))
    (HN : ∀ (A : Option Addr) (n c : Nat) (V1 : World), SI V1 .u32 A n c (digs V N) → Calls Tryz.prog 42 #[.slice A n c] V1 fun e w' => e = .returned (.int .i64 (bn : Nat)) ∧ V1 = w')
    (HD : ∀ (A : Option Addr) (n c : Nat) (V1 : World), SI V1 .u32 A n c (digs V 1) → Calls Tryz.prog 42 #[.slice A n c] V1 fun e w' => e = .returned (.int .i64 (bd : Nat)) ∧ V1 = w')
    (HRo : ∀ (A A' : Option Addr) (n c n' c' : Nat) (V1 : World), SI V1 .u32 A n c (digs V N) → SI V1 .u32 A' n' c' (digs V 1) → ∀ (j : Nat) (y : Int), y = 1074 - (j : Int) → j ≤ 9000 + 1074 → Calls Tryz.prog 44 #[.slice A n c, .slice A' n' c', .int .i64 y] V1 (Gives V1 .u32 (digs V (R j))))
    (HST : ∀ j, 2 ^ (52 + 1) ≤ R j → j < 8000 + 1074) (HNO : ∀ j, R j < 2 ^ (52 + 1) → (j = 0 ∨ 2 ^ (52 + 1) ≤ R (j - 1)) → b = j * 2 ^ 52 + R j) (HNX : ∀ j, (j = 0 ∨ 2 ^ (52 + 1) ≤ R (j - 1)) → j = 0 ∨ 2 ^ 52 ≤ R j)
    (HXB : ∀ (j : Nat) (V1 : World) (A : Option Addr) (n c : Nat), SI V1 .u32 A n c (digs V (R j)) → Calls Tryz.prog 42 #[.slice A n c] V1 fun e w' => e = .returned (.int .i64 (nbits (R j) : Nat)) ∧ V1 = w')
    (HOu : ∀ (j : Nat) (V1 : World) (A : Option Addr) (n c : Nat), SI V1 .u32 A n c (digs V (R j)) → Calls Tryz.prog 45 #[.slice A n c] V1 (GivesOwn V1 24 .u64 (digs U (R j))))
    (hlt : (bn : Int) - bd - 52 - 2 < -1074) (hk1 : k0 ≤ 8000 + 1074) (hk0 : (k0 : Int) - 1074 = -1074) (HS : k0 = 0 ∨ 2 ^ (52 + 1) ≤ R (k0 - 1)) :
    Calls Tryz.prog 14 #[.agg #[.int .i64 52, .int .i64 11], .agg #[.int .i64 0, .bool true, .string S, .int .i64 (k : Nat)]] w fun e w' => e = .returned (.int .u64 ((sg_w true ||| min b 9218868437227405312 : Nat) : Int)) ∧ Below w.heap.size w w' := by
  have HB := Lib.hid (KD.start w 52 11 0 true S (k : Nat))
  have S1 := Lib.hid (show IntKind.i64.wrap ((bn : Int) - bd) = (bn : Int) - bd from IntWalk.i64_in _ (by omega))
  have S2 := Lib.hid (show IntKind.i64.wrap ((bn : Int) - bd - 52) = (bn : Int) - bd - 52 from IntWalk.i64_in _ (by omega))
  have S3 := Lib.hid (show IntKind.i64.wrap ((bn : Int) - bd - 52 - 2) = (bn : Int) - bd - 52 - 2 from IntWalk.i64_in _ (by omega))
  have HO := Lib.hid (Sh.or_nat (sg_w true) (min b 9218868437227405312) (sg_lt_w true) (by omega))
  have hx1 := decide_eq_true (show (0 : Int) ≤ (k : Int) by omega)
  replace HOf := Lib.hid HOf
  replace HPw := Lib.hid HPw
  replace HMu := Lib.hid HMu
  replace HN := Lib.hid HN
  replace HD := Lib.hid HD
  replace HRo := Lib.hid HRo
  replace HST := Lib.hid HST
  replace HNO := Lib.hid HNO
  replace HNX := Lib.hid HNX
  replace HXB := Lib.hid HXB
  replace HOu := Lib.hid HOu
  replace HS := Lib.hid HS
  obtain rfl : k0 = 0 := by omega
  clear hk0
  go_enter Tryz.func14, Tryz.ntmps14
  go_wp2
  go_quiet (fail)
  have z1 := HB.out.below (drewN_below _ nq)
  generalize World.drewN _ nq = Y at *
  have k1 := z1.keep
  go_upto_region 15 with (first
    | (go_at_call 24; (with_reducible refine (HOf.out _).mono ?_); rintro e w1 ⟨A1, n1, c1, rfl, r1, b1⟩; have a1 := alloc_below w1 (.cells #[.int .u32 1] 34); have z2 := (z1.below b1).below a1; have k2 := z2.keep; have q1 := one16 w1; have r11 := r1.below a1)
    | (go_at_call 25; (with_reducible refine (HPw.out _ ?_ _).mono ?_); (first | rfl | omega); rintro e w2 ⟨A2, n2, c2, rfl, r2, b2⟩; have z3 := z2.below b2; have r12 := r11.below b2; have q2 := q1.below b2)
    | (go_at_call 23; (with_reducible refine (HMu.out A1 A2 n1 c1 n2 c2 w2 r12 r2).mono ?_); rintro e w3 ⟨A3, n3, c3, rfl, r3, b3⟩))
  have Z : RT w w3 52 11 0 true S (k : Nat) A3 n3 c3 N (some ⟨w1.heap.size, 0, none⟩) 1 1 1 := ⟨z3.below b3, r3, q2.below b3⟩
  clear r1 r2 r3 r11 r12 q1 q2 b1 b2 b3 a1 z2 z3 k2
  have y0 := Z.drew
  clear Z z1 k1 HB HOf HPw HMu
  go_region_held3 (fun w' => w'.cell? ⟨w.heap.size, 0, none⟩ = some (.int .i64 52) ∧ w'.cell? ⟨w.heap.size, 1, none⟩ = some (.int .i64 11))
    (first | (with_reducible exact y0.keep))
    (first
      | (go_at_call 42; first
        | ((with_reducible refine (HN.out _ _ _ _ y0.a).mono ?_); rintro e u0 ⟨rfl, rfl⟩)
        | ((with_reducible refine (HD.out _ _ _ _ y0.b).mono ?_); rintro e u0 ⟨rfl, rfl⟩)))
  all_goals
    rw [S1.out, S2.out, S3.out]
    have ky := y0.keep
    clear S1 S2 S3 HN HD
    have e3 := decide_eq_true (show (bn : Int) - bd - 52 - 2 < -1074 by omega)
    clear hlt
    go_wp2_with (first
      | (go_at_call 43; first
        | ((with_reducible refine (Sh.bias_w _).mono ?_); have tag := y1; rintro e v2 ⟨rfl, bb2⟩; have y2 := y1.below bb2; have k2 := y2.keep)
        | ((with_reducible refine (Sh.bias_w _).mono ?_); rintro e v1 ⟨rfl, bb1⟩; have y1 := y0.below bb1; have k1 := y1.keep))
      | (go_at_call 44; (with_reducible refine (HRo.out _ _ _ _ _ _ _ y2.a y2.b 0 _ ?_ ?_).mono ?_); (first | rfl | omega); (omega); rintro e v3 ⟨A6, n6, c6, rfl, r6, b6⟩; have y3 := y2.below b6))
    go_loopw [9, 10] (fun z v wr => ∃ (j : Nat) (A7 : Option Addr) (n7 c7 : Nat), BJ_w R z v j A7 n7 c7 wr ∧ RT w wr 52 11 0 true S (k : Nat) A3 n3 c3 N (some ⟨w1.heap.size, 0, none⟩) 1 1 1) (fun z _ _ => (8001 - intOf z).toNat)
    case atStart => exact ⟨0, A6, n6, c6, ⟨congrArg (Value.int .i64) (by omega), rfl, r6, .inl rfl, hk1⟩, y3⟩
    case round =>
      obtain ⟨j, A7, n7, c7, ⟨rfl, rfl, r7, hs, hj⟩, z7⟩ := hrel
      clear ky y0 y1 y3 r6 b6 hk1 HS y2 bb1 bb2
      have d7 := z7.drew
      have kk := z7.keep
      have m7 := HXB.out j _ A7 n7 c7 (r7.below (Below.refl _ _).drew)
      by_cases hm : 2 ^ (52 + 1) ≤ R j
      · have hlt := HST.out j hm
        have e7 := decide_eq_true (show (52 : Int) + 1 < (nbits (R j) : Int) from bits_big.2 hm)
        rw [show (52 : Int) + 1 = (53 : Int) by decide, show (53 : Int) = IntKind.i64.wrap 53 by decide] at e7
        have HM := Lib.hid hm
        clear HNO HOu HNX hm
        generalize hnb : nbits (R j) = nb at *
        clear hnb
        have M7 := Lib.hid m7
        clear m7
        go_wp2
        clear kk
        go_region_held3 (fun w' => w'.cell? ⟨w.heap.size, 0, none⟩ = some (.int .i64 52) ∧ w'.cell? ⟨w.heap.size, 1, none⟩ = some (.int .i64 11))
          (first | (with_reducible exact d7.keep))
          (first | (go_at_call 42; (with_reducible refine M7.out.mono ?_); rintro e u0 ⟨rfl, rfl⟩))
        all_goals
          have k8 := d7.keep
          go_wp2_with (go_at_call 44; (with_reducible refine (HRo.out _ _ _ _ _ _ _ d7.a d7.b (j + 1) _ ?_ ?_).mono ?_); (omega); (omega); rintro e v8 ⟨A8, n8, c8, rfl, r8, b8⟩; have z8 := d7.below b8)
          go_roundw
          case rel => exact ⟨j + 1, A8, n8, c8, ⟨congrArg (Value.int .i64) (by omega), rfl, r8, .inr HM.out, by omega⟩, z8⟩
          case measure => simp [intOf]; omega
      · have hm' := Nat.lt_of_not_le hm
        have e7 := decide_eq_false (show ¬ (52 : Int) + 1 < (nbits (R j) : Int) from fun q => hm (bits_big.1 q))
        rw [show (52 : Int) + 1 = (53 : Int) by decide, show (53 : Int) = IntKind.i64.wrap 53 by decide] at e7
        have hB := HNO.out j hm' hs
        have hX := HNX.out j hs
        have HO8 := Lib.hid (fun (V1 : World) (z : SI V1 .u32 A7 n7 c7 (digs V (R j))) => HOu.out j V1 A7 n7 c7 z)
        clear HNO HOu HNX HST HRo HXB hm hs
        generalize hnb : nbits (R j) = nb at *
        generalize R j = m at *
        clear hnb
        simp only [Nat.reducePow, Nat.reduceAdd] at hB hX hm'
        have M7 := Lib.hid m7
        have HBB := Lib.hid hB
        clear m7 hB
        go_wp2
        clear kk
        go_region_held3 (fun w' => w'.cell? ⟨w.heap.size, 0, none⟩ = some (.int .i64 52) ∧ w'.cell? ⟨w.heap.size, 1, none⟩ = some (.int .i64 11))
          (first | (with_reducible exact d7.keep))
          (first | (go_at_call 42; (with_reducible refine M7.out.mono ?_); rintro e u0 ⟨rfl, rfl⟩))
        all_goals
          have k8 := d7.keep
          have r77 := r7.below (Below.refl wr.heap.size wr).drew
          clear M7 e7
          by_cases h0 : m = 0
          · subst h0
            have HJ := Lib.hid (show j = 0 by omega)
            have HL := Lib.hid (show (digs U 0).length = 0 by rw [digs_zero]; rfl)
            clear hX
            go_wp2_with (go_at_call 45; (with_reducible refine (HO8.out _ r77).mono ?_); rintro e v8 ⟨v9, rfl, o8, b8⟩; obtain ⟨A8, n8, c8, rfl, r8⟩ := o8.reads_n; obtain rfl : n8 = 0 := r8.len.symm.trans HL.out; have z8 := d7.below b8)
            go_ret
            have hB := HBB.out
            have hJ := HJ.out
            refine ⟨congrArg (fun z => Ending.returned (Value.int .u64 z)) ?_, z8.z.bl⟩
            rw [show b = 0 by omega]
            decide
          · have HL := Lib.hid (show (digs U m).length = 1 by rw [Dig.digs_one U_two (show m < U by unfold U; omega) h0]; rfl)
            have HR := Lib.hid (show rd (digs U m) 0 = m by rw [Dig.digs_one U_two (show m < U by unfold U; omega) h0]; rfl)
            clear hX
            by_cases hE : 2047 ≤ j
            · have e8 := decide_eq_true (show (2047 : Int) ≤ (j : Int) by omega)
              go_wp2_with (first
                | (go_at_call 45; (with_reducible refine (HO8.out _ r77).mono ?_); rintro e v8 ⟨v9, rfl, o8, b8⟩; obtain ⟨A8, n8, c8, rfl, r8⟩ := o8.reads_n; obtain rfl : n8 = 1 := r8.len.symm.trans HL.out; obtain ⟨bq, oq, rfl, _⟩ := r8.at_ (j := 0) Nat.one_pos; have z8 := d7.below b8; have k88 := z8.keep)
                | (go_at_call 43; (with_reducible refine (Sh.bias_w _).mono ?_); rintro e v9 ⟨rfl, b9⟩; have z9 := z8.below b9; have k9 := z9.keep))
              go_ret
              have hB := HBB.out
              refine ⟨congrArg (fun z => Ending.returned (Value.int .u64 z)) ?_, z9.z.bl⟩
              rw [show min b 9218868437227405312 = 9218868437227405312 by omega]
              decide
            · have e8 := decide_eq_false (show ¬ (2047 : Int) ≤ (j : Int) by omega)
              go_wp2_with (first
                | (go_at_call 45; (with_reducible refine (HO8.out _ r77).mono ?_); rintro e v8 ⟨v9, rfl, o8, b8⟩; obtain ⟨A8, n8, c8, rfl, r8⟩ := o8.reads_n; obtain rfl : n8 = 1 := r8.len.symm.trans HL.out; obtain ⟨bq, oq, rfl, _⟩ := r8.at_ (j := 0) Nat.one_pos; have z8 := d7.below b8; have k88 := z8.keep)
                | (go_at_call 43; (with_reducible refine (Sh.bias_w _).mono ?_); rintro e v9 ⟨rfl, b9⟩; have z9 := z8.below b9; have k9 := z9.keep))
              have kq := first_cell r8 HR.out b9
              go_quiet (fail)
              have zq := on z9.z.bl (drewN_below _ nq)
              have hB := HBB.out
              by_cases hT : 9218868437227405312 ≤ j * 4503599627370496 + m
              · have e9 := decide_eq_true (show (9218868437227405312 : Int) ≤ (j : Int) * 4503599627370496 + (m : Int) by omega)
                clear hB
                go_wp2
                go_ret
                have hB := HBB.out
                refine ⟨congrArg (fun z => Ending.returned (Value.int .u64 z)) ?_, zq⟩
                rw [show min b 9218868437227405312 = 9218868437227405312 by omega]
                decide
              · have e9 := decide_eq_false (show ¬ (9218868437227405312 : Int) ≤ (j : Int) * 4503599627370496 + (m : Int) by omega)
                clear hB
                go_wp2
                go_ret
                have hB := HBB.out
                refine ⟨congrArg (fun z => Ending.returned (Value.int .u64 z)) ?_, zq⟩
                rw [← HO.out]
                exact congrArg (Go.bits .or .u64 _) (show (j : Int) * 4503599627370496 + (m : Int) = ((min b 9218868437227405312 : Nat) : Int) by omega)
set_option maxHeartbeats 16000000 in
set_option maxRecDepth 100000 in
theorem rto_ptk_w (S : ByteArray) (k L P N D bn bd k0 b : Nat) (R : Nat → Nat) (w : World) (hk : k ≤ 3000) (hbn : bn ≤ 8000) (hbd : bd ≤ 11000) (i1 : S.toList.isEmpty = false) (i2 : (S.toList == []) = false)
    (HOf : ∀ w1, Calls Tryz.prog 24 #[.string S] w1 (Gives w1 .u32 (digs V L)))
    (HPw : ∀ (y : Int), y = (k : Nat) → ∀ w1, Calls Tryz.prog 25 #[.int .i64 10, .int .i64 y] w1 (Gives w1 .u32 (digs V P)))
    (HMu : ∀ (A A' : Option Addr) (n c n' c' : Nat) (w1 : World), SI w1 .u32 A n c (digs V L) → SI w1 .u32 A' n' c' (digs V P) → Calls Tryz.prog 23 #[.slice A n c, .slice A' n' c'] w1 (Gives w1 .u32 (digs V N)))
    (HN : ∀ (A : Option Addr) (n c : Nat) (V1 : World), SI V1 .u32 A n c (digs V N) → Calls Tryz.prog 42 #[.slice A n c] V1 fun e w' => e = .returned (.int .i64 (bn : Nat)) ∧ V1 = w')
    (HD : ∀ (A : Option Addr) (n c : Nat) (V1 : World), SI V1 .u32 A n c (digs V 1) → Calls Tryz.prog 42 #[.slice A n c] V1 fun e w' => e = .returned (.int .i64 (bd : Nat)) ∧ V1 = w')
    (HRo : ∀ (A A' : Option Addr) (n c n' c' : Nat) (V1 : World), SI V1 .u32 A n c (digs V N) → SI V1 .u32 A' n' c' (digs V 1) → ∀ (j : Nat) (y : Int), y = 1074 - (j : Int) → j ≤ 9000 + 1074 → Calls Tryz.prog 44 #[.slice A n c, .slice A' n' c', .int .i64 y] V1 (Gives V1 .u32 (digs V (R j))))
    (HST : ∀ j, 2 ^ (52 + 1) ≤ R j → j < 8000 + 1074) (HNO : ∀ j, R j < 2 ^ (52 + 1) → (j = 0 ∨ 2 ^ (52 + 1) ≤ R (j - 1)) → b = j * 2 ^ 52 + R j) (HNX : ∀ j, (j = 0 ∨ 2 ^ (52 + 1) ≤ R (j - 1)) → j = 0 ∨ 2 ^ 52 ≤ R j)
    (HXB : ∀ (j : Nat) (V1 : World) (A : Option Addr) (n c : Nat), SI V1 .u32 A n c (digs V (R j)) → Calls Tryz.prog 42 #[.slice A n c] V1 fun e w' => e = .returned (.int .i64 (nbits (R j) : Nat)) ∧ V1 = w')
    (HOu : ∀ (j : Nat) (V1 : World) (A : Option Addr) (n c : Nat), SI V1 .u32 A n c (digs V (R j)) → Calls Tryz.prog 45 #[.slice A n c] V1 (GivesOwn V1 24 .u64 (digs U (R j))))
    (hlt : ¬ (bn : Int) - bd - 52 - 2 < -1074) (hk1 : k0 ≤ 8000 + 1074) (hk0 : (k0 : Int) - 1074 = (bn : Int) - bd - 52 - 2) (HS : k0 = 0 ∨ 2 ^ (52 + 1) ≤ R (k0 - 1)) :
    Calls Tryz.prog 14 #[.agg #[.int .i64 52, .int .i64 11], .agg #[.int .i64 0, .bool true, .string S, .int .i64 (k : Nat)]] w fun e w' => e = .returned (.int .u64 ((sg_w true ||| min b 9218868437227405312 : Nat) : Int)) ∧ Below w.heap.size w w' := by
  have HB := Lib.hid (KD.start w 52 11 0 true S (k : Nat))
  have S1 := Lib.hid (show IntKind.i64.wrap ((bn : Int) - bd) = (bn : Int) - bd from IntWalk.i64_in _ (by omega))
  have S2 := Lib.hid (show IntKind.i64.wrap ((bn : Int) - bd - 52) = (bn : Int) - bd - 52 from IntWalk.i64_in _ (by omega))
  have S3 := Lib.hid (show IntKind.i64.wrap ((bn : Int) - bd - 52 - 2) = (bn : Int) - bd - 52 - 2 from IntWalk.i64_in _ (by omega))
  have HO := Lib.hid (Sh.or_nat (sg_w true) (min b 9218868437227405312) (sg_lt_w true) (by omega))
  have hx1 := decide_eq_true (show (0 : Int) ≤ (k : Int) by omega)
  replace HOf := Lib.hid HOf
  replace HPw := Lib.hid HPw
  replace HMu := Lib.hid HMu
  replace HN := Lib.hid HN
  replace HD := Lib.hid HD
  replace HRo := Lib.hid HRo
  replace HST := Lib.hid HST
  replace HNO := Lib.hid HNO
  replace HNX := Lib.hid HNX
  replace HXB := Lib.hid HXB
  replace HOu := Lib.hid HOu
  replace HS := Lib.hid HS
  have HK := Lib.hid hk0
  clear hk0
  go_enter Tryz.func14, Tryz.ntmps14
  go_wp2
  go_quiet (fail)
  have z1 := HB.out.below (drewN_below _ nq)
  generalize World.drewN _ nq = Y at *
  have k1 := z1.keep
  go_upto_region 15 with (first
    | (go_at_call 24; (with_reducible refine (HOf.out _).mono ?_); rintro e w1 ⟨A1, n1, c1, rfl, r1, b1⟩; have a1 := alloc_below w1 (.cells #[.int .u32 1] 34); have z2 := (z1.below b1).below a1; have k2 := z2.keep; have q1 := one16 w1; have r11 := r1.below a1)
    | (go_at_call 25; (with_reducible refine (HPw.out _ ?_ _).mono ?_); (first | rfl | omega); rintro e w2 ⟨A2, n2, c2, rfl, r2, b2⟩; have z3 := z2.below b2; have r12 := r11.below b2; have q2 := q1.below b2)
    | (go_at_call 23; (with_reducible refine (HMu.out A1 A2 n1 c1 n2 c2 w2 r12 r2).mono ?_); rintro e w3 ⟨A3, n3, c3, rfl, r3, b3⟩))
  have Z : RT w w3 52 11 0 true S (k : Nat) A3 n3 c3 N (some ⟨w1.heap.size, 0, none⟩) 1 1 1 := ⟨z3.below b3, r3, q2.below b3⟩
  clear r1 r2 r3 r11 r12 q1 q2 b1 b2 b3 a1 z2 z3 k2
  have y0 := Z.drew
  clear Z z1 k1 HB HOf HPw HMu
  go_region_held3 (fun w' => w'.cell? ⟨w.heap.size, 0, none⟩ = some (.int .i64 52) ∧ w'.cell? ⟨w.heap.size, 1, none⟩ = some (.int .i64 11))
    (first | (with_reducible exact y0.keep))
    (first
      | (go_at_call 42; first
        | ((with_reducible refine (HN.out _ _ _ _ y0.a).mono ?_); rintro e u0 ⟨rfl, rfl⟩)
        | ((with_reducible refine (HD.out _ _ _ _ y0.b).mono ?_); rintro e u0 ⟨rfl, rfl⟩)))
  all_goals
    rw [S1.out, S2.out, S3.out]
    have ky := y0.keep
    clear S1 S2 S3 HN HD
    have e3 := decide_eq_false (show ¬ (bn : Int) - bd - 52 - 2 < -1074 by omega)
    clear hlt
    go_wp2_with (first
      | (go_at_call 43; (with_reducible refine (Sh.bias_w _).mono ?_); rintro e v1 ⟨rfl, bb1⟩; have y1 := y0.below bb1; have k1 := y1.keep)
      | (go_at_call 44; (with_reducible refine (HRo.out _ _ _ _ _ _ _ y1.a y1.b k0 _ ?_ ?_).mono ?_); (have := HK.out; omega); (omega); rintro e v3 ⟨A6, n6, c6, rfl, r6, b6⟩; have y3 := y1.below b6))
    go_loopw [9, 10] (fun z v wr => ∃ (j : Nat) (A7 : Option Addr) (n7 c7 : Nat), BJ_w R z v j A7 n7 c7 wr ∧ RT w wr 52 11 0 true S (k : Nat) A3 n3 c3 N (some ⟨w1.heap.size, 0, none⟩) 1 1 1) (fun z _ _ => (8001 - intOf z).toNat)
    case atStart => exact ⟨k0, A6, n6, c6, ⟨congrArg (Value.int .i64) (by have := HK.out; omega), rfl, r6, HS.out, hk1⟩, y3⟩
    case round =>
      obtain ⟨j, A7, n7, c7, ⟨rfl, rfl, r7, hs, hj⟩, z7⟩ := hrel
      clear ky y0 y1 y3 r6 b6 hk1 HS bb1 HK
      have d7 := z7.drew
      have kk := z7.keep
      have m7 := HXB.out j _ A7 n7 c7 (r7.below (Below.refl _ _).drew)
      by_cases hm : 2 ^ (52 + 1) ≤ R j
      · have hlt := HST.out j hm
        have e7 := decide_eq_true (show (52 : Int) + 1 < (nbits (R j) : Int) from bits_big.2 hm)
        rw [show (52 : Int) + 1 = (53 : Int) by decide, show (53 : Int) = IntKind.i64.wrap 53 by decide] at e7
        have HM := Lib.hid hm
        clear HNO HOu HNX hm
        generalize hnb : nbits (R j) = nb at *
        clear hnb
        have M7 := Lib.hid m7
        clear m7
        go_wp2
        clear kk
        go_region_held3 (fun w' => w'.cell? ⟨w.heap.size, 0, none⟩ = some (.int .i64 52) ∧ w'.cell? ⟨w.heap.size, 1, none⟩ = some (.int .i64 11))
          (first | (with_reducible exact d7.keep))
          (first | (go_at_call 42; (with_reducible refine M7.out.mono ?_); rintro e u0 ⟨rfl, rfl⟩))
        all_goals
          have k8 := d7.keep
          go_wp2_with (go_at_call 44; (with_reducible refine (HRo.out _ _ _ _ _ _ _ d7.a d7.b (j + 1) _ ?_ ?_).mono ?_); (omega); (omega); rintro e v8 ⟨A8, n8, c8, rfl, r8, b8⟩; have z8 := d7.below b8)
          go_roundw
          case rel => exact ⟨j + 1, A8, n8, c8, ⟨congrArg (Value.int .i64) (by omega), rfl, r8, .inr HM.out, by omega⟩, z8⟩
          case measure => simp [intOf]; omega
      · have hm' := Nat.lt_of_not_le hm
        have e7 := decide_eq_false (show ¬ (52 : Int) + 1 < (nbits (R j) : Int) from fun q => hm (bits_big.1 q))
        rw [show (52 : Int) + 1 = (53 : Int) by decide, show (53 : Int) = IntKind.i64.wrap 53 by decide] at e7
        have hB := HNO.out j hm' hs
        have hX := HNX.out j hs
        have HO8 := Lib.hid (fun (V1 : World) (z : SI V1 .u32 A7 n7 c7 (digs V (R j))) => HOu.out j V1 A7 n7 c7 z)
        clear HNO HOu HNX HST HRo HXB hm hs
        generalize hnb : nbits (R j) = nb at *
        generalize R j = m at *
        clear hnb
        simp only [Nat.reducePow, Nat.reduceAdd] at hB hX hm'
        have M7 := Lib.hid m7
        have HBB := Lib.hid hB
        clear m7 hB
        go_wp2
        clear kk
        go_region_held3 (fun w' => w'.cell? ⟨w.heap.size, 0, none⟩ = some (.int .i64 52) ∧ w'.cell? ⟨w.heap.size, 1, none⟩ = some (.int .i64 11))
          (first | (with_reducible exact d7.keep))
          (first | (go_at_call 42; (with_reducible refine M7.out.mono ?_); rintro e u0 ⟨rfl, rfl⟩))
        all_goals
          have k8 := d7.keep
          have r77 := r7.below (Below.refl wr.heap.size wr).drew
          clear M7 e7
          by_cases h0 : m = 0
          · subst h0
            have HJ := Lib.hid (show j = 0 by omega)
            have HL := Lib.hid (show (digs U 0).length = 0 by rw [digs_zero]; rfl)
            clear hX
            go_wp2_with (go_at_call 45; (with_reducible refine (HO8.out _ r77).mono ?_); rintro e v8 ⟨v9, rfl, o8, b8⟩; obtain ⟨A8, n8, c8, rfl, r8⟩ := o8.reads_n; obtain rfl : n8 = 0 := r8.len.symm.trans HL.out; have z8 := d7.below b8)
            go_ret
            have hB := HBB.out
            have hJ := HJ.out
            refine ⟨congrArg (fun z => Ending.returned (Value.int .u64 z)) ?_, z8.z.bl⟩
            rw [show b = 0 by omega]
            decide
          · have HL := Lib.hid (show (digs U m).length = 1 by rw [Dig.digs_one U_two (show m < U by unfold U; omega) h0]; rfl)
            have HR := Lib.hid (show rd (digs U m) 0 = m by rw [Dig.digs_one U_two (show m < U by unfold U; omega) h0]; rfl)
            clear hX
            by_cases hE : 2047 ≤ j
            · have e8 := decide_eq_true (show (2047 : Int) ≤ (j : Int) by omega)
              go_wp2_with (first
                | (go_at_call 45; (with_reducible refine (HO8.out _ r77).mono ?_); rintro e v8 ⟨v9, rfl, o8, b8⟩; obtain ⟨A8, n8, c8, rfl, r8⟩ := o8.reads_n; obtain rfl : n8 = 1 := r8.len.symm.trans HL.out; obtain ⟨bq, oq, rfl, _⟩ := r8.at_ (j := 0) Nat.one_pos; have z8 := d7.below b8; have k88 := z8.keep)
                | (go_at_call 43; (with_reducible refine (Sh.bias_w _).mono ?_); rintro e v9 ⟨rfl, b9⟩; have z9 := z8.below b9; have k9 := z9.keep))
              go_ret
              have hB := HBB.out
              refine ⟨congrArg (fun z => Ending.returned (Value.int .u64 z)) ?_, z9.z.bl⟩
              rw [show min b 9218868437227405312 = 9218868437227405312 by omega]
              decide
            · have e8 := decide_eq_false (show ¬ (2047 : Int) ≤ (j : Int) by omega)
              go_wp2_with (first
                | (go_at_call 45; (with_reducible refine (HO8.out _ r77).mono ?_); rintro e v8 ⟨v9, rfl, o8, b8⟩; obtain ⟨A8, n8, c8, rfl, r8⟩ := o8.reads_n; obtain rfl : n8 = 1 := r8.len.symm.trans HL.out; obtain ⟨bq, oq, rfl, _⟩ := r8.at_ (j := 0) Nat.one_pos; have z8 := d7.below b8; have k88 := z8.keep)
                | (go_at_call 43; (with_reducible refine (Sh.bias_w _).mono ?_); rintro e v9 ⟨rfl, b9⟩; have z9 := z8.below b9; have k9 := z9.keep))
              have kq := first_cell r8 HR.out b9
              go_quiet (fail)
              have zq := on z9.z.bl (drewN_below _ nq)
              have hB := HBB.out
              by_cases hT : 9218868437227405312 ≤ j * 4503599627370496 + m
              · have e9 := decide_eq_true (show (9218868437227405312 : Int) ≤ (j : Int) * 4503599627370496 + (m : Int) by omega)
                clear hB
                go_wp2
                go_ret
                have hB := HBB.out
                refine ⟨congrArg (fun z => Ending.returned (Value.int .u64 z)) ?_, zq⟩
                rw [show min b 9218868437227405312 = 9218868437227405312 by omega]
                decide
              · have e9 := decide_eq_false (show ¬ (9218868437227405312 : Int) ≤ (j : Int) * 4503599627370496 + (m : Int) by omega)
                clear hB
                go_wp2
                go_ret
                have hB := HBB.out
                refine ⟨congrArg (fun z => Ending.returned (Value.int .u64 z)) ?_, zq⟩
                rw [← HO.out]
                exact congrArg (Go.bits .or .u64 _) (show (j : Int) * 4503599627370496 + (m : Int) = ((min b 9218868437227405312 : Nat) : Int) by omega)
set_option maxHeartbeats 16000000 in
set_option maxRecDepth 100000 in
theorem rto_pf0_n (S : ByteArray) (k L P N D bn bd k0 b : Nat) (R : Nat → Nat) (w : World) (hk : k ≤ 3000) (hbn : bn ≤ 8000) (hbd : bd ≤ 11000) (i1 : S.toList.isEmpty = false) (i2 : (S.toList == []) = false)
    (HOf : ∀ w1, Calls Tryz.prog 24 #[.string S] w1 (Gives w1 .u32 (digs V L)))
    (HPw : ∀ (y : Int), y = (k : Nat) → ∀ w1, Calls Tryz.prog 25 #[.int .i64 10, .int .i64 y] w1 (Gives w1 .u32 (digs V P)))
    (HMu : ∀ (A A' : Option Addr) (n c n' c' : Nat) (w1 : World), SI w1 .u32 A n c (digs V L) → SI w1 .u32 A' n' c' (digs V P) → Calls Tryz.prog 23 #[.slice A n c, .slice A' n' c'] w1 (Gives w1 .u32 (digs V N)))
    (HN : ∀ (A : Option Addr) (n c : Nat) (V1 : World), SI V1 .u32 A n c (digs V N) → Calls Tryz.prog 42 #[.slice A n c] V1 fun e w' => e = .returned (.int .i64 (bn : Nat)) ∧ V1 = w')
    (HD : ∀ (A : Option Addr) (n c : Nat) (V1 : World), SI V1 .u32 A n c (digs V 1) → Calls Tryz.prog 42 #[.slice A n c] V1 fun e w' => e = .returned (.int .i64 (bd : Nat)) ∧ V1 = w')
    (HRo : ∀ (A A' : Option Addr) (n c n' c' : Nat) (V1 : World), SI V1 .u32 A n c (digs V N) → SI V1 .u32 A' n' c' (digs V 1) → ∀ (j : Nat) (y : Int), y = 149 - (j : Int) → j ≤ 9000 + 149 → Calls Tryz.prog 44 #[.slice A n c, .slice A' n' c', .int .i64 y] V1 (Gives V1 .u32 (digs V (R j))))
    (HST : ∀ j, 2 ^ (23 + 1) ≤ R j → j < 8000 + 149) (HNO : ∀ j, R j < 2 ^ (23 + 1) → (j = 0 ∨ 2 ^ (23 + 1) ≤ R (j - 1)) → b = j * 2 ^ 23 + R j) (HNX : ∀ j, (j = 0 ∨ 2 ^ (23 + 1) ≤ R (j - 1)) → j = 0 ∨ 2 ^ 23 ≤ R j)
    (HXB : ∀ (j : Nat) (V1 : World) (A : Option Addr) (n c : Nat), SI V1 .u32 A n c (digs V (R j)) → Calls Tryz.prog 42 #[.slice A n c] V1 fun e w' => e = .returned (.int .i64 (nbits (R j) : Nat)) ∧ V1 = w')
    (HOu : ∀ (j : Nat) (V1 : World) (A : Option Addr) (n c : Nat), SI V1 .u32 A n c (digs V (R j)) → Calls Tryz.prog 45 #[.slice A n c] V1 (GivesOwn V1 24 .u64 (digs U (R j))))
    (hlt : (bn : Int) - bd - 23 - 2 < -149) (hk1 : k0 ≤ 8000 + 149) (hk0 : (k0 : Int) - 149 = -149) (HS : k0 = 0 ∨ 2 ^ (23 + 1) ≤ R (k0 - 1)) :
    Calls Tryz.prog 14 #[.agg #[.int .i64 23, .int .i64 8], .agg #[.int .i64 0, .bool false, .string S, .int .i64 (k : Nat)]] w fun e w' => e = .returned (.int .u64 ((sg_n false ||| min b 2139095040 : Nat) : Int)) ∧ Below w.heap.size w w' := by
  have HB := Lib.hid (KD.start w 23 8 0 false S (k : Nat))
  have S1 := Lib.hid (show IntKind.i64.wrap ((bn : Int) - bd) = (bn : Int) - bd from IntWalk.i64_in _ (by omega))
  have S2 := Lib.hid (show IntKind.i64.wrap ((bn : Int) - bd - 23) = (bn : Int) - bd - 23 from IntWalk.i64_in _ (by omega))
  have S3 := Lib.hid (show IntKind.i64.wrap ((bn : Int) - bd - 23 - 2) = (bn : Int) - bd - 23 - 2 from IntWalk.i64_in _ (by omega))
  have HO := Lib.hid (Sh.or_nat (sg_n false) (min b 2139095040) (sg_lt_n false) (by omega))
  have hx1 := decide_eq_true (show (0 : Int) ≤ (k : Int) by omega)
  replace HOf := Lib.hid HOf
  replace HPw := Lib.hid HPw
  replace HMu := Lib.hid HMu
  replace HN := Lib.hid HN
  replace HD := Lib.hid HD
  replace HRo := Lib.hid HRo
  replace HST := Lib.hid HST
  replace HNO := Lib.hid HNO
  replace HNX := Lib.hid HNX
  replace HXB := Lib.hid HXB
  replace HOu := Lib.hid HOu
  replace HS := Lib.hid HS
  obtain rfl : k0 = 0 := by omega
  clear hk0
  go_enter Tryz.func14, Tryz.ntmps14
  go_wp2
  go_quiet (fail)
  have z1 := HB.out.below (drewN_below _ nq)
  generalize World.drewN _ nq = Y at *
  have k1 := z1.keep
  go_upto_region 15 with (first
    | (go_at_call 24; (with_reducible refine (HOf.out _).mono ?_); rintro e w1 ⟨A1, n1, c1, rfl, r1, b1⟩; have a1 := alloc_below w1 (.cells #[.int .u32 1] 34); have z2 := (z1.below b1).below a1; have k2 := z2.keep; have q1 := one16 w1; have r11 := r1.below a1)
    | (go_at_call 25; (with_reducible refine (HPw.out _ ?_ _).mono ?_); (first | rfl | omega); rintro e w2 ⟨A2, n2, c2, rfl, r2, b2⟩; have z3 := z2.below b2; have r12 := r11.below b2; have q2 := q1.below b2)
    | (go_at_call 23; (with_reducible refine (HMu.out A1 A2 n1 c1 n2 c2 w2 r12 r2).mono ?_); rintro e w3 ⟨A3, n3, c3, rfl, r3, b3⟩))
  have Z : RT w w3 23 8 0 false S (k : Nat) A3 n3 c3 N (some ⟨w1.heap.size, 0, none⟩) 1 1 1 := ⟨z3.below b3, r3, q2.below b3⟩
  clear r1 r2 r3 r11 r12 q1 q2 b1 b2 b3 a1 z2 z3 k2
  have y0 := Z.drew
  clear Z z1 k1 HB HOf HPw HMu
  go_region_held3 (fun w' => w'.cell? ⟨w.heap.size, 0, none⟩ = some (.int .i64 23) ∧ w'.cell? ⟨w.heap.size, 1, none⟩ = some (.int .i64 8))
    (first | (with_reducible exact y0.keep))
    (first
      | (go_at_call 42; first
        | ((with_reducible refine (HN.out _ _ _ _ y0.a).mono ?_); rintro e u0 ⟨rfl, rfl⟩)
        | ((with_reducible refine (HD.out _ _ _ _ y0.b).mono ?_); rintro e u0 ⟨rfl, rfl⟩)))
  all_goals
    rw [S1.out, S2.out, S3.out]
    have ky := y0.keep
    clear S1 S2 S3 HN HD
    have e3 := decide_eq_true (show (bn : Int) - bd - 23 - 2 < -149 by omega)
    clear hlt
    go_wp2_with (first
      | (go_at_call 43; first
        | ((with_reducible refine (Sh.bias_n _).mono ?_); have tag := y1; rintro e v2 ⟨rfl, bb2⟩; have y2 := y1.below bb2; have k2 := y2.keep)
        | ((with_reducible refine (Sh.bias_n _).mono ?_); rintro e v1 ⟨rfl, bb1⟩; have y1 := y0.below bb1; have k1 := y1.keep))
      | (go_at_call 44; (with_reducible refine (HRo.out _ _ _ _ _ _ _ y2.a y2.b 0 _ ?_ ?_).mono ?_); (first | rfl | omega); (omega); rintro e v3 ⟨A6, n6, c6, rfl, r6, b6⟩; have y3 := y2.below b6))
    go_loopw [9, 10] (fun z v wr => ∃ (j : Nat) (A7 : Option Addr) (n7 c7 : Nat), BJ_n R z v j A7 n7 c7 wr ∧ RT w wr 23 8 0 false S (k : Nat) A3 n3 c3 N (some ⟨w1.heap.size, 0, none⟩) 1 1 1) (fun z _ _ => (8001 - intOf z).toNat)
    case atStart => exact ⟨0, A6, n6, c6, ⟨congrArg (Value.int .i64) (by omega), rfl, r6, .inl rfl, hk1⟩, y3⟩
    case round =>
      obtain ⟨j, A7, n7, c7, ⟨rfl, rfl, r7, hs, hj⟩, z7⟩ := hrel
      clear ky y0 y1 y3 r6 b6 hk1 HS y2 bb1 bb2
      have d7 := z7.drew
      have kk := z7.keep
      have m7 := HXB.out j _ A7 n7 c7 (r7.below (Below.refl _ _).drew)
      by_cases hm : 2 ^ (23 + 1) ≤ R j
      · have hlt := HST.out j hm
        have e7 := decide_eq_true (show (23 : Int) + 1 < (nbits (R j) : Int) from bits_big.2 hm)
        rw [show (23 : Int) + 1 = (24 : Int) by decide, show (24 : Int) = IntKind.i64.wrap 24 by decide] at e7
        have HM := Lib.hid hm
        clear HNO HOu HNX hm
        generalize hnb : nbits (R j) = nb at *
        clear hnb
        have M7 := Lib.hid m7
        clear m7
        go_wp2
        clear kk
        go_region_held3 (fun w' => w'.cell? ⟨w.heap.size, 0, none⟩ = some (.int .i64 23) ∧ w'.cell? ⟨w.heap.size, 1, none⟩ = some (.int .i64 8))
          (first | (with_reducible exact d7.keep))
          (first | (go_at_call 42; (with_reducible refine M7.out.mono ?_); rintro e u0 ⟨rfl, rfl⟩))
        all_goals
          have k8 := d7.keep
          go_wp2_with (go_at_call 44; (with_reducible refine (HRo.out _ _ _ _ _ _ _ d7.a d7.b (j + 1) _ ?_ ?_).mono ?_); (omega); (omega); rintro e v8 ⟨A8, n8, c8, rfl, r8, b8⟩; have z8 := d7.below b8)
          go_roundw
          case rel => exact ⟨j + 1, A8, n8, c8, ⟨congrArg (Value.int .i64) (by omega), rfl, r8, .inr HM.out, by omega⟩, z8⟩
          case measure => simp [intOf]; omega
      · have hm' := Nat.lt_of_not_le hm
        have e7 := decide_eq_false (show ¬ (23 : Int) + 1 < (nbits (R j) : Int) from fun q => hm (bits_big.1 q))
        rw [show (23 : Int) + 1 = (24 : Int) by decide, show (24 : Int) = IntKind.i64.wrap 24 by decide] at e7
        have hB := HNO.out j hm' hs
        have hX := HNX.out j hs
        have HO8 := Lib.hid (fun (V1 : World) (z : SI V1 .u32 A7 n7 c7 (digs V (R j))) => HOu.out j V1 A7 n7 c7 z)
        clear HNO HOu HNX HST HRo HXB hm hs
        generalize hnb : nbits (R j) = nb at *
        generalize R j = m at *
        clear hnb
        simp only [Nat.reducePow, Nat.reduceAdd] at hB hX hm'
        have M7 := Lib.hid m7
        have HBB := Lib.hid hB
        clear m7 hB
        go_wp2
        clear kk
        go_region_held3 (fun w' => w'.cell? ⟨w.heap.size, 0, none⟩ = some (.int .i64 23) ∧ w'.cell? ⟨w.heap.size, 1, none⟩ = some (.int .i64 8))
          (first | (with_reducible exact d7.keep))
          (first | (go_at_call 42; (with_reducible refine M7.out.mono ?_); rintro e u0 ⟨rfl, rfl⟩))
        all_goals
          have k8 := d7.keep
          have r77 := r7.below (Below.refl wr.heap.size wr).drew
          clear M7 e7
          by_cases h0 : m = 0
          · subst h0
            have HJ := Lib.hid (show j = 0 by omega)
            have HL := Lib.hid (show (digs U 0).length = 0 by rw [digs_zero]; rfl)
            clear hX
            go_wp2_with (go_at_call 45; (with_reducible refine (HO8.out _ r77).mono ?_); rintro e v8 ⟨v9, rfl, o8, b8⟩; obtain ⟨A8, n8, c8, rfl, r8⟩ := o8.reads_n; obtain rfl : n8 = 0 := r8.len.symm.trans HL.out; have z8 := d7.below b8)
            go_ret
            have hB := HBB.out
            have hJ := HJ.out
            refine ⟨congrArg (fun z => Ending.returned (Value.int .u64 z)) ?_, z8.z.bl⟩
            rw [show b = 0 by omega]
            decide
          · have HL := Lib.hid (show (digs U m).length = 1 by rw [Dig.digs_one U_two (show m < U by unfold U; omega) h0]; rfl)
            have HR := Lib.hid (show rd (digs U m) 0 = m by rw [Dig.digs_one U_two (show m < U by unfold U; omega) h0]; rfl)
            clear hX
            by_cases hE : 255 ≤ j
            · have e8 := decide_eq_true (show (255 : Int) ≤ (j : Int) by omega)
              go_wp2_with (first
                | (go_at_call 45; (with_reducible refine (HO8.out _ r77).mono ?_); rintro e v8 ⟨v9, rfl, o8, b8⟩; obtain ⟨A8, n8, c8, rfl, r8⟩ := o8.reads_n; obtain rfl : n8 = 1 := r8.len.symm.trans HL.out; obtain ⟨bq, oq, rfl, _⟩ := r8.at_ (j := 0) Nat.one_pos; have z8 := d7.below b8; have k88 := z8.keep)
                | (go_at_call 43; (with_reducible refine (Sh.bias_n _).mono ?_); rintro e v9 ⟨rfl, b9⟩; have z9 := z8.below b9; have k9 := z9.keep))
              go_ret
              have hB := HBB.out
              refine ⟨congrArg (fun z => Ending.returned (Value.int .u64 z)) ?_, z9.z.bl⟩
              rw [show min b 2139095040 = 2139095040 by omega]
              decide
            · have e8 := decide_eq_false (show ¬ (255 : Int) ≤ (j : Int) by omega)
              go_wp2_with (first
                | (go_at_call 45; (with_reducible refine (HO8.out _ r77).mono ?_); rintro e v8 ⟨v9, rfl, o8, b8⟩; obtain ⟨A8, n8, c8, rfl, r8⟩ := o8.reads_n; obtain rfl : n8 = 1 := r8.len.symm.trans HL.out; obtain ⟨bq, oq, rfl, _⟩ := r8.at_ (j := 0) Nat.one_pos; have z8 := d7.below b8; have k88 := z8.keep)
                | (go_at_call 43; (with_reducible refine (Sh.bias_n _).mono ?_); rintro e v9 ⟨rfl, b9⟩; have z9 := z8.below b9; have k9 := z9.keep))
              have kq := first_cell r8 HR.out b9
              go_quiet (fail)
              have zq := on z9.z.bl (drewN_below _ nq)
              have hB := HBB.out
              by_cases hT : 2139095040 ≤ j * 8388608 + m
              · have e9 := decide_eq_true (show (2139095040 : Int) ≤ (j : Int) * 8388608 + (m : Int) by omega)
                clear hB
                go_wp2
                go_ret
                have hB := HBB.out
                refine ⟨congrArg (fun z => Ending.returned (Value.int .u64 z)) ?_, zq⟩
                rw [show min b 2139095040 = 2139095040 by omega]
                decide
              · have e9 := decide_eq_false (show ¬ (2139095040 : Int) ≤ (j : Int) * 8388608 + (m : Int) by omega)
                clear hB
                go_wp2
                go_ret
                have hB := HBB.out
                refine ⟨congrArg (fun z => Ending.returned (Value.int .u64 z)) ?_, zq⟩
                rw [← HO.out]
                exact congrArg (Go.bits .or .u64 _) (show (j : Int) * 8388608 + (m : Int) = ((min b 2139095040 : Nat) : Int) by omega)
set_option maxHeartbeats 16000000 in
set_option maxRecDepth 100000 in
theorem rto_pfk_n (S : ByteArray) (k L P N D bn bd k0 b : Nat) (R : Nat → Nat) (w : World) (hk : k ≤ 3000) (hbn : bn ≤ 8000) (hbd : bd ≤ 11000) (i1 : S.toList.isEmpty = false) (i2 : (S.toList == []) = false)
    (HOf : ∀ w1, Calls Tryz.prog 24 #[.string S] w1 (Gives w1 .u32 (digs V L)))
    (HPw : ∀ (y : Int), y = (k : Nat) → ∀ w1, Calls Tryz.prog 25 #[.int .i64 10, .int .i64 y] w1 (Gives w1 .u32 (digs V P)))
    (HMu : ∀ (A A' : Option Addr) (n c n' c' : Nat) (w1 : World), SI w1 .u32 A n c (digs V L) → SI w1 .u32 A' n' c' (digs V P) → Calls Tryz.prog 23 #[.slice A n c, .slice A' n' c'] w1 (Gives w1 .u32 (digs V N)))
    (HN : ∀ (A : Option Addr) (n c : Nat) (V1 : World), SI V1 .u32 A n c (digs V N) → Calls Tryz.prog 42 #[.slice A n c] V1 fun e w' => e = .returned (.int .i64 (bn : Nat)) ∧ V1 = w')
    (HD : ∀ (A : Option Addr) (n c : Nat) (V1 : World), SI V1 .u32 A n c (digs V 1) → Calls Tryz.prog 42 #[.slice A n c] V1 fun e w' => e = .returned (.int .i64 (bd : Nat)) ∧ V1 = w')
    (HRo : ∀ (A A' : Option Addr) (n c n' c' : Nat) (V1 : World), SI V1 .u32 A n c (digs V N) → SI V1 .u32 A' n' c' (digs V 1) → ∀ (j : Nat) (y : Int), y = 149 - (j : Int) → j ≤ 9000 + 149 → Calls Tryz.prog 44 #[.slice A n c, .slice A' n' c', .int .i64 y] V1 (Gives V1 .u32 (digs V (R j))))
    (HST : ∀ j, 2 ^ (23 + 1) ≤ R j → j < 8000 + 149) (HNO : ∀ j, R j < 2 ^ (23 + 1) → (j = 0 ∨ 2 ^ (23 + 1) ≤ R (j - 1)) → b = j * 2 ^ 23 + R j) (HNX : ∀ j, (j = 0 ∨ 2 ^ (23 + 1) ≤ R (j - 1)) → j = 0 ∨ 2 ^ 23 ≤ R j)
    (HXB : ∀ (j : Nat) (V1 : World) (A : Option Addr) (n c : Nat), SI V1 .u32 A n c (digs V (R j)) → Calls Tryz.prog 42 #[.slice A n c] V1 fun e w' => e = .returned (.int .i64 (nbits (R j) : Nat)) ∧ V1 = w')
    (HOu : ∀ (j : Nat) (V1 : World) (A : Option Addr) (n c : Nat), SI V1 .u32 A n c (digs V (R j)) → Calls Tryz.prog 45 #[.slice A n c] V1 (GivesOwn V1 24 .u64 (digs U (R j))))
    (hlt : ¬ (bn : Int) - bd - 23 - 2 < -149) (hk1 : k0 ≤ 8000 + 149) (hk0 : (k0 : Int) - 149 = (bn : Int) - bd - 23 - 2) (HS : k0 = 0 ∨ 2 ^ (23 + 1) ≤ R (k0 - 1)) :
    Calls Tryz.prog 14 #[.agg #[.int .i64 23, .int .i64 8], .agg #[.int .i64 0, .bool false, .string S, .int .i64 (k : Nat)]] w fun e w' => e = .returned (.int .u64 ((sg_n false ||| min b 2139095040 : Nat) : Int)) ∧ Below w.heap.size w w' := by
  have HB := Lib.hid (KD.start w 23 8 0 false S (k : Nat))
  have S1 := Lib.hid (show IntKind.i64.wrap ((bn : Int) - bd) = (bn : Int) - bd from IntWalk.i64_in _ (by omega))
  have S2 := Lib.hid (show IntKind.i64.wrap ((bn : Int) - bd - 23) = (bn : Int) - bd - 23 from IntWalk.i64_in _ (by omega))
  have S3 := Lib.hid (show IntKind.i64.wrap ((bn : Int) - bd - 23 - 2) = (bn : Int) - bd - 23 - 2 from IntWalk.i64_in _ (by omega))
  have HO := Lib.hid (Sh.or_nat (sg_n false) (min b 2139095040) (sg_lt_n false) (by omega))
  have hx1 := decide_eq_true (show (0 : Int) ≤ (k : Int) by omega)
  replace HOf := Lib.hid HOf
  replace HPw := Lib.hid HPw
  replace HMu := Lib.hid HMu
  replace HN := Lib.hid HN
  replace HD := Lib.hid HD
  replace HRo := Lib.hid HRo
  replace HST := Lib.hid HST
  replace HNO := Lib.hid HNO
  replace HNX := Lib.hid HNX
  replace HXB := Lib.hid HXB
  replace HOu := Lib.hid HOu
  replace HS := Lib.hid HS
  have HK := Lib.hid hk0
  clear hk0
  go_enter Tryz.func14, Tryz.ntmps14
  go_wp2
  go_quiet (fail)
  have z1 := HB.out.below (drewN_below _ nq)
  generalize World.drewN _ nq = Y at *
  have k1 := z1.keep
  go_upto_region 15 with (first
    | (go_at_call 24; (with_reducible refine (HOf.out _).mono ?_); rintro e w1 ⟨A1, n1, c1, rfl, r1, b1⟩; have a1 := alloc_below w1 (.cells #[.int .u32 1] 34); have z2 := (z1.below b1).below a1; have k2 := z2.keep; have q1 := one16 w1; have r11 := r1.below a1)
    | (go_at_call 25; (with_reducible refine (HPw.out _ ?_ _).mono ?_); (first | rfl | omega); rintro e w2 ⟨A2, n2, c2, rfl, r2, b2⟩; have z3 := z2.below b2; have r12 := r11.below b2; have q2 := q1.below b2)
    | (go_at_call 23; (with_reducible refine (HMu.out A1 A2 n1 c1 n2 c2 w2 r12 r2).mono ?_); rintro e w3 ⟨A3, n3, c3, rfl, r3, b3⟩))
  have Z : RT w w3 23 8 0 false S (k : Nat) A3 n3 c3 N (some ⟨w1.heap.size, 0, none⟩) 1 1 1 := ⟨z3.below b3, r3, q2.below b3⟩
  clear r1 r2 r3 r11 r12 q1 q2 b1 b2 b3 a1 z2 z3 k2
  have y0 := Z.drew
  clear Z z1 k1 HB HOf HPw HMu
  go_region_held3 (fun w' => w'.cell? ⟨w.heap.size, 0, none⟩ = some (.int .i64 23) ∧ w'.cell? ⟨w.heap.size, 1, none⟩ = some (.int .i64 8))
    (first | (with_reducible exact y0.keep))
    (first
      | (go_at_call 42; first
        | ((with_reducible refine (HN.out _ _ _ _ y0.a).mono ?_); rintro e u0 ⟨rfl, rfl⟩)
        | ((with_reducible refine (HD.out _ _ _ _ y0.b).mono ?_); rintro e u0 ⟨rfl, rfl⟩)))
  all_goals
    rw [S1.out, S2.out, S3.out]
    have ky := y0.keep
    clear S1 S2 S3 HN HD
    have e3 := decide_eq_false (show ¬ (bn : Int) - bd - 23 - 2 < -149 by omega)
    clear hlt
    go_wp2_with (first
      | (go_at_call 43; (with_reducible refine (Sh.bias_n _).mono ?_); rintro e v1 ⟨rfl, bb1⟩; have y1 := y0.below bb1; have k1 := y1.keep)
      | (go_at_call 44; (with_reducible refine (HRo.out _ _ _ _ _ _ _ y1.a y1.b k0 _ ?_ ?_).mono ?_); (have := HK.out; omega); (omega); rintro e v3 ⟨A6, n6, c6, rfl, r6, b6⟩; have y3 := y1.below b6))
    go_loopw [9, 10] (fun z v wr => ∃ (j : Nat) (A7 : Option Addr) (n7 c7 : Nat), BJ_n R z v j A7 n7 c7 wr ∧ RT w wr 23 8 0 false S (k : Nat) A3 n3 c3 N (some ⟨w1.heap.size, 0, none⟩) 1 1 1) (fun z _ _ => (8001 - intOf z).toNat)
    case atStart => exact ⟨k0, A6, n6, c6, ⟨congrArg (Value.int .i64) (by have := HK.out; omega), rfl, r6, HS.out, hk1⟩, y3⟩
    case round =>
      obtain ⟨j, A7, n7, c7, ⟨rfl, rfl, r7, hs, hj⟩, z7⟩ := hrel
      clear ky y0 y1 y3 r6 b6 hk1 HS bb1 HK
      have d7 := z7.drew
      have kk := z7.keep
      have m7 := HXB.out j _ A7 n7 c7 (r7.below (Below.refl _ _).drew)
      by_cases hm : 2 ^ (23 + 1) ≤ R j
      · have hlt := HST.out j hm
        have e7 := decide_eq_true (show (23 : Int) + 1 < (nbits (R j) : Int) from bits_big.2 hm)
        rw [show (23 : Int) + 1 = (24 : Int) by decide, show (24 : Int) = IntKind.i64.wrap 24 by decide] at e7
        have HM := Lib.hid hm
        clear HNO HOu HNX hm
        generalize hnb : nbits (R j) = nb at *
        clear hnb
        have M7 := Lib.hid m7
        clear m7
        go_wp2
        clear kk
        go_region_held3 (fun w' => w'.cell? ⟨w.heap.size, 0, none⟩ = some (.int .i64 23) ∧ w'.cell? ⟨w.heap.size, 1, none⟩ = some (.int .i64 8))
          (first | (with_reducible exact d7.keep))
          (first | (go_at_call 42; (with_reducible refine M7.out.mono ?_); rintro e u0 ⟨rfl, rfl⟩))
        all_goals
          have k8 := d7.keep
          go_wp2_with (go_at_call 44; (with_reducible refine (HRo.out _ _ _ _ _ _ _ d7.a d7.b (j + 1) _ ?_ ?_).mono ?_); (omega); (omega); rintro e v8 ⟨A8, n8, c8, rfl, r8, b8⟩; have z8 := d7.below b8)
          go_roundw
          case rel => exact ⟨j + 1, A8, n8, c8, ⟨congrArg (Value.int .i64) (by omega), rfl, r8, .inr HM.out, by omega⟩, z8⟩
          case measure => simp [intOf]; omega
      · have hm' := Nat.lt_of_not_le hm
        have e7 := decide_eq_false (show ¬ (23 : Int) + 1 < (nbits (R j) : Int) from fun q => hm (bits_big.1 q))
        rw [show (23 : Int) + 1 = (24 : Int) by decide, show (24 : Int) = IntKind.i64.wrap 24 by decide] at e7
        have hB := HNO.out j hm' hs
        have hX := HNX.out j hs
        have HO8 := Lib.hid (fun (V1 : World) (z : SI V1 .u32 A7 n7 c7 (digs V (R j))) => HOu.out j V1 A7 n7 c7 z)
        clear HNO HOu HNX HST HRo HXB hm hs
        generalize hnb : nbits (R j) = nb at *
        generalize R j = m at *
        clear hnb
        simp only [Nat.reducePow, Nat.reduceAdd] at hB hX hm'
        have M7 := Lib.hid m7
        have HBB := Lib.hid hB
        clear m7 hB
        go_wp2
        clear kk
        go_region_held3 (fun w' => w'.cell? ⟨w.heap.size, 0, none⟩ = some (.int .i64 23) ∧ w'.cell? ⟨w.heap.size, 1, none⟩ = some (.int .i64 8))
          (first | (with_reducible exact d7.keep))
          (first | (go_at_call 42; (with_reducible refine M7.out.mono ?_); rintro e u0 ⟨rfl, rfl⟩))
        all_goals
          have k8 := d7.keep
          have r77 := r7.below (Below.refl wr.heap.size wr).drew
          clear M7 e7
          by_cases h0 : m = 0
          · subst h0
            have HJ := Lib.hid (show j = 0 by omega)
            have HL := Lib.hid (show (digs U 0).length = 0 by rw [digs_zero]; rfl)
            clear hX
            go_wp2_with (go_at_call 45; (with_reducible refine (HO8.out _ r77).mono ?_); rintro e v8 ⟨v9, rfl, o8, b8⟩; obtain ⟨A8, n8, c8, rfl, r8⟩ := o8.reads_n; obtain rfl : n8 = 0 := r8.len.symm.trans HL.out; have z8 := d7.below b8)
            go_ret
            have hB := HBB.out
            have hJ := HJ.out
            refine ⟨congrArg (fun z => Ending.returned (Value.int .u64 z)) ?_, z8.z.bl⟩
            rw [show b = 0 by omega]
            decide
          · have HL := Lib.hid (show (digs U m).length = 1 by rw [Dig.digs_one U_two (show m < U by unfold U; omega) h0]; rfl)
            have HR := Lib.hid (show rd (digs U m) 0 = m by rw [Dig.digs_one U_two (show m < U by unfold U; omega) h0]; rfl)
            clear hX
            by_cases hE : 255 ≤ j
            · have e8 := decide_eq_true (show (255 : Int) ≤ (j : Int) by omega)
              go_wp2_with (first
                | (go_at_call 45; (with_reducible refine (HO8.out _ r77).mono ?_); rintro e v8 ⟨v9, rfl, o8, b8⟩; obtain ⟨A8, n8, c8, rfl, r8⟩ := o8.reads_n; obtain rfl : n8 = 1 := r8.len.symm.trans HL.out; obtain ⟨bq, oq, rfl, _⟩ := r8.at_ (j := 0) Nat.one_pos; have z8 := d7.below b8; have k88 := z8.keep)
                | (go_at_call 43; (with_reducible refine (Sh.bias_n _).mono ?_); rintro e v9 ⟨rfl, b9⟩; have z9 := z8.below b9; have k9 := z9.keep))
              go_ret
              have hB := HBB.out
              refine ⟨congrArg (fun z => Ending.returned (Value.int .u64 z)) ?_, z9.z.bl⟩
              rw [show min b 2139095040 = 2139095040 by omega]
              decide
            · have e8 := decide_eq_false (show ¬ (255 : Int) ≤ (j : Int) by omega)
              go_wp2_with (first
                | (go_at_call 45; (with_reducible refine (HO8.out _ r77).mono ?_); rintro e v8 ⟨v9, rfl, o8, b8⟩; obtain ⟨A8, n8, c8, rfl, r8⟩ := o8.reads_n; obtain rfl : n8 = 1 := r8.len.symm.trans HL.out; obtain ⟨bq, oq, rfl, _⟩ := r8.at_ (j := 0) Nat.one_pos; have z8 := d7.below b8; have k88 := z8.keep)
                | (go_at_call 43; (with_reducible refine (Sh.bias_n _).mono ?_); rintro e v9 ⟨rfl, b9⟩; have z9 := z8.below b9; have k9 := z9.keep))
              have kq := first_cell r8 HR.out b9
              go_quiet (fail)
              have zq := on z9.z.bl (drewN_below _ nq)
              have hB := HBB.out
              by_cases hT : 2139095040 ≤ j * 8388608 + m
              · have e9 := decide_eq_true (show (2139095040 : Int) ≤ (j : Int) * 8388608 + (m : Int) by omega)
                clear hB
                go_wp2
                go_ret
                have hB := HBB.out
                refine ⟨congrArg (fun z => Ending.returned (Value.int .u64 z)) ?_, zq⟩
                rw [show min b 2139095040 = 2139095040 by omega]
                decide
              · have e9 := decide_eq_false (show ¬ (2139095040 : Int) ≤ (j : Int) * 8388608 + (m : Int) by omega)
                clear hB
                go_wp2
                go_ret
                have hB := HBB.out
                refine ⟨congrArg (fun z => Ending.returned (Value.int .u64 z)) ?_, zq⟩
                rw [← HO.out]
                exact congrArg (Go.bits .or .u64 _) (show (j : Int) * 8388608 + (m : Int) = ((min b 2139095040 : Nat) : Int) by omega)
set_option maxHeartbeats 16000000 in
set_option maxRecDepth 100000 in
theorem rto_pt0_n (S : ByteArray) (k L P N D bn bd k0 b : Nat) (R : Nat → Nat) (w : World) (hk : k ≤ 3000) (hbn : bn ≤ 8000) (hbd : bd ≤ 11000) (i1 : S.toList.isEmpty = false) (i2 : (S.toList == []) = false)
    (HOf : ∀ w1, Calls Tryz.prog 24 #[.string S] w1 (Gives w1 .u32 (digs V L)))
    (HPw : ∀ (y : Int), y = (k : Nat) → ∀ w1, Calls Tryz.prog 25 #[.int .i64 10, .int .i64 y] w1 (Gives w1 .u32 (digs V P)))
    (HMu : ∀ (A A' : Option Addr) (n c n' c' : Nat) (w1 : World), SI w1 .u32 A n c (digs V L) → SI w1 .u32 A' n' c' (digs V P) → Calls Tryz.prog 23 #[.slice A n c, .slice A' n' c'] w1 (Gives w1 .u32 (digs V N)))
    (HN : ∀ (A : Option Addr) (n c : Nat) (V1 : World), SI V1 .u32 A n c (digs V N) → Calls Tryz.prog 42 #[.slice A n c] V1 fun e w' => e = .returned (.int .i64 (bn : Nat)) ∧ V1 = w')
    (HD : ∀ (A : Option Addr) (n c : Nat) (V1 : World), SI V1 .u32 A n c (digs V 1) → Calls Tryz.prog 42 #[.slice A n c] V1 fun e w' => e = .returned (.int .i64 (bd : Nat)) ∧ V1 = w')
    (HRo : ∀ (A A' : Option Addr) (n c n' c' : Nat) (V1 : World), SI V1 .u32 A n c (digs V N) → SI V1 .u32 A' n' c' (digs V 1) → ∀ (j : Nat) (y : Int), y = 149 - (j : Int) → j ≤ 9000 + 149 → Calls Tryz.prog 44 #[.slice A n c, .slice A' n' c', .int .i64 y] V1 (Gives V1 .u32 (digs V (R j))))
    (HST : ∀ j, 2 ^ (23 + 1) ≤ R j → j < 8000 + 149) (HNO : ∀ j, R j < 2 ^ (23 + 1) → (j = 0 ∨ 2 ^ (23 + 1) ≤ R (j - 1)) → b = j * 2 ^ 23 + R j) (HNX : ∀ j, (j = 0 ∨ 2 ^ (23 + 1) ≤ R (j - 1)) → j = 0 ∨ 2 ^ 23 ≤ R j)
    (HXB : ∀ (j : Nat) (V1 : World) (A : Option Addr) (n c : Nat), SI V1 .u32 A n c (digs V (R j)) → Calls Tryz.prog 42 #[.slice A n c] V1 fun e w' => e = .returned (.int .i64 (nbits (R j) : Nat)) ∧ V1 = w')
    (HOu : ∀ (j : Nat) (V1 : World) (A : Option Addr) (n c : Nat), SI V1 .u32 A n c (digs V (R j)) → Calls Tryz.prog 45 #[.slice A n c] V1 (GivesOwn V1 24 .u64 (digs U (R j))))
    (hlt : (bn : Int) - bd - 23 - 2 < -149) (hk1 : k0 ≤ 8000 + 149) (hk0 : (k0 : Int) - 149 = -149) (HS : k0 = 0 ∨ 2 ^ (23 + 1) ≤ R (k0 - 1)) :
    Calls Tryz.prog 14 #[.agg #[.int .i64 23, .int .i64 8], .agg #[.int .i64 0, .bool true, .string S, .int .i64 (k : Nat)]] w fun e w' => e = .returned (.int .u64 ((sg_n true ||| min b 2139095040 : Nat) : Int)) ∧ Below w.heap.size w w' := by
  have HB := Lib.hid (KD.start w 23 8 0 true S (k : Nat))
  have S1 := Lib.hid (show IntKind.i64.wrap ((bn : Int) - bd) = (bn : Int) - bd from IntWalk.i64_in _ (by omega))
  have S2 := Lib.hid (show IntKind.i64.wrap ((bn : Int) - bd - 23) = (bn : Int) - bd - 23 from IntWalk.i64_in _ (by omega))
  have S3 := Lib.hid (show IntKind.i64.wrap ((bn : Int) - bd - 23 - 2) = (bn : Int) - bd - 23 - 2 from IntWalk.i64_in _ (by omega))
  have HO := Lib.hid (Sh.or_nat (sg_n true) (min b 2139095040) (sg_lt_n true) (by omega))
  have hx1 := decide_eq_true (show (0 : Int) ≤ (k : Int) by omega)
  replace HOf := Lib.hid HOf
  replace HPw := Lib.hid HPw
  replace HMu := Lib.hid HMu
  replace HN := Lib.hid HN
  replace HD := Lib.hid HD
  replace HRo := Lib.hid HRo
  replace HST := Lib.hid HST
  replace HNO := Lib.hid HNO
  replace HNX := Lib.hid HNX
  replace HXB := Lib.hid HXB
  replace HOu := Lib.hid HOu
  replace HS := Lib.hid HS
  obtain rfl : k0 = 0 := by omega
  clear hk0
  go_enter Tryz.func14, Tryz.ntmps14
  go_wp2
  go_quiet (fail)
  have z1 := HB.out.below (drewN_below _ nq)
  generalize World.drewN _ nq = Y at *
  have k1 := z1.keep
  go_upto_region 15 with (first
    | (go_at_call 24; (with_reducible refine (HOf.out _).mono ?_); rintro e w1 ⟨A1, n1, c1, rfl, r1, b1⟩; have a1 := alloc_below w1 (.cells #[.int .u32 1] 34); have z2 := (z1.below b1).below a1; have k2 := z2.keep; have q1 := one16 w1; have r11 := r1.below a1)
    | (go_at_call 25; (with_reducible refine (HPw.out _ ?_ _).mono ?_); (first | rfl | omega); rintro e w2 ⟨A2, n2, c2, rfl, r2, b2⟩; have z3 := z2.below b2; have r12 := r11.below b2; have q2 := q1.below b2)
    | (go_at_call 23; (with_reducible refine (HMu.out A1 A2 n1 c1 n2 c2 w2 r12 r2).mono ?_); rintro e w3 ⟨A3, n3, c3, rfl, r3, b3⟩))
  have Z : RT w w3 23 8 0 true S (k : Nat) A3 n3 c3 N (some ⟨w1.heap.size, 0, none⟩) 1 1 1 := ⟨z3.below b3, r3, q2.below b3⟩
  clear r1 r2 r3 r11 r12 q1 q2 b1 b2 b3 a1 z2 z3 k2
  have y0 := Z.drew
  clear Z z1 k1 HB HOf HPw HMu
  go_region_held3 (fun w' => w'.cell? ⟨w.heap.size, 0, none⟩ = some (.int .i64 23) ∧ w'.cell? ⟨w.heap.size, 1, none⟩ = some (.int .i64 8))
    (first | (with_reducible exact y0.keep))
    (first
      | (go_at_call 42; first
        | ((with_reducible refine (HN.out _ _ _ _ y0.a).mono ?_); rintro e u0 ⟨rfl, rfl⟩)
        | ((with_reducible refine (HD.out _ _ _ _ y0.b).mono ?_); rintro e u0 ⟨rfl, rfl⟩)))
  all_goals
    rw [S1.out, S2.out, S3.out]
    have ky := y0.keep
    clear S1 S2 S3 HN HD
    have e3 := decide_eq_true (show (bn : Int) - bd - 23 - 2 < -149 by omega)
    clear hlt
    go_wp2_with (first
      | (go_at_call 43; first
        | ((with_reducible refine (Sh.bias_n _).mono ?_); have tag := y1; rintro e v2 ⟨rfl, bb2⟩; have y2 := y1.below bb2; have k2 := y2.keep)
        | ((with_reducible refine (Sh.bias_n _).mono ?_); rintro e v1 ⟨rfl, bb1⟩; have y1 := y0.below bb1; have k1 := y1.keep))
      | (go_at_call 44; (with_reducible refine (HRo.out _ _ _ _ _ _ _ y2.a y2.b 0 _ ?_ ?_).mono ?_); (first | rfl | omega); (omega); rintro e v3 ⟨A6, n6, c6, rfl, r6, b6⟩; have y3 := y2.below b6))
    go_loopw [9, 10] (fun z v wr => ∃ (j : Nat) (A7 : Option Addr) (n7 c7 : Nat), BJ_n R z v j A7 n7 c7 wr ∧ RT w wr 23 8 0 true S (k : Nat) A3 n3 c3 N (some ⟨w1.heap.size, 0, none⟩) 1 1 1) (fun z _ _ => (8001 - intOf z).toNat)
    case atStart => exact ⟨0, A6, n6, c6, ⟨congrArg (Value.int .i64) (by omega), rfl, r6, .inl rfl, hk1⟩, y3⟩
    case round =>
      obtain ⟨j, A7, n7, c7, ⟨rfl, rfl, r7, hs, hj⟩, z7⟩ := hrel
      clear ky y0 y1 y3 r6 b6 hk1 HS y2 bb1 bb2
      have d7 := z7.drew
      have kk := z7.keep
      have m7 := HXB.out j _ A7 n7 c7 (r7.below (Below.refl _ _).drew)
      by_cases hm : 2 ^ (23 + 1) ≤ R j
      · have hlt := HST.out j hm
        have e7 := decide_eq_true (show (23 : Int) + 1 < (nbits (R j) : Int) from bits_big.2 hm)
        rw [show (23 : Int) + 1 = (24 : Int) by decide, show (24 : Int) = IntKind.i64.wrap 24 by decide] at e7
        have HM := Lib.hid hm
        clear HNO HOu HNX hm
        generalize hnb : nbits (R j) = nb at *
        clear hnb
        have M7 := Lib.hid m7
        clear m7
        go_wp2
        clear kk
        go_region_held3 (fun w' => w'.cell? ⟨w.heap.size, 0, none⟩ = some (.int .i64 23) ∧ w'.cell? ⟨w.heap.size, 1, none⟩ = some (.int .i64 8))
          (first | (with_reducible exact d7.keep))
          (first | (go_at_call 42; (with_reducible refine M7.out.mono ?_); rintro e u0 ⟨rfl, rfl⟩))
        all_goals
          have k8 := d7.keep
          go_wp2_with (go_at_call 44; (with_reducible refine (HRo.out _ _ _ _ _ _ _ d7.a d7.b (j + 1) _ ?_ ?_).mono ?_); (omega); (omega); rintro e v8 ⟨A8, n8, c8, rfl, r8, b8⟩; have z8 := d7.below b8)
          go_roundw
          case rel => exact ⟨j + 1, A8, n8, c8, ⟨congrArg (Value.int .i64) (by omega), rfl, r8, .inr HM.out, by omega⟩, z8⟩
          case measure => simp [intOf]; omega
      · have hm' := Nat.lt_of_not_le hm
        have e7 := decide_eq_false (show ¬ (23 : Int) + 1 < (nbits (R j) : Int) from fun q => hm (bits_big.1 q))
        rw [show (23 : Int) + 1 = (24 : Int) by decide, show (24 : Int) = IntKind.i64.wrap 24 by decide] at e7
        have hB := HNO.out j hm' hs
        have hX := HNX.out j hs
        have HO8 := Lib.hid (fun (V1 : World) (z : SI V1 .u32 A7 n7 c7 (digs V (R j))) => HOu.out j V1 A7 n7 c7 z)
        clear HNO HOu HNX HST HRo HXB hm hs
        generalize hnb : nbits (R j) = nb at *
        generalize R j = m at *
        clear hnb
        simp only [Nat.reducePow, Nat.reduceAdd] at hB hX hm'
        have M7 := Lib.hid m7
        have HBB := Lib.hid hB
        clear m7 hB
        go_wp2
        clear kk
        go_region_held3 (fun w' => w'.cell? ⟨w.heap.size, 0, none⟩ = some (.int .i64 23) ∧ w'.cell? ⟨w.heap.size, 1, none⟩ = some (.int .i64 8))
          (first | (with_reducible exact d7.keep))
          (first | (go_at_call 42; (with_reducible refine M7.out.mono ?_); rintro e u0 ⟨rfl, rfl⟩))
        all_goals
          have k8 := d7.keep
          have r77 := r7.below (Below.refl wr.heap.size wr).drew
          clear M7 e7
          by_cases h0 : m = 0
          · subst h0
            have HJ := Lib.hid (show j = 0 by omega)
            have HL := Lib.hid (show (digs U 0).length = 0 by rw [digs_zero]; rfl)
            clear hX
            go_wp2_with (go_at_call 45; (with_reducible refine (HO8.out _ r77).mono ?_); rintro e v8 ⟨v9, rfl, o8, b8⟩; obtain ⟨A8, n8, c8, rfl, r8⟩ := o8.reads_n; obtain rfl : n8 = 0 := r8.len.symm.trans HL.out; have z8 := d7.below b8)
            go_ret
            have hB := HBB.out
            have hJ := HJ.out
            refine ⟨congrArg (fun z => Ending.returned (Value.int .u64 z)) ?_, z8.z.bl⟩
            rw [show b = 0 by omega]
            decide
          · have HL := Lib.hid (show (digs U m).length = 1 by rw [Dig.digs_one U_two (show m < U by unfold U; omega) h0]; rfl)
            have HR := Lib.hid (show rd (digs U m) 0 = m by rw [Dig.digs_one U_two (show m < U by unfold U; omega) h0]; rfl)
            clear hX
            by_cases hE : 255 ≤ j
            · have e8 := decide_eq_true (show (255 : Int) ≤ (j : Int) by omega)
              go_wp2_with (first
                | (go_at_call 45; (with_reducible refine (HO8.out _ r77).mono ?_); rintro e v8 ⟨v9, rfl, o8, b8⟩; obtain ⟨A8, n8, c8, rfl, r8⟩ := o8.reads_n; obtain rfl : n8 = 1 := r8.len.symm.trans HL.out; obtain ⟨bq, oq, rfl, _⟩ := r8.at_ (j := 0) Nat.one_pos; have z8 := d7.below b8; have k88 := z8.keep)
                | (go_at_call 43; (with_reducible refine (Sh.bias_n _).mono ?_); rintro e v9 ⟨rfl, b9⟩; have z9 := z8.below b9; have k9 := z9.keep))
              go_ret
              have hB := HBB.out
              refine ⟨congrArg (fun z => Ending.returned (Value.int .u64 z)) ?_, z9.z.bl⟩
              rw [show min b 2139095040 = 2139095040 by omega]
              decide
            · have e8 := decide_eq_false (show ¬ (255 : Int) ≤ (j : Int) by omega)
              go_wp2_with (first
                | (go_at_call 45; (with_reducible refine (HO8.out _ r77).mono ?_); rintro e v8 ⟨v9, rfl, o8, b8⟩; obtain ⟨A8, n8, c8, rfl, r8⟩ := o8.reads_n; obtain rfl : n8 = 1 := r8.len.symm.trans HL.out; obtain ⟨bq, oq, rfl, _⟩ := r8.at_ (j := 0) Nat.one_pos; have z8 := d7.below b8; have k88 := z8.keep)
                | (go_at_call 43; (with_reducible refine (Sh.bias_n _).mono ?_); rintro e v9 ⟨rfl, b9⟩; have z9 := z8.below b9; have k9 := z9.keep))
              have kq := first_cell r8 HR.out b9
              go_quiet (fail)
              have zq := on z9.z.bl (drewN_below _ nq)
              have hB := HBB.out
              by_cases hT : 2139095040 ≤ j * 8388608 + m
              · have e9 := decide_eq_true (show (2139095040 : Int) ≤ (j : Int) * 8388608 + (m : Int) by omega)
                clear hB
                go_wp2
                go_ret
                have hB := HBB.out
                refine ⟨congrArg (fun z => Ending.returned (Value.int .u64 z)) ?_, zq⟩
                rw [show min b 2139095040 = 2139095040 by omega]
                decide
              · have e9 := decide_eq_false (show ¬ (2139095040 : Int) ≤ (j : Int) * 8388608 + (m : Int) by omega)
                clear hB
                go_wp2
                go_ret
                have hB := HBB.out
                refine ⟨congrArg (fun z => Ending.returned (Value.int .u64 z)) ?_, zq⟩
                rw [← HO.out]
                exact congrArg (Go.bits .or .u64 _) (show (j : Int) * 8388608 + (m : Int) = ((min b 2139095040 : Nat) : Int) by omega)
set_option maxHeartbeats 16000000 in
set_option maxRecDepth 100000 in
theorem rto_ptk_n (S : ByteArray) (k L P N D bn bd k0 b : Nat) (R : Nat → Nat) (w : World) (hk : k ≤ 3000) (hbn : bn ≤ 8000) (hbd : bd ≤ 11000) (i1 : S.toList.isEmpty = false) (i2 : (S.toList == []) = false)
    (HOf : ∀ w1, Calls Tryz.prog 24 #[.string S] w1 (Gives w1 .u32 (digs V L)))
    (HPw : ∀ (y : Int), y = (k : Nat) → ∀ w1, Calls Tryz.prog 25 #[.int .i64 10, .int .i64 y] w1 (Gives w1 .u32 (digs V P)))
    (HMu : ∀ (A A' : Option Addr) (n c n' c' : Nat) (w1 : World), SI w1 .u32 A n c (digs V L) → SI w1 .u32 A' n' c' (digs V P) → Calls Tryz.prog 23 #[.slice A n c, .slice A' n' c'] w1 (Gives w1 .u32 (digs V N)))
    (HN : ∀ (A : Option Addr) (n c : Nat) (V1 : World), SI V1 .u32 A n c (digs V N) → Calls Tryz.prog 42 #[.slice A n c] V1 fun e w' => e = .returned (.int .i64 (bn : Nat)) ∧ V1 = w')
    (HD : ∀ (A : Option Addr) (n c : Nat) (V1 : World), SI V1 .u32 A n c (digs V 1) → Calls Tryz.prog 42 #[.slice A n c] V1 fun e w' => e = .returned (.int .i64 (bd : Nat)) ∧ V1 = w')
    (HRo : ∀ (A A' : Option Addr) (n c n' c' : Nat) (V1 : World), SI V1 .u32 A n c (digs V N) → SI V1 .u32 A' n' c' (digs V 1) → ∀ (j : Nat) (y : Int), y = 149 - (j : Int) → j ≤ 9000 + 149 → Calls Tryz.prog 44 #[.slice A n c, .slice A' n' c', .int .i64 y] V1 (Gives V1 .u32 (digs V (R j))))
    (HST : ∀ j, 2 ^ (23 + 1) ≤ R j → j < 8000 + 149) (HNO : ∀ j, R j < 2 ^ (23 + 1) → (j = 0 ∨ 2 ^ (23 + 1) ≤ R (j - 1)) → b = j * 2 ^ 23 + R j) (HNX : ∀ j, (j = 0 ∨ 2 ^ (23 + 1) ≤ R (j - 1)) → j = 0 ∨ 2 ^ 23 ≤ R j)
    (HXB : ∀ (j : Nat) (V1 : World) (A : Option Addr) (n c : Nat), SI V1 .u32 A n c (digs V (R j)) → Calls Tryz.prog 42 #[.slice A n c] V1 fun e w' => e = .returned (.int .i64 (nbits (R j) : Nat)) ∧ V1 = w')
    (HOu : ∀ (j : Nat) (V1 : World) (A : Option Addr) (n c : Nat), SI V1 .u32 A n c (digs V (R j)) → Calls Tryz.prog 45 #[.slice A n c] V1 (GivesOwn V1 24 .u64 (digs U (R j))))
    (hlt : ¬ (bn : Int) - bd - 23 - 2 < -149) (hk1 : k0 ≤ 8000 + 149) (hk0 : (k0 : Int) - 149 = (bn : Int) - bd - 23 - 2) (HS : k0 = 0 ∨ 2 ^ (23 + 1) ≤ R (k0 - 1)) :
    Calls Tryz.prog 14 #[.agg #[.int .i64 23, .int .i64 8], .agg #[.int .i64 0, .bool true, .string S, .int .i64 (k : Nat)]] w fun e w' => e = .returned (.int .u64 ((sg_n true ||| min b 2139095040 : Nat) : Int)) ∧ Below w.heap.size w w' := by
  have HB := Lib.hid (KD.start w 23 8 0 true S (k : Nat))
  have S1 := Lib.hid (show IntKind.i64.wrap ((bn : Int) - bd) = (bn : Int) - bd from IntWalk.i64_in _ (by omega))
  have S2 := Lib.hid (show IntKind.i64.wrap ((bn : Int) - bd - 23) = (bn : Int) - bd - 23 from IntWalk.i64_in _ (by omega))
  have S3 := Lib.hid (show IntKind.i64.wrap ((bn : Int) - bd - 23 - 2) = (bn : Int) - bd - 23 - 2 from IntWalk.i64_in _ (by omega))
  have HO := Lib.hid (Sh.or_nat (sg_n true) (min b 2139095040) (sg_lt_n true) (by omega))
  have hx1 := decide_eq_true (show (0 : Int) ≤ (k : Int) by omega)
  replace HOf := Lib.hid HOf
  replace HPw := Lib.hid HPw
  replace HMu := Lib.hid HMu
  replace HN := Lib.hid HN
  replace HD := Lib.hid HD
  replace HRo := Lib.hid HRo
  replace HST := Lib.hid HST
  replace HNO := Lib.hid HNO
  replace HNX := Lib.hid HNX
  replace HXB := Lib.hid HXB
  replace HOu := Lib.hid HOu
  replace HS := Lib.hid HS
  have HK := Lib.hid hk0
  clear hk0
  go_enter Tryz.func14, Tryz.ntmps14
  go_wp2
  go_quiet (fail)
  have z1 := HB.out.below (drewN_below _ nq)
  generalize World.drewN _ nq = Y at *
  have k1 := z1.keep
  go_upto_region 15 with (first
    | (go_at_call 24; (with_reducible refine (HOf.out _).mono ?_); rintro e w1 ⟨A1, n1, c1, rfl, r1, b1⟩; have a1 := alloc_below w1 (.cells #[.int .u32 1] 34); have z2 := (z1.below b1).below a1; have k2 := z2.keep; have q1 := one16 w1; have r11 := r1.below a1)
    | (go_at_call 25; (with_reducible refine (HPw.out _ ?_ _).mono ?_); (first | rfl | omega); rintro e w2 ⟨A2, n2, c2, rfl, r2, b2⟩; have z3 := z2.below b2; have r12 := r11.below b2; have q2 := q1.below b2)
    | (go_at_call 23; (with_reducible refine (HMu.out A1 A2 n1 c1 n2 c2 w2 r12 r2).mono ?_); rintro e w3 ⟨A3, n3, c3, rfl, r3, b3⟩))
  have Z : RT w w3 23 8 0 true S (k : Nat) A3 n3 c3 N (some ⟨w1.heap.size, 0, none⟩) 1 1 1 := ⟨z3.below b3, r3, q2.below b3⟩
  clear r1 r2 r3 r11 r12 q1 q2 b1 b2 b3 a1 z2 z3 k2
  have y0 := Z.drew
  clear Z z1 k1 HB HOf HPw HMu
  go_region_held3 (fun w' => w'.cell? ⟨w.heap.size, 0, none⟩ = some (.int .i64 23) ∧ w'.cell? ⟨w.heap.size, 1, none⟩ = some (.int .i64 8))
    (first | (with_reducible exact y0.keep))
    (first
      | (go_at_call 42; first
        | ((with_reducible refine (HN.out _ _ _ _ y0.a).mono ?_); rintro e u0 ⟨rfl, rfl⟩)
        | ((with_reducible refine (HD.out _ _ _ _ y0.b).mono ?_); rintro e u0 ⟨rfl, rfl⟩)))
  all_goals
    rw [S1.out, S2.out, S3.out]
    have ky := y0.keep
    clear S1 S2 S3 HN HD
    have e3 := decide_eq_false (show ¬ (bn : Int) - bd - 23 - 2 < -149 by omega)
    clear hlt
    go_wp2_with (first
      | (go_at_call 43; (with_reducible refine (Sh.bias_n _).mono ?_); rintro e v1 ⟨rfl, bb1⟩; have y1 := y0.below bb1; have k1 := y1.keep)
      | (go_at_call 44; (with_reducible refine (HRo.out _ _ _ _ _ _ _ y1.a y1.b k0 _ ?_ ?_).mono ?_); (have := HK.out; omega); (omega); rintro e v3 ⟨A6, n6, c6, rfl, r6, b6⟩; have y3 := y1.below b6))
    go_loopw [9, 10] (fun z v wr => ∃ (j : Nat) (A7 : Option Addr) (n7 c7 : Nat), BJ_n R z v j A7 n7 c7 wr ∧ RT w wr 23 8 0 true S (k : Nat) A3 n3 c3 N (some ⟨w1.heap.size, 0, none⟩) 1 1 1) (fun z _ _ => (8001 - intOf z).toNat)
    case atStart => exact ⟨k0, A6, n6, c6, ⟨congrArg (Value.int .i64) (by have := HK.out; omega), rfl, r6, HS.out, hk1⟩, y3⟩
    case round =>
      obtain ⟨j, A7, n7, c7, ⟨rfl, rfl, r7, hs, hj⟩, z7⟩ := hrel
      clear ky y0 y1 y3 r6 b6 hk1 HS bb1 HK
      have d7 := z7.drew
      have kk := z7.keep
      have m7 := HXB.out j _ A7 n7 c7 (r7.below (Below.refl _ _).drew)
      by_cases hm : 2 ^ (23 + 1) ≤ R j
      · have hlt := HST.out j hm
        have e7 := decide_eq_true (show (23 : Int) + 1 < (nbits (R j) : Int) from bits_big.2 hm)
        rw [show (23 : Int) + 1 = (24 : Int) by decide, show (24 : Int) = IntKind.i64.wrap 24 by decide] at e7
        have HM := Lib.hid hm
        clear HNO HOu HNX hm
        generalize hnb : nbits (R j) = nb at *
        clear hnb
        have M7 := Lib.hid m7
        clear m7
        go_wp2
        clear kk
        go_region_held3 (fun w' => w'.cell? ⟨w.heap.size, 0, none⟩ = some (.int .i64 23) ∧ w'.cell? ⟨w.heap.size, 1, none⟩ = some (.int .i64 8))
          (first | (with_reducible exact d7.keep))
          (first | (go_at_call 42; (with_reducible refine M7.out.mono ?_); rintro e u0 ⟨rfl, rfl⟩))
        all_goals
          have k8 := d7.keep
          go_wp2_with (go_at_call 44; (with_reducible refine (HRo.out _ _ _ _ _ _ _ d7.a d7.b (j + 1) _ ?_ ?_).mono ?_); (omega); (omega); rintro e v8 ⟨A8, n8, c8, rfl, r8, b8⟩; have z8 := d7.below b8)
          go_roundw
          case rel => exact ⟨j + 1, A8, n8, c8, ⟨congrArg (Value.int .i64) (by omega), rfl, r8, .inr HM.out, by omega⟩, z8⟩
          case measure => simp [intOf]; omega
      · have hm' := Nat.lt_of_not_le hm
        have e7 := decide_eq_false (show ¬ (23 : Int) + 1 < (nbits (R j) : Int) from fun q => hm (bits_big.1 q))
        rw [show (23 : Int) + 1 = (24 : Int) by decide, show (24 : Int) = IntKind.i64.wrap 24 by decide] at e7
        have hB := HNO.out j hm' hs
        have hX := HNX.out j hs
        have HO8 := Lib.hid (fun (V1 : World) (z : SI V1 .u32 A7 n7 c7 (digs V (R j))) => HOu.out j V1 A7 n7 c7 z)
        clear HNO HOu HNX HST HRo HXB hm hs
        generalize hnb : nbits (R j) = nb at *
        generalize R j = m at *
        clear hnb
        simp only [Nat.reducePow, Nat.reduceAdd] at hB hX hm'
        have M7 := Lib.hid m7
        have HBB := Lib.hid hB
        clear m7 hB
        go_wp2
        clear kk
        go_region_held3 (fun w' => w'.cell? ⟨w.heap.size, 0, none⟩ = some (.int .i64 23) ∧ w'.cell? ⟨w.heap.size, 1, none⟩ = some (.int .i64 8))
          (first | (with_reducible exact d7.keep))
          (first | (go_at_call 42; (with_reducible refine M7.out.mono ?_); rintro e u0 ⟨rfl, rfl⟩))
        all_goals
          have k8 := d7.keep
          have r77 := r7.below (Below.refl wr.heap.size wr).drew
          clear M7 e7
          by_cases h0 : m = 0
          · subst h0
            have HJ := Lib.hid (show j = 0 by omega)
            have HL := Lib.hid (show (digs U 0).length = 0 by rw [digs_zero]; rfl)
            clear hX
            go_wp2_with (go_at_call 45; (with_reducible refine (HO8.out _ r77).mono ?_); rintro e v8 ⟨v9, rfl, o8, b8⟩; obtain ⟨A8, n8, c8, rfl, r8⟩ := o8.reads_n; obtain rfl : n8 = 0 := r8.len.symm.trans HL.out; have z8 := d7.below b8)
            go_ret
            have hB := HBB.out
            have hJ := HJ.out
            refine ⟨congrArg (fun z => Ending.returned (Value.int .u64 z)) ?_, z8.z.bl⟩
            rw [show b = 0 by omega]
            decide
          · have HL := Lib.hid (show (digs U m).length = 1 by rw [Dig.digs_one U_two (show m < U by unfold U; omega) h0]; rfl)
            have HR := Lib.hid (show rd (digs U m) 0 = m by rw [Dig.digs_one U_two (show m < U by unfold U; omega) h0]; rfl)
            clear hX
            by_cases hE : 255 ≤ j
            · have e8 := decide_eq_true (show (255 : Int) ≤ (j : Int) by omega)
              go_wp2_with (first
                | (go_at_call 45; (with_reducible refine (HO8.out _ r77).mono ?_); rintro e v8 ⟨v9, rfl, o8, b8⟩; obtain ⟨A8, n8, c8, rfl, r8⟩ := o8.reads_n; obtain rfl : n8 = 1 := r8.len.symm.trans HL.out; obtain ⟨bq, oq, rfl, _⟩ := r8.at_ (j := 0) Nat.one_pos; have z8 := d7.below b8; have k88 := z8.keep)
                | (go_at_call 43; (with_reducible refine (Sh.bias_n _).mono ?_); rintro e v9 ⟨rfl, b9⟩; have z9 := z8.below b9; have k9 := z9.keep))
              go_ret
              have hB := HBB.out
              refine ⟨congrArg (fun z => Ending.returned (Value.int .u64 z)) ?_, z9.z.bl⟩
              rw [show min b 2139095040 = 2139095040 by omega]
              decide
            · have e8 := decide_eq_false (show ¬ (255 : Int) ≤ (j : Int) by omega)
              go_wp2_with (first
                | (go_at_call 45; (with_reducible refine (HO8.out _ r77).mono ?_); rintro e v8 ⟨v9, rfl, o8, b8⟩; obtain ⟨A8, n8, c8, rfl, r8⟩ := o8.reads_n; obtain rfl : n8 = 1 := r8.len.symm.trans HL.out; obtain ⟨bq, oq, rfl, _⟩ := r8.at_ (j := 0) Nat.one_pos; have z8 := d7.below b8; have k88 := z8.keep)
                | (go_at_call 43; (with_reducible refine (Sh.bias_n _).mono ?_); rintro e v9 ⟨rfl, b9⟩; have z9 := z8.below b9; have k9 := z9.keep))
              have kq := first_cell r8 HR.out b9
              go_quiet (fail)
              have zq := on z9.z.bl (drewN_below _ nq)
              have hB := HBB.out
              by_cases hT : 2139095040 ≤ j * 8388608 + m
              · have e9 := decide_eq_true (show (2139095040 : Int) ≤ (j : Int) * 8388608 + (m : Int) by omega)
                clear hB
                go_wp2
                go_ret
                have hB := HBB.out
                refine ⟨congrArg (fun z => Ending.returned (Value.int .u64 z)) ?_, zq⟩
                rw [show min b 2139095040 = 2139095040 by omega]
                decide
              · have e9 := decide_eq_false (show ¬ (2139095040 : Int) ≤ (j : Int) * 8388608 + (m : Int) by omega)
                clear hB
                go_wp2
                go_ret
                have hB := HBB.out
                refine ⟨congrArg (fun z => Ending.returned (Value.int .u64 z)) ?_, zq⟩
                rw [← HO.out]
                exact congrArg (Go.bits .or .u64 _) (show (j : Int) * 8388608 + (m : Int) = ((min b 2139095040 : Nat) : Int) by omega)
end Go.Proofs.YtfddokfnplehkaaGreatDoor.Nr

/- Layer 4, the document: To, walked case by case. -/
set_option linter.unusedSimpArgs false
set_option linter.unusedVariables false
namespace Go.Proofs.YtfddokfnplehkaaGreatDoor.Nr
open Go.RowKit Go.Proofs.YtfddokfnplehkaaGreatDoor.Dig Go.Proofs.YtfddokfnplehkaaGreatDoor.W Go.Proofs.YtfddokfnplehkaaGreatDoor.Nat Go.Proofs.YtfddokfnplehkaaGreatDoor.Wh Go.Proofs.YtfddokfnplehkaaGreatDoor.Td Go.Proofs.YtfddokfnplehkaaGreatDoor.Bu Go.Proofs.YtfddokfnplehkaaGreatDoor.Tx Go.Proofs.YtfddokfnplehkaaGreatDoor.Sp
open Go.Proofs.YtfddokfnplehkaaGreatDoor.Rf (V V_two V_pos)
open Go.Proofs.YtfddokfnplehkaaGreatDoor.Rd (stand Formed fits mayB)
open Go.Proofs.YtfddokfnplehkaaGreatDoor.Dc (on bk_two four dec str)

set_option maxHeartbeats 16000000 in
set_option maxRecDepth 100000 in
theorem rto_nf0_w (S : ByteArray) (k N D bn bd k0 b : Nat) (R : Nat → Nat) (w : World) (hk : k ≤ 3000) (hbn : bn ≤ 8000) (hbd : bd ≤ 11000) (i1 : S.toList.isEmpty = false) (i2 : (S.toList == []) = false) (hkp : 0 < k)
    (HOf : ∀ w1, Calls Tryz.prog 24 #[.string S] w1 (Gives w1 .u32 (digs V N)))
    (HPw : ∀ (y : Int), y = (k : Nat) → ∀ w1, Calls Tryz.prog 25 #[.int .i64 10, .int .i64 y] w1 (Gives w1 .u32 (digs V D)))
    (HN : ∀ (A : Option Addr) (n c : Nat) (V1 : World), SI V1 .u32 A n c (digs V N) → Calls Tryz.prog 42 #[.slice A n c] V1 fun e w' => e = .returned (.int .i64 (bn : Nat)) ∧ V1 = w')
    (HD : ∀ (A : Option Addr) (n c : Nat) (V1 : World), SI V1 .u32 A n c (digs V D) → Calls Tryz.prog 42 #[.slice A n c] V1 fun e w' => e = .returned (.int .i64 (bd : Nat)) ∧ V1 = w')
    (HRo : ∀ (A A' : Option Addr) (n c n' c' : Nat) (V1 : World), SI V1 .u32 A n c (digs V N) → SI V1 .u32 A' n' c' (digs V D) → ∀ (j : Nat) (y : Int), y = 1074 - (j : Int) → j ≤ 9000 + 1074 → Calls Tryz.prog 44 #[.slice A n c, .slice A' n' c', .int .i64 y] V1 (Gives V1 .u32 (digs V (R j))))
    (HST : ∀ j, 2 ^ (52 + 1) ≤ R j → j < 8000 + 1074) (HNO : ∀ j, R j < 2 ^ (52 + 1) → (j = 0 ∨ 2 ^ (52 + 1) ≤ R (j - 1)) → b = j * 2 ^ 52 + R j) (HNX : ∀ j, (j = 0 ∨ 2 ^ (52 + 1) ≤ R (j - 1)) → j = 0 ∨ 2 ^ 52 ≤ R j)
    (HXB : ∀ (j : Nat) (V1 : World) (A : Option Addr) (n c : Nat), SI V1 .u32 A n c (digs V (R j)) → Calls Tryz.prog 42 #[.slice A n c] V1 fun e w' => e = .returned (.int .i64 (nbits (R j) : Nat)) ∧ V1 = w')
    (HOu : ∀ (j : Nat) (V1 : World) (A : Option Addr) (n c : Nat), SI V1 .u32 A n c (digs V (R j)) → Calls Tryz.prog 45 #[.slice A n c] V1 (GivesOwn V1 24 .u64 (digs U (R j))))
    (hlt : (bn : Int) - bd - 52 - 2 < -1074) (hk1 : k0 ≤ 8000 + 1074) (hk0 : (k0 : Int) - 1074 = -1074) (HS : k0 = 0 ∨ 2 ^ (52 + 1) ≤ R (k0 - 1)) :
    Calls Tryz.prog 14 #[.agg #[.int .i64 52, .int .i64 11], .agg #[.int .i64 0, .bool false, .string S, .int .i64 (-(k : Int))]] w fun e w' => e = .returned (.int .u64 ((sg_w false ||| min b 9218868437227405312 : Nat) : Int)) ∧ Below w.heap.size w w' := by
  have HB := Lib.hid (KD.start w 52 11 0 false S (-(k : Int)))
  have S1 := Lib.hid (show IntKind.i64.wrap ((bn : Int) - bd) = (bn : Int) - bd from IntWalk.i64_in _ (by omega))
  have S2 := Lib.hid (show IntKind.i64.wrap ((bn : Int) - bd - 52) = (bn : Int) - bd - 52 from IntWalk.i64_in _ (by omega))
  have S3 := Lib.hid (show IntKind.i64.wrap ((bn : Int) - bd - 52 - 2) = (bn : Int) - bd - 52 - 2 from IntWalk.i64_in _ (by omega))
  have HO := Lib.hid (Sh.or_nat (sg_w false) (min b 9218868437227405312) (sg_lt_w false) (by omega))
  have hx1 := decide_eq_false (show ¬ (0 : Int) ≤ -(k : Int) by omega)
  replace HOf := Lib.hid HOf
  replace HPw := Lib.hid HPw
  replace HN := Lib.hid HN
  replace HD := Lib.hid HD
  replace HRo := Lib.hid HRo
  replace HST := Lib.hid HST
  replace HNO := Lib.hid HNO
  replace HNX := Lib.hid HNX
  replace HXB := Lib.hid HXB
  replace HOu := Lib.hid HOu
  replace HS := Lib.hid HS
  obtain rfl : k0 = 0 := by omega
  clear hk0
  go_enter Tryz.func14, Tryz.ntmps14
  go_wp2
  go_quiet (fail)
  have z1 := HB.out.below (drewN_below _ nq)
  generalize World.drewN _ nq = Y at *
  have k1 := z1.keep
  go_upto_region 15 with (first
    | (go_at_call 24; (with_reducible refine (HOf.out _).mono ?_); rintro e w1 ⟨A1, n1, c1, rfl, r1, b1⟩; have a1 := alloc_below w1 (.cells #[.int .u32 1] 34); have z2 := (z1.below b1).below a1; have k2 := z2.keep; have q1 := one16 w1; have r11 := r1.below a1)
    | (go_at_call 25; (with_reducible refine (HPw.out _ ?_ _).mono ?_); (first | rfl | omega); rintro e w2 ⟨A2, n2, c2, rfl, r2, b2⟩; have z3 := z2.below b2; have r12 := r11.below b2; have q2 := q1.below b2))
  have Z : RT w w2 52 11 0 false S (-(k : Int)) A1 n1 c1 N A2 n2 c2 D := ⟨z3, r12, r2⟩
  clear r1 r2 r11 r12 q1 q2 b1 b2 a1 z2 z3 k2
  have y0 := Z.drew
  clear Z z1 k1 HB HOf HPw 
  go_region_held3 (fun w' => w'.cell? ⟨w.heap.size, 0, none⟩ = some (.int .i64 52) ∧ w'.cell? ⟨w.heap.size, 1, none⟩ = some (.int .i64 11))
    (first | (with_reducible exact y0.keep))
    (first
      | (go_at_call 42; first
        | ((with_reducible refine (HN.out _ _ _ _ y0.a).mono ?_); rintro e u0 ⟨rfl, rfl⟩)
        | ((with_reducible refine (HD.out _ _ _ _ y0.b).mono ?_); rintro e u0 ⟨rfl, rfl⟩)))
  all_goals
    rw [S1.out, S2.out, S3.out]
    have ky := y0.keep
    clear S1 S2 S3 HN HD
    have e3 := decide_eq_true (show (bn : Int) - bd - 52 - 2 < -1074 by omega)
    clear hlt
    go_wp2_with (first
      | (go_at_call 43; first
        | ((with_reducible refine (Sh.bias_w _).mono ?_); have tag := y1; rintro e v2 ⟨rfl, bb2⟩; have y2 := y1.below bb2; have k2 := y2.keep)
        | ((with_reducible refine (Sh.bias_w _).mono ?_); rintro e v1 ⟨rfl, bb1⟩; have y1 := y0.below bb1; have k1 := y1.keep))
      | (go_at_call 44; (with_reducible refine (HRo.out _ _ _ _ _ _ _ y2.a y2.b 0 _ ?_ ?_).mono ?_); (first | rfl | omega); (omega); rintro e v3 ⟨A6, n6, c6, rfl, r6, b6⟩; have y3 := y2.below b6))
    go_loopw [9, 10] (fun z v wr => ∃ (j : Nat) (A7 : Option Addr) (n7 c7 : Nat), BJ_w R z v j A7 n7 c7 wr ∧ RT w wr 52 11 0 false S (-(k : Int)) A1 n1 c1 N A2 n2 c2 D) (fun z _ _ => (8001 - intOf z).toNat)
    case atStart => exact ⟨0, A6, n6, c6, ⟨congrArg (Value.int .i64) (by omega), rfl, r6, .inl rfl, hk1⟩, y3⟩
    case round =>
      obtain ⟨j, A7, n7, c7, ⟨rfl, rfl, r7, hs, hj⟩, z7⟩ := hrel
      clear ky y0 y1 y3 r6 b6 hk1 HS y2 bb1 bb2
      have d7 := z7.drew
      have kk := z7.keep
      have m7 := HXB.out j _ A7 n7 c7 (r7.below (Below.refl _ _).drew)
      by_cases hm : 2 ^ (52 + 1) ≤ R j
      · have hlt := HST.out j hm
        have e7 := decide_eq_true (show (52 : Int) + 1 < (nbits (R j) : Int) from bits_big.2 hm)
        rw [show (52 : Int) + 1 = (53 : Int) by decide, show (53 : Int) = IntKind.i64.wrap 53 by decide] at e7
        have HM := Lib.hid hm
        clear HNO HOu HNX hm
        generalize hnb : nbits (R j) = nb at *
        clear hnb
        have M7 := Lib.hid m7
        clear m7
        go_wp2
        clear kk
        go_region_held3 (fun w' => w'.cell? ⟨w.heap.size, 0, none⟩ = some (.int .i64 52) ∧ w'.cell? ⟨w.heap.size, 1, none⟩ = some (.int .i64 11))
          (first | (with_reducible exact d7.keep))
          (first | (go_at_call 42; (with_reducible refine M7.out.mono ?_); rintro e u0 ⟨rfl, rfl⟩))
        all_goals
          have k8 := d7.keep
          go_wp2_with (go_at_call 44; (with_reducible refine (HRo.out _ _ _ _ _ _ _ d7.a d7.b (j + 1) _ ?_ ?_).mono ?_); (omega); (omega); rintro e v8 ⟨A8, n8, c8, rfl, r8, b8⟩; have z8 := d7.below b8)
          go_roundw
          case rel => exact ⟨j + 1, A8, n8, c8, ⟨congrArg (Value.int .i64) (by omega), rfl, r8, .inr HM.out, by omega⟩, z8⟩
          case measure => simp [intOf]; omega
      · have hm' := Nat.lt_of_not_le hm
        have e7 := decide_eq_false (show ¬ (52 : Int) + 1 < (nbits (R j) : Int) from fun q => hm (bits_big.1 q))
        rw [show (52 : Int) + 1 = (53 : Int) by decide, show (53 : Int) = IntKind.i64.wrap 53 by decide] at e7
        have hB := HNO.out j hm' hs
        have hX := HNX.out j hs
        have HO8 := Lib.hid (fun (V1 : World) (z : SI V1 .u32 A7 n7 c7 (digs V (R j))) => HOu.out j V1 A7 n7 c7 z)
        clear HNO HOu HNX HST HRo HXB hm hs
        generalize hnb : nbits (R j) = nb at *
        generalize R j = m at *
        clear hnb
        simp only [Nat.reducePow, Nat.reduceAdd] at hB hX hm'
        have M7 := Lib.hid m7
        have HBB := Lib.hid hB
        clear m7 hB
        go_wp2
        clear kk
        go_region_held3 (fun w' => w'.cell? ⟨w.heap.size, 0, none⟩ = some (.int .i64 52) ∧ w'.cell? ⟨w.heap.size, 1, none⟩ = some (.int .i64 11))
          (first | (with_reducible exact d7.keep))
          (first | (go_at_call 42; (with_reducible refine M7.out.mono ?_); rintro e u0 ⟨rfl, rfl⟩))
        all_goals
          have k8 := d7.keep
          have r77 := r7.below (Below.refl wr.heap.size wr).drew
          clear M7 e7
          by_cases h0 : m = 0
          · subst h0
            have HJ := Lib.hid (show j = 0 by omega)
            have HL := Lib.hid (show (digs U 0).length = 0 by rw [digs_zero]; rfl)
            clear hX
            go_wp2_with (go_at_call 45; (with_reducible refine (HO8.out _ r77).mono ?_); rintro e v8 ⟨v9, rfl, o8, b8⟩; obtain ⟨A8, n8, c8, rfl, r8⟩ := o8.reads_n; obtain rfl : n8 = 0 := r8.len.symm.trans HL.out; have z8 := d7.below b8)
            go_ret
            have hB := HBB.out
            have hJ := HJ.out
            refine ⟨congrArg (fun z => Ending.returned (Value.int .u64 z)) ?_, z8.z.bl⟩
            rw [show b = 0 by omega]
            decide
          · have HL := Lib.hid (show (digs U m).length = 1 by rw [Dig.digs_one U_two (show m < U by unfold U; omega) h0]; rfl)
            have HR := Lib.hid (show rd (digs U m) 0 = m by rw [Dig.digs_one U_two (show m < U by unfold U; omega) h0]; rfl)
            clear hX
            by_cases hE : 2047 ≤ j
            · have e8 := decide_eq_true (show (2047 : Int) ≤ (j : Int) by omega)
              go_wp2_with (first
                | (go_at_call 45; (with_reducible refine (HO8.out _ r77).mono ?_); rintro e v8 ⟨v9, rfl, o8, b8⟩; obtain ⟨A8, n8, c8, rfl, r8⟩ := o8.reads_n; obtain rfl : n8 = 1 := r8.len.symm.trans HL.out; obtain ⟨bq, oq, rfl, _⟩ := r8.at_ (j := 0) Nat.one_pos; have z8 := d7.below b8; have k88 := z8.keep)
                | (go_at_call 43; (with_reducible refine (Sh.bias_w _).mono ?_); rintro e v9 ⟨rfl, b9⟩; have z9 := z8.below b9; have k9 := z9.keep))
              go_ret
              have hB := HBB.out
              refine ⟨congrArg (fun z => Ending.returned (Value.int .u64 z)) ?_, z9.z.bl⟩
              rw [show min b 9218868437227405312 = 9218868437227405312 by omega]
              decide
            · have e8 := decide_eq_false (show ¬ (2047 : Int) ≤ (j : Int) by omega)
              go_wp2_with (first
                | (go_at_call 45; (with_reducible refine (HO8.out _ r77).mono ?_); rintro e v8 ⟨v9, rfl, o8, b8⟩; obtain ⟨A8, n8, c8, rfl, r8⟩ := o8.reads_n; obtain rfl : n8 = 1 := r8.len.symm.trans HL.out; obtain ⟨bq, oq, rfl, _⟩ := r8.at_ (j := 0) Nat.one_pos; have z8 := d7.below b8; have k88 := z8.keep)
                | (go_at_call 43; (with_reducible refine (Sh.bias_w _).mono ?_); rintro e v9 ⟨rfl, b9⟩; have z9 := z8.below b9; have k9 := z9.keep))
              have kq := first_cell r8 HR.out b9
              go_quiet (fail)
              have zq := on z9.z.bl (drewN_below _ nq)
              have hB := HBB.out
              by_cases hT : 9218868437227405312 ≤ j * 4503599627370496 + m
              · have e9 := decide_eq_true (show (9218868437227405312 : Int) ≤ (j : Int) * 4503599627370496 + (m : Int) by omega)
                clear hB
                go_wp2
                go_ret
                have hB := HBB.out
                refine ⟨congrArg (fun z => Ending.returned (Value.int .u64 z)) ?_, zq⟩
                rw [show min b 9218868437227405312 = 9218868437227405312 by omega]
                decide
              · have e9 := decide_eq_false (show ¬ (9218868437227405312 : Int) ≤ (j : Int) * 4503599627370496 + (m : Int) by omega)
                clear hB
                go_wp2
                go_ret
                have hB := HBB.out
                refine ⟨congrArg (fun z => Ending.returned (Value.int .u64 z)) ?_, zq⟩
                rw [← HO.out]
                exact congrArg (Go.bits .or .u64 _) (show (j : Int) * 4503599627370496 + (m : Int) = ((min b 9218868437227405312 : Nat) : Int) by omega)
set_option maxHeartbeats 16000000 in
set_option maxRecDepth 100000 in
theorem rto_nfk_w (S : ByteArray) (k N D bn bd k0 b : Nat) (R : Nat → Nat) (w : World) (hk : k ≤ 3000) (hbn : bn ≤ 8000) (hbd : bd ≤ 11000) (i1 : S.toList.isEmpty = false) (i2 : (S.toList == []) = false) (hkp : 0 < k)
    (HOf : ∀ w1, Calls Tryz.prog 24 #[.string S] w1 (Gives w1 .u32 (digs V N)))
    (HPw : ∀ (y : Int), y = (k : Nat) → ∀ w1, Calls Tryz.prog 25 #[.int .i64 10, .int .i64 y] w1 (Gives w1 .u32 (digs V D)))
    (HN : ∀ (A : Option Addr) (n c : Nat) (V1 : World), SI V1 .u32 A n c (digs V N) → Calls Tryz.prog 42 #[.slice A n c] V1 fun e w' => e = .returned (.int .i64 (bn : Nat)) ∧ V1 = w')
    (HD : ∀ (A : Option Addr) (n c : Nat) (V1 : World), SI V1 .u32 A n c (digs V D) → Calls Tryz.prog 42 #[.slice A n c] V1 fun e w' => e = .returned (.int .i64 (bd : Nat)) ∧ V1 = w')
    (HRo : ∀ (A A' : Option Addr) (n c n' c' : Nat) (V1 : World), SI V1 .u32 A n c (digs V N) → SI V1 .u32 A' n' c' (digs V D) → ∀ (j : Nat) (y : Int), y = 1074 - (j : Int) → j ≤ 9000 + 1074 → Calls Tryz.prog 44 #[.slice A n c, .slice A' n' c', .int .i64 y] V1 (Gives V1 .u32 (digs V (R j))))
    (HST : ∀ j, 2 ^ (52 + 1) ≤ R j → j < 8000 + 1074) (HNO : ∀ j, R j < 2 ^ (52 + 1) → (j = 0 ∨ 2 ^ (52 + 1) ≤ R (j - 1)) → b = j * 2 ^ 52 + R j) (HNX : ∀ j, (j = 0 ∨ 2 ^ (52 + 1) ≤ R (j - 1)) → j = 0 ∨ 2 ^ 52 ≤ R j)
    (HXB : ∀ (j : Nat) (V1 : World) (A : Option Addr) (n c : Nat), SI V1 .u32 A n c (digs V (R j)) → Calls Tryz.prog 42 #[.slice A n c] V1 fun e w' => e = .returned (.int .i64 (nbits (R j) : Nat)) ∧ V1 = w')
    (HOu : ∀ (j : Nat) (V1 : World) (A : Option Addr) (n c : Nat), SI V1 .u32 A n c (digs V (R j)) → Calls Tryz.prog 45 #[.slice A n c] V1 (GivesOwn V1 24 .u64 (digs U (R j))))
    (hlt : ¬ (bn : Int) - bd - 52 - 2 < -1074) (hk1 : k0 ≤ 8000 + 1074) (hk0 : (k0 : Int) - 1074 = (bn : Int) - bd - 52 - 2) (HS : k0 = 0 ∨ 2 ^ (52 + 1) ≤ R (k0 - 1)) :
    Calls Tryz.prog 14 #[.agg #[.int .i64 52, .int .i64 11], .agg #[.int .i64 0, .bool false, .string S, .int .i64 (-(k : Int))]] w fun e w' => e = .returned (.int .u64 ((sg_w false ||| min b 9218868437227405312 : Nat) : Int)) ∧ Below w.heap.size w w' := by
  have HB := Lib.hid (KD.start w 52 11 0 false S (-(k : Int)))
  have S1 := Lib.hid (show IntKind.i64.wrap ((bn : Int) - bd) = (bn : Int) - bd from IntWalk.i64_in _ (by omega))
  have S2 := Lib.hid (show IntKind.i64.wrap ((bn : Int) - bd - 52) = (bn : Int) - bd - 52 from IntWalk.i64_in _ (by omega))
  have S3 := Lib.hid (show IntKind.i64.wrap ((bn : Int) - bd - 52 - 2) = (bn : Int) - bd - 52 - 2 from IntWalk.i64_in _ (by omega))
  have HO := Lib.hid (Sh.or_nat (sg_w false) (min b 9218868437227405312) (sg_lt_w false) (by omega))
  have hx1 := decide_eq_false (show ¬ (0 : Int) ≤ -(k : Int) by omega)
  replace HOf := Lib.hid HOf
  replace HPw := Lib.hid HPw
  replace HN := Lib.hid HN
  replace HD := Lib.hid HD
  replace HRo := Lib.hid HRo
  replace HST := Lib.hid HST
  replace HNO := Lib.hid HNO
  replace HNX := Lib.hid HNX
  replace HXB := Lib.hid HXB
  replace HOu := Lib.hid HOu
  replace HS := Lib.hid HS
  have HK := Lib.hid hk0
  clear hk0
  go_enter Tryz.func14, Tryz.ntmps14
  go_wp2
  go_quiet (fail)
  have z1 := HB.out.below (drewN_below _ nq)
  generalize World.drewN _ nq = Y at *
  have k1 := z1.keep
  go_upto_region 15 with (first
    | (go_at_call 24; (with_reducible refine (HOf.out _).mono ?_); rintro e w1 ⟨A1, n1, c1, rfl, r1, b1⟩; have a1 := alloc_below w1 (.cells #[.int .u32 1] 34); have z2 := (z1.below b1).below a1; have k2 := z2.keep; have q1 := one16 w1; have r11 := r1.below a1)
    | (go_at_call 25; (with_reducible refine (HPw.out _ ?_ _).mono ?_); (first | rfl | omega); rintro e w2 ⟨A2, n2, c2, rfl, r2, b2⟩; have z3 := z2.below b2; have r12 := r11.below b2; have q2 := q1.below b2))
  have Z : RT w w2 52 11 0 false S (-(k : Int)) A1 n1 c1 N A2 n2 c2 D := ⟨z3, r12, r2⟩
  clear r1 r2 r11 r12 q1 q2 b1 b2 a1 z2 z3 k2
  have y0 := Z.drew
  clear Z z1 k1 HB HOf HPw 
  go_region_held3 (fun w' => w'.cell? ⟨w.heap.size, 0, none⟩ = some (.int .i64 52) ∧ w'.cell? ⟨w.heap.size, 1, none⟩ = some (.int .i64 11))
    (first | (with_reducible exact y0.keep))
    (first
      | (go_at_call 42; first
        | ((with_reducible refine (HN.out _ _ _ _ y0.a).mono ?_); rintro e u0 ⟨rfl, rfl⟩)
        | ((with_reducible refine (HD.out _ _ _ _ y0.b).mono ?_); rintro e u0 ⟨rfl, rfl⟩)))
  all_goals
    rw [S1.out, S2.out, S3.out]
    have ky := y0.keep
    clear S1 S2 S3 HN HD
    have e3 := decide_eq_false (show ¬ (bn : Int) - bd - 52 - 2 < -1074 by omega)
    clear hlt
    go_wp2_with (first
      | (go_at_call 43; (with_reducible refine (Sh.bias_w _).mono ?_); rintro e v1 ⟨rfl, bb1⟩; have y1 := y0.below bb1; have k1 := y1.keep)
      | (go_at_call 44; (with_reducible refine (HRo.out _ _ _ _ _ _ _ y1.a y1.b k0 _ ?_ ?_).mono ?_); (have := HK.out; omega); (omega); rintro e v3 ⟨A6, n6, c6, rfl, r6, b6⟩; have y3 := y1.below b6))
    go_loopw [9, 10] (fun z v wr => ∃ (j : Nat) (A7 : Option Addr) (n7 c7 : Nat), BJ_w R z v j A7 n7 c7 wr ∧ RT w wr 52 11 0 false S (-(k : Int)) A1 n1 c1 N A2 n2 c2 D) (fun z _ _ => (8001 - intOf z).toNat)
    case atStart => exact ⟨k0, A6, n6, c6, ⟨congrArg (Value.int .i64) (by have := HK.out; omega), rfl, r6, HS.out, hk1⟩, y3⟩
    case round =>
      obtain ⟨j, A7, n7, c7, ⟨rfl, rfl, r7, hs, hj⟩, z7⟩ := hrel
      clear ky y0 y1 y3 r6 b6 hk1 HS bb1 HK
      have d7 := z7.drew
      have kk := z7.keep
      have m7 := HXB.out j _ A7 n7 c7 (r7.below (Below.refl _ _).drew)
      by_cases hm : 2 ^ (52 + 1) ≤ R j
      · have hlt := HST.out j hm
        have e7 := decide_eq_true (show (52 : Int) + 1 < (nbits (R j) : Int) from bits_big.2 hm)
        rw [show (52 : Int) + 1 = (53 : Int) by decide, show (53 : Int) = IntKind.i64.wrap 53 by decide] at e7
        have HM := Lib.hid hm
        clear HNO HOu HNX hm
        generalize hnb : nbits (R j) = nb at *
        clear hnb
        have M7 := Lib.hid m7
        clear m7
        go_wp2
        clear kk
        go_region_held3 (fun w' => w'.cell? ⟨w.heap.size, 0, none⟩ = some (.int .i64 52) ∧ w'.cell? ⟨w.heap.size, 1, none⟩ = some (.int .i64 11))
          (first | (with_reducible exact d7.keep))
          (first | (go_at_call 42; (with_reducible refine M7.out.mono ?_); rintro e u0 ⟨rfl, rfl⟩))
        all_goals
          have k8 := d7.keep
          go_wp2_with (go_at_call 44; (with_reducible refine (HRo.out _ _ _ _ _ _ _ d7.a d7.b (j + 1) _ ?_ ?_).mono ?_); (omega); (omega); rintro e v8 ⟨A8, n8, c8, rfl, r8, b8⟩; have z8 := d7.below b8)
          go_roundw
          case rel => exact ⟨j + 1, A8, n8, c8, ⟨congrArg (Value.int .i64) (by omega), rfl, r8, .inr HM.out, by omega⟩, z8⟩
          case measure => simp [intOf]; omega
      · have hm' := Nat.lt_of_not_le hm
        have e7 := decide_eq_false (show ¬ (52 : Int) + 1 < (nbits (R j) : Int) from fun q => hm (bits_big.1 q))
        rw [show (52 : Int) + 1 = (53 : Int) by decide, show (53 : Int) = IntKind.i64.wrap 53 by decide] at e7
        have hB := HNO.out j hm' hs
        have hX := HNX.out j hs
        have HO8 := Lib.hid (fun (V1 : World) (z : SI V1 .u32 A7 n7 c7 (digs V (R j))) => HOu.out j V1 A7 n7 c7 z)
        clear HNO HOu HNX HST HRo HXB hm hs
        generalize hnb : nbits (R j) = nb at *
        generalize R j = m at *
        clear hnb
        simp only [Nat.reducePow, Nat.reduceAdd] at hB hX hm'
        have M7 := Lib.hid m7
        have HBB := Lib.hid hB
        clear m7 hB
        go_wp2
        clear kk
        go_region_held3 (fun w' => w'.cell? ⟨w.heap.size, 0, none⟩ = some (.int .i64 52) ∧ w'.cell? ⟨w.heap.size, 1, none⟩ = some (.int .i64 11))
          (first | (with_reducible exact d7.keep))
          (first | (go_at_call 42; (with_reducible refine M7.out.mono ?_); rintro e u0 ⟨rfl, rfl⟩))
        all_goals
          have k8 := d7.keep
          have r77 := r7.below (Below.refl wr.heap.size wr).drew
          clear M7 e7
          by_cases h0 : m = 0
          · subst h0
            have HJ := Lib.hid (show j = 0 by omega)
            have HL := Lib.hid (show (digs U 0).length = 0 by rw [digs_zero]; rfl)
            clear hX
            go_wp2_with (go_at_call 45; (with_reducible refine (HO8.out _ r77).mono ?_); rintro e v8 ⟨v9, rfl, o8, b8⟩; obtain ⟨A8, n8, c8, rfl, r8⟩ := o8.reads_n; obtain rfl : n8 = 0 := r8.len.symm.trans HL.out; have z8 := d7.below b8)
            go_ret
            have hB := HBB.out
            have hJ := HJ.out
            refine ⟨congrArg (fun z => Ending.returned (Value.int .u64 z)) ?_, z8.z.bl⟩
            rw [show b = 0 by omega]
            decide
          · have HL := Lib.hid (show (digs U m).length = 1 by rw [Dig.digs_one U_two (show m < U by unfold U; omega) h0]; rfl)
            have HR := Lib.hid (show rd (digs U m) 0 = m by rw [Dig.digs_one U_two (show m < U by unfold U; omega) h0]; rfl)
            clear hX
            by_cases hE : 2047 ≤ j
            · have e8 := decide_eq_true (show (2047 : Int) ≤ (j : Int) by omega)
              go_wp2_with (first
                | (go_at_call 45; (with_reducible refine (HO8.out _ r77).mono ?_); rintro e v8 ⟨v9, rfl, o8, b8⟩; obtain ⟨A8, n8, c8, rfl, r8⟩ := o8.reads_n; obtain rfl : n8 = 1 := r8.len.symm.trans HL.out; obtain ⟨bq, oq, rfl, _⟩ := r8.at_ (j := 0) Nat.one_pos; have z8 := d7.below b8; have k88 := z8.keep)
                | (go_at_call 43; (with_reducible refine (Sh.bias_w _).mono ?_); rintro e v9 ⟨rfl, b9⟩; have z9 := z8.below b9; have k9 := z9.keep))
              go_ret
              have hB := HBB.out
              refine ⟨congrArg (fun z => Ending.returned (Value.int .u64 z)) ?_, z9.z.bl⟩
              rw [show min b 9218868437227405312 = 9218868437227405312 by omega]
              decide
            · have e8 := decide_eq_false (show ¬ (2047 : Int) ≤ (j : Int) by omega)
              go_wp2_with (first
                | (go_at_call 45; (with_reducible refine (HO8.out _ r77).mono ?_); rintro e v8 ⟨v9, rfl, o8, b8⟩; obtain ⟨A8, n8, c8, rfl, r8⟩ := o8.reads_n; obtain rfl : n8 = 1 := r8.len.symm.trans HL.out; obtain ⟨bq, oq, rfl, _⟩ := r8.at_ (j := 0) Nat.one_pos; have z8 := d7.below b8; have k88 := z8.keep)
                | (go_at_call 43; (with_reducible refine (Sh.bias_w _).mono ?_); rintro e v9 ⟨rfl, b9⟩; have z9 := z8.below b9; have k9 := z9.keep))
              have kq := first_cell r8 HR.out b9
              go_quiet (fail)
              have zq := on z9.z.bl (drewN_below _ nq)
              have hB := HBB.out
              by_cases hT : 9218868437227405312 ≤ j * 4503599627370496 + m
              · have e9 := decide_eq_true (show (9218868437227405312 : Int) ≤ (j : Int) * 4503599627370496 + (m : Int) by omega)
                clear hB
                go_wp2
                go_ret
                have hB := HBB.out
                refine ⟨congrArg (fun z => Ending.returned (Value.int .u64 z)) ?_, zq⟩
                rw [show min b 9218868437227405312 = 9218868437227405312 by omega]
                decide
              · have e9 := decide_eq_false (show ¬ (9218868437227405312 : Int) ≤ (j : Int) * 4503599627370496 + (m : Int) by omega)
                clear hB
                go_wp2
                go_ret
                have hB := HBB.out
                refine ⟨congrArg (fun z => Ending.returned (Value.int .u64 z)) ?_, zq⟩
                rw [← HO.out]
                exact congrArg (Go.bits .or .u64 _) (show (j : Int) * 4503599627370496 + (m : Int) = ((min b 9218868437227405312 : Nat) : Int) by omega)
set_option maxHeartbeats 16000000 in
set_option maxRecDepth 100000 in
theorem rto_nt0_w (S : ByteArray) (k N D bn bd k0 b : Nat) (R : Nat → Nat) (w : World) (hk : k ≤ 3000) (hbn : bn ≤ 8000) (hbd : bd ≤ 11000) (i1 : S.toList.isEmpty = false) (i2 : (S.toList == []) = false) (hkp : 0 < k)
    (HOf : ∀ w1, Calls Tryz.prog 24 #[.string S] w1 (Gives w1 .u32 (digs V N)))
    (HPw : ∀ (y : Int), y = (k : Nat) → ∀ w1, Calls Tryz.prog 25 #[.int .i64 10, .int .i64 y] w1 (Gives w1 .u32 (digs V D)))
    (HN : ∀ (A : Option Addr) (n c : Nat) (V1 : World), SI V1 .u32 A n c (digs V N) → Calls Tryz.prog 42 #[.slice A n c] V1 fun e w' => e = .returned (.int .i64 (bn : Nat)) ∧ V1 = w')
    (HD : ∀ (A : Option Addr) (n c : Nat) (V1 : World), SI V1 .u32 A n c (digs V D) → Calls Tryz.prog 42 #[.slice A n c] V1 fun e w' => e = .returned (.int .i64 (bd : Nat)) ∧ V1 = w')
    (HRo : ∀ (A A' : Option Addr) (n c n' c' : Nat) (V1 : World), SI V1 .u32 A n c (digs V N) → SI V1 .u32 A' n' c' (digs V D) → ∀ (j : Nat) (y : Int), y = 1074 - (j : Int) → j ≤ 9000 + 1074 → Calls Tryz.prog 44 #[.slice A n c, .slice A' n' c', .int .i64 y] V1 (Gives V1 .u32 (digs V (R j))))
    (HST : ∀ j, 2 ^ (52 + 1) ≤ R j → j < 8000 + 1074) (HNO : ∀ j, R j < 2 ^ (52 + 1) → (j = 0 ∨ 2 ^ (52 + 1) ≤ R (j - 1)) → b = j * 2 ^ 52 + R j) (HNX : ∀ j, (j = 0 ∨ 2 ^ (52 + 1) ≤ R (j - 1)) → j = 0 ∨ 2 ^ 52 ≤ R j)
    (HXB : ∀ (j : Nat) (V1 : World) (A : Option Addr) (n c : Nat), SI V1 .u32 A n c (digs V (R j)) → Calls Tryz.prog 42 #[.slice A n c] V1 fun e w' => e = .returned (.int .i64 (nbits (R j) : Nat)) ∧ V1 = w')
    (HOu : ∀ (j : Nat) (V1 : World) (A : Option Addr) (n c : Nat), SI V1 .u32 A n c (digs V (R j)) → Calls Tryz.prog 45 #[.slice A n c] V1 (GivesOwn V1 24 .u64 (digs U (R j))))
    (hlt : (bn : Int) - bd - 52 - 2 < -1074) (hk1 : k0 ≤ 8000 + 1074) (hk0 : (k0 : Int) - 1074 = -1074) (HS : k0 = 0 ∨ 2 ^ (52 + 1) ≤ R (k0 - 1)) :
    Calls Tryz.prog 14 #[.agg #[.int .i64 52, .int .i64 11], .agg #[.int .i64 0, .bool true, .string S, .int .i64 (-(k : Int))]] w fun e w' => e = .returned (.int .u64 ((sg_w true ||| min b 9218868437227405312 : Nat) : Int)) ∧ Below w.heap.size w w' := by
  have HB := Lib.hid (KD.start w 52 11 0 true S (-(k : Int)))
  have S1 := Lib.hid (show IntKind.i64.wrap ((bn : Int) - bd) = (bn : Int) - bd from IntWalk.i64_in _ (by omega))
  have S2 := Lib.hid (show IntKind.i64.wrap ((bn : Int) - bd - 52) = (bn : Int) - bd - 52 from IntWalk.i64_in _ (by omega))
  have S3 := Lib.hid (show IntKind.i64.wrap ((bn : Int) - bd - 52 - 2) = (bn : Int) - bd - 52 - 2 from IntWalk.i64_in _ (by omega))
  have HO := Lib.hid (Sh.or_nat (sg_w true) (min b 9218868437227405312) (sg_lt_w true) (by omega))
  have hx1 := decide_eq_false (show ¬ (0 : Int) ≤ -(k : Int) by omega)
  replace HOf := Lib.hid HOf
  replace HPw := Lib.hid HPw
  replace HN := Lib.hid HN
  replace HD := Lib.hid HD
  replace HRo := Lib.hid HRo
  replace HST := Lib.hid HST
  replace HNO := Lib.hid HNO
  replace HNX := Lib.hid HNX
  replace HXB := Lib.hid HXB
  replace HOu := Lib.hid HOu
  replace HS := Lib.hid HS
  obtain rfl : k0 = 0 := by omega
  clear hk0
  go_enter Tryz.func14, Tryz.ntmps14
  go_wp2
  go_quiet (fail)
  have z1 := HB.out.below (drewN_below _ nq)
  generalize World.drewN _ nq = Y at *
  have k1 := z1.keep
  go_upto_region 15 with (first
    | (go_at_call 24; (with_reducible refine (HOf.out _).mono ?_); rintro e w1 ⟨A1, n1, c1, rfl, r1, b1⟩; have a1 := alloc_below w1 (.cells #[.int .u32 1] 34); have z2 := (z1.below b1).below a1; have k2 := z2.keep; have q1 := one16 w1; have r11 := r1.below a1)
    | (go_at_call 25; (with_reducible refine (HPw.out _ ?_ _).mono ?_); (first | rfl | omega); rintro e w2 ⟨A2, n2, c2, rfl, r2, b2⟩; have z3 := z2.below b2; have r12 := r11.below b2; have q2 := q1.below b2))
  have Z : RT w w2 52 11 0 true S (-(k : Int)) A1 n1 c1 N A2 n2 c2 D := ⟨z3, r12, r2⟩
  clear r1 r2 r11 r12 q1 q2 b1 b2 a1 z2 z3 k2
  have y0 := Z.drew
  clear Z z1 k1 HB HOf HPw 
  go_region_held3 (fun w' => w'.cell? ⟨w.heap.size, 0, none⟩ = some (.int .i64 52) ∧ w'.cell? ⟨w.heap.size, 1, none⟩ = some (.int .i64 11))
    (first | (with_reducible exact y0.keep))
    (first
      | (go_at_call 42; first
        | ((with_reducible refine (HN.out _ _ _ _ y0.a).mono ?_); rintro e u0 ⟨rfl, rfl⟩)
        | ((with_reducible refine (HD.out _ _ _ _ y0.b).mono ?_); rintro e u0 ⟨rfl, rfl⟩)))
  all_goals
    rw [S1.out, S2.out, S3.out]
    have ky := y0.keep
    clear S1 S2 S3 HN HD
    have e3 := decide_eq_true (show (bn : Int) - bd - 52 - 2 < -1074 by omega)
    clear hlt
    go_wp2_with (first
      | (go_at_call 43; first
        | ((with_reducible refine (Sh.bias_w _).mono ?_); have tag := y1; rintro e v2 ⟨rfl, bb2⟩; have y2 := y1.below bb2; have k2 := y2.keep)
        | ((with_reducible refine (Sh.bias_w _).mono ?_); rintro e v1 ⟨rfl, bb1⟩; have y1 := y0.below bb1; have k1 := y1.keep))
      | (go_at_call 44; (with_reducible refine (HRo.out _ _ _ _ _ _ _ y2.a y2.b 0 _ ?_ ?_).mono ?_); (first | rfl | omega); (omega); rintro e v3 ⟨A6, n6, c6, rfl, r6, b6⟩; have y3 := y2.below b6))
    go_loopw [9, 10] (fun z v wr => ∃ (j : Nat) (A7 : Option Addr) (n7 c7 : Nat), BJ_w R z v j A7 n7 c7 wr ∧ RT w wr 52 11 0 true S (-(k : Int)) A1 n1 c1 N A2 n2 c2 D) (fun z _ _ => (8001 - intOf z).toNat)
    case atStart => exact ⟨0, A6, n6, c6, ⟨congrArg (Value.int .i64) (by omega), rfl, r6, .inl rfl, hk1⟩, y3⟩
    case round =>
      obtain ⟨j, A7, n7, c7, ⟨rfl, rfl, r7, hs, hj⟩, z7⟩ := hrel
      clear ky y0 y1 y3 r6 b6 hk1 HS y2 bb1 bb2
      have d7 := z7.drew
      have kk := z7.keep
      have m7 := HXB.out j _ A7 n7 c7 (r7.below (Below.refl _ _).drew)
      by_cases hm : 2 ^ (52 + 1) ≤ R j
      · have hlt := HST.out j hm
        have e7 := decide_eq_true (show (52 : Int) + 1 < (nbits (R j) : Int) from bits_big.2 hm)
        rw [show (52 : Int) + 1 = (53 : Int) by decide, show (53 : Int) = IntKind.i64.wrap 53 by decide] at e7
        have HM := Lib.hid hm
        clear HNO HOu HNX hm
        generalize hnb : nbits (R j) = nb at *
        clear hnb
        have M7 := Lib.hid m7
        clear m7
        go_wp2
        clear kk
        go_region_held3 (fun w' => w'.cell? ⟨w.heap.size, 0, none⟩ = some (.int .i64 52) ∧ w'.cell? ⟨w.heap.size, 1, none⟩ = some (.int .i64 11))
          (first | (with_reducible exact d7.keep))
          (first | (go_at_call 42; (with_reducible refine M7.out.mono ?_); rintro e u0 ⟨rfl, rfl⟩))
        all_goals
          have k8 := d7.keep
          go_wp2_with (go_at_call 44; (with_reducible refine (HRo.out _ _ _ _ _ _ _ d7.a d7.b (j + 1) _ ?_ ?_).mono ?_); (omega); (omega); rintro e v8 ⟨A8, n8, c8, rfl, r8, b8⟩; have z8 := d7.below b8)
          go_roundw
          case rel => exact ⟨j + 1, A8, n8, c8, ⟨congrArg (Value.int .i64) (by omega), rfl, r8, .inr HM.out, by omega⟩, z8⟩
          case measure => simp [intOf]; omega
      · have hm' := Nat.lt_of_not_le hm
        have e7 := decide_eq_false (show ¬ (52 : Int) + 1 < (nbits (R j) : Int) from fun q => hm (bits_big.1 q))
        rw [show (52 : Int) + 1 = (53 : Int) by decide, show (53 : Int) = IntKind.i64.wrap 53 by decide] at e7
        have hB := HNO.out j hm' hs
        have hX := HNX.out j hs
        have HO8 := Lib.hid (fun (V1 : World) (z : SI V1 .u32 A7 n7 c7 (digs V (R j))) => HOu.out j V1 A7 n7 c7 z)
        clear HNO HOu HNX HST HRo HXB hm hs
        generalize hnb : nbits (R j) = nb at *
        generalize R j = m at *
        clear hnb
        simp only [Nat.reducePow, Nat.reduceAdd] at hB hX hm'
        have M7 := Lib.hid m7
        have HBB := Lib.hid hB
        clear m7 hB
        go_wp2
        clear kk
        go_region_held3 (fun w' => w'.cell? ⟨w.heap.size, 0, none⟩ = some (.int .i64 52) ∧ w'.cell? ⟨w.heap.size, 1, none⟩ = some (.int .i64 11))
          (first | (with_reducible exact d7.keep))
          (first | (go_at_call 42; (with_reducible refine M7.out.mono ?_); rintro e u0 ⟨rfl, rfl⟩))
        all_goals
          have k8 := d7.keep
          have r77 := r7.below (Below.refl wr.heap.size wr).drew
          clear M7 e7
          by_cases h0 : m = 0
          · subst h0
            have HJ := Lib.hid (show j = 0 by omega)
            have HL := Lib.hid (show (digs U 0).length = 0 by rw [digs_zero]; rfl)
            clear hX
            go_wp2_with (go_at_call 45; (with_reducible refine (HO8.out _ r77).mono ?_); rintro e v8 ⟨v9, rfl, o8, b8⟩; obtain ⟨A8, n8, c8, rfl, r8⟩ := o8.reads_n; obtain rfl : n8 = 0 := r8.len.symm.trans HL.out; have z8 := d7.below b8)
            go_ret
            have hB := HBB.out
            have hJ := HJ.out
            refine ⟨congrArg (fun z => Ending.returned (Value.int .u64 z)) ?_, z8.z.bl⟩
            rw [show b = 0 by omega]
            decide
          · have HL := Lib.hid (show (digs U m).length = 1 by rw [Dig.digs_one U_two (show m < U by unfold U; omega) h0]; rfl)
            have HR := Lib.hid (show rd (digs U m) 0 = m by rw [Dig.digs_one U_two (show m < U by unfold U; omega) h0]; rfl)
            clear hX
            by_cases hE : 2047 ≤ j
            · have e8 := decide_eq_true (show (2047 : Int) ≤ (j : Int) by omega)
              go_wp2_with (first
                | (go_at_call 45; (with_reducible refine (HO8.out _ r77).mono ?_); rintro e v8 ⟨v9, rfl, o8, b8⟩; obtain ⟨A8, n8, c8, rfl, r8⟩ := o8.reads_n; obtain rfl : n8 = 1 := r8.len.symm.trans HL.out; obtain ⟨bq, oq, rfl, _⟩ := r8.at_ (j := 0) Nat.one_pos; have z8 := d7.below b8; have k88 := z8.keep)
                | (go_at_call 43; (with_reducible refine (Sh.bias_w _).mono ?_); rintro e v9 ⟨rfl, b9⟩; have z9 := z8.below b9; have k9 := z9.keep))
              go_ret
              have hB := HBB.out
              refine ⟨congrArg (fun z => Ending.returned (Value.int .u64 z)) ?_, z9.z.bl⟩
              rw [show min b 9218868437227405312 = 9218868437227405312 by omega]
              decide
            · have e8 := decide_eq_false (show ¬ (2047 : Int) ≤ (j : Int) by omega)
              go_wp2_with (first
                | (go_at_call 45; (with_reducible refine (HO8.out _ r77).mono ?_); rintro e v8 ⟨v9, rfl, o8, b8⟩; obtain ⟨A8, n8, c8, rfl, r8⟩ := o8.reads_n; obtain rfl : n8 = 1 := r8.len.symm.trans HL.out; obtain ⟨bq, oq, rfl, _⟩ := r8.at_ (j := 0) Nat.one_pos; have z8 := d7.below b8; have k88 := z8.keep)
                | (go_at_call 43; (with_reducible refine (Sh.bias_w _).mono ?_); rintro e v9 ⟨rfl, b9⟩; have z9 := z8.below b9; have k9 := z9.keep))
              have kq := first_cell r8 HR.out b9
              go_quiet (fail)
              have zq := on z9.z.bl (drewN_below _ nq)
              have hB := HBB.out
              by_cases hT : 9218868437227405312 ≤ j * 4503599627370496 + m
              · have e9 := decide_eq_true (show (9218868437227405312 : Int) ≤ (j : Int) * 4503599627370496 + (m : Int) by omega)
                clear hB
                go_wp2
                go_ret
                have hB := HBB.out
                refine ⟨congrArg (fun z => Ending.returned (Value.int .u64 z)) ?_, zq⟩
                rw [show min b 9218868437227405312 = 9218868437227405312 by omega]
                decide
              · have e9 := decide_eq_false (show ¬ (9218868437227405312 : Int) ≤ (j : Int) * 4503599627370496 + (m : Int) by omega)
                clear hB
                go_wp2
                go_ret
                have hB := HBB.out
                refine ⟨congrArg (fun z => Ending.returned (Value.int .u64 z)) ?_, zq⟩
                rw [← HO.out]
                exact congrArg (Go.bits .or .u64 _) (show (j : Int) * 4503599627370496 + (m : Int) = ((min b 9218868437227405312 : Nat) : Int) by omega)
set_option maxHeartbeats 16000000 in
set_option maxRecDepth 100000 in
theorem rto_ntk_w (S : ByteArray) (k N D bn bd k0 b : Nat) (R : Nat → Nat) (w : World) (hk : k ≤ 3000) (hbn : bn ≤ 8000) (hbd : bd ≤ 11000) (i1 : S.toList.isEmpty = false) (i2 : (S.toList == []) = false) (hkp : 0 < k)
    (HOf : ∀ w1, Calls Tryz.prog 24 #[.string S] w1 (Gives w1 .u32 (digs V N)))
    (HPw : ∀ (y : Int), y = (k : Nat) → ∀ w1, Calls Tryz.prog 25 #[.int .i64 10, .int .i64 y] w1 (Gives w1 .u32 (digs V D)))
    (HN : ∀ (A : Option Addr) (n c : Nat) (V1 : World), SI V1 .u32 A n c (digs V N) → Calls Tryz.prog 42 #[.slice A n c] V1 fun e w' => e = .returned (.int .i64 (bn : Nat)) ∧ V1 = w')
    (HD : ∀ (A : Option Addr) (n c : Nat) (V1 : World), SI V1 .u32 A n c (digs V D) → Calls Tryz.prog 42 #[.slice A n c] V1 fun e w' => e = .returned (.int .i64 (bd : Nat)) ∧ V1 = w')
    (HRo : ∀ (A A' : Option Addr) (n c n' c' : Nat) (V1 : World), SI V1 .u32 A n c (digs V N) → SI V1 .u32 A' n' c' (digs V D) → ∀ (j : Nat) (y : Int), y = 1074 - (j : Int) → j ≤ 9000 + 1074 → Calls Tryz.prog 44 #[.slice A n c, .slice A' n' c', .int .i64 y] V1 (Gives V1 .u32 (digs V (R j))))
    (HST : ∀ j, 2 ^ (52 + 1) ≤ R j → j < 8000 + 1074) (HNO : ∀ j, R j < 2 ^ (52 + 1) → (j = 0 ∨ 2 ^ (52 + 1) ≤ R (j - 1)) → b = j * 2 ^ 52 + R j) (HNX : ∀ j, (j = 0 ∨ 2 ^ (52 + 1) ≤ R (j - 1)) → j = 0 ∨ 2 ^ 52 ≤ R j)
    (HXB : ∀ (j : Nat) (V1 : World) (A : Option Addr) (n c : Nat), SI V1 .u32 A n c (digs V (R j)) → Calls Tryz.prog 42 #[.slice A n c] V1 fun e w' => e = .returned (.int .i64 (nbits (R j) : Nat)) ∧ V1 = w')
    (HOu : ∀ (j : Nat) (V1 : World) (A : Option Addr) (n c : Nat), SI V1 .u32 A n c (digs V (R j)) → Calls Tryz.prog 45 #[.slice A n c] V1 (GivesOwn V1 24 .u64 (digs U (R j))))
    (hlt : ¬ (bn : Int) - bd - 52 - 2 < -1074) (hk1 : k0 ≤ 8000 + 1074) (hk0 : (k0 : Int) - 1074 = (bn : Int) - bd - 52 - 2) (HS : k0 = 0 ∨ 2 ^ (52 + 1) ≤ R (k0 - 1)) :
    Calls Tryz.prog 14 #[.agg #[.int .i64 52, .int .i64 11], .agg #[.int .i64 0, .bool true, .string S, .int .i64 (-(k : Int))]] w fun e w' => e = .returned (.int .u64 ((sg_w true ||| min b 9218868437227405312 : Nat) : Int)) ∧ Below w.heap.size w w' := by
  have HB := Lib.hid (KD.start w 52 11 0 true S (-(k : Int)))
  have S1 := Lib.hid (show IntKind.i64.wrap ((bn : Int) - bd) = (bn : Int) - bd from IntWalk.i64_in _ (by omega))
  have S2 := Lib.hid (show IntKind.i64.wrap ((bn : Int) - bd - 52) = (bn : Int) - bd - 52 from IntWalk.i64_in _ (by omega))
  have S3 := Lib.hid (show IntKind.i64.wrap ((bn : Int) - bd - 52 - 2) = (bn : Int) - bd - 52 - 2 from IntWalk.i64_in _ (by omega))
  have HO := Lib.hid (Sh.or_nat (sg_w true) (min b 9218868437227405312) (sg_lt_w true) (by omega))
  have hx1 := decide_eq_false (show ¬ (0 : Int) ≤ -(k : Int) by omega)
  replace HOf := Lib.hid HOf
  replace HPw := Lib.hid HPw
  replace HN := Lib.hid HN
  replace HD := Lib.hid HD
  replace HRo := Lib.hid HRo
  replace HST := Lib.hid HST
  replace HNO := Lib.hid HNO
  replace HNX := Lib.hid HNX
  replace HXB := Lib.hid HXB
  replace HOu := Lib.hid HOu
  replace HS := Lib.hid HS
  have HK := Lib.hid hk0
  clear hk0
  go_enter Tryz.func14, Tryz.ntmps14
  go_wp2
  go_quiet (fail)
  have z1 := HB.out.below (drewN_below _ nq)
  generalize World.drewN _ nq = Y at *
  have k1 := z1.keep
  go_upto_region 15 with (first
    | (go_at_call 24; (with_reducible refine (HOf.out _).mono ?_); rintro e w1 ⟨A1, n1, c1, rfl, r1, b1⟩; have a1 := alloc_below w1 (.cells #[.int .u32 1] 34); have z2 := (z1.below b1).below a1; have k2 := z2.keep; have q1 := one16 w1; have r11 := r1.below a1)
    | (go_at_call 25; (with_reducible refine (HPw.out _ ?_ _).mono ?_); (first | rfl | omega); rintro e w2 ⟨A2, n2, c2, rfl, r2, b2⟩; have z3 := z2.below b2; have r12 := r11.below b2; have q2 := q1.below b2))
  have Z : RT w w2 52 11 0 true S (-(k : Int)) A1 n1 c1 N A2 n2 c2 D := ⟨z3, r12, r2⟩
  clear r1 r2 r11 r12 q1 q2 b1 b2 a1 z2 z3 k2
  have y0 := Z.drew
  clear Z z1 k1 HB HOf HPw 
  go_region_held3 (fun w' => w'.cell? ⟨w.heap.size, 0, none⟩ = some (.int .i64 52) ∧ w'.cell? ⟨w.heap.size, 1, none⟩ = some (.int .i64 11))
    (first | (with_reducible exact y0.keep))
    (first
      | (go_at_call 42; first
        | ((with_reducible refine (HN.out _ _ _ _ y0.a).mono ?_); rintro e u0 ⟨rfl, rfl⟩)
        | ((with_reducible refine (HD.out _ _ _ _ y0.b).mono ?_); rintro e u0 ⟨rfl, rfl⟩)))
  all_goals
    rw [S1.out, S2.out, S3.out]
    have ky := y0.keep
    clear S1 S2 S3 HN HD
    have e3 := decide_eq_false (show ¬ (bn : Int) - bd - 52 - 2 < -1074 by omega)
    clear hlt
    go_wp2_with (first
      | (go_at_call 43; (with_reducible refine (Sh.bias_w _).mono ?_); rintro e v1 ⟨rfl, bb1⟩; have y1 := y0.below bb1; have k1 := y1.keep)
      | (go_at_call 44; (with_reducible refine (HRo.out _ _ _ _ _ _ _ y1.a y1.b k0 _ ?_ ?_).mono ?_); (have := HK.out; omega); (omega); rintro e v3 ⟨A6, n6, c6, rfl, r6, b6⟩; have y3 := y1.below b6))
    go_loopw [9, 10] (fun z v wr => ∃ (j : Nat) (A7 : Option Addr) (n7 c7 : Nat), BJ_w R z v j A7 n7 c7 wr ∧ RT w wr 52 11 0 true S (-(k : Int)) A1 n1 c1 N A2 n2 c2 D) (fun z _ _ => (8001 - intOf z).toNat)
    case atStart => exact ⟨k0, A6, n6, c6, ⟨congrArg (Value.int .i64) (by have := HK.out; omega), rfl, r6, HS.out, hk1⟩, y3⟩
    case round =>
      obtain ⟨j, A7, n7, c7, ⟨rfl, rfl, r7, hs, hj⟩, z7⟩ := hrel
      clear ky y0 y1 y3 r6 b6 hk1 HS bb1 HK
      have d7 := z7.drew
      have kk := z7.keep
      have m7 := HXB.out j _ A7 n7 c7 (r7.below (Below.refl _ _).drew)
      by_cases hm : 2 ^ (52 + 1) ≤ R j
      · have hlt := HST.out j hm
        have e7 := decide_eq_true (show (52 : Int) + 1 < (nbits (R j) : Int) from bits_big.2 hm)
        rw [show (52 : Int) + 1 = (53 : Int) by decide, show (53 : Int) = IntKind.i64.wrap 53 by decide] at e7
        have HM := Lib.hid hm
        clear HNO HOu HNX hm
        generalize hnb : nbits (R j) = nb at *
        clear hnb
        have M7 := Lib.hid m7
        clear m7
        go_wp2
        clear kk
        go_region_held3 (fun w' => w'.cell? ⟨w.heap.size, 0, none⟩ = some (.int .i64 52) ∧ w'.cell? ⟨w.heap.size, 1, none⟩ = some (.int .i64 11))
          (first | (with_reducible exact d7.keep))
          (first | (go_at_call 42; (with_reducible refine M7.out.mono ?_); rintro e u0 ⟨rfl, rfl⟩))
        all_goals
          have k8 := d7.keep
          go_wp2_with (go_at_call 44; (with_reducible refine (HRo.out _ _ _ _ _ _ _ d7.a d7.b (j + 1) _ ?_ ?_).mono ?_); (omega); (omega); rintro e v8 ⟨A8, n8, c8, rfl, r8, b8⟩; have z8 := d7.below b8)
          go_roundw
          case rel => exact ⟨j + 1, A8, n8, c8, ⟨congrArg (Value.int .i64) (by omega), rfl, r8, .inr HM.out, by omega⟩, z8⟩
          case measure => simp [intOf]; omega
      · have hm' := Nat.lt_of_not_le hm
        have e7 := decide_eq_false (show ¬ (52 : Int) + 1 < (nbits (R j) : Int) from fun q => hm (bits_big.1 q))
        rw [show (52 : Int) + 1 = (53 : Int) by decide, show (53 : Int) = IntKind.i64.wrap 53 by decide] at e7
        have hB := HNO.out j hm' hs
        have hX := HNX.out j hs
        have HO8 := Lib.hid (fun (V1 : World) (z : SI V1 .u32 A7 n7 c7 (digs V (R j))) => HOu.out j V1 A7 n7 c7 z)
        clear HNO HOu HNX HST HRo HXB hm hs
        generalize hnb : nbits (R j) = nb at *
        generalize R j = m at *
        clear hnb
        simp only [Nat.reducePow, Nat.reduceAdd] at hB hX hm'
        have M7 := Lib.hid m7
        have HBB := Lib.hid hB
        clear m7 hB
        go_wp2
        clear kk
        go_region_held3 (fun w' => w'.cell? ⟨w.heap.size, 0, none⟩ = some (.int .i64 52) ∧ w'.cell? ⟨w.heap.size, 1, none⟩ = some (.int .i64 11))
          (first | (with_reducible exact d7.keep))
          (first | (go_at_call 42; (with_reducible refine M7.out.mono ?_); rintro e u0 ⟨rfl, rfl⟩))
        all_goals
          have k8 := d7.keep
          have r77 := r7.below (Below.refl wr.heap.size wr).drew
          clear M7 e7
          by_cases h0 : m = 0
          · subst h0
            have HJ := Lib.hid (show j = 0 by omega)
            have HL := Lib.hid (show (digs U 0).length = 0 by rw [digs_zero]; rfl)
            clear hX
            go_wp2_with (go_at_call 45; (with_reducible refine (HO8.out _ r77).mono ?_); rintro e v8 ⟨v9, rfl, o8, b8⟩; obtain ⟨A8, n8, c8, rfl, r8⟩ := o8.reads_n; obtain rfl : n8 = 0 := r8.len.symm.trans HL.out; have z8 := d7.below b8)
            go_ret
            have hB := HBB.out
            have hJ := HJ.out
            refine ⟨congrArg (fun z => Ending.returned (Value.int .u64 z)) ?_, z8.z.bl⟩
            rw [show b = 0 by omega]
            decide
          · have HL := Lib.hid (show (digs U m).length = 1 by rw [Dig.digs_one U_two (show m < U by unfold U; omega) h0]; rfl)
            have HR := Lib.hid (show rd (digs U m) 0 = m by rw [Dig.digs_one U_two (show m < U by unfold U; omega) h0]; rfl)
            clear hX
            by_cases hE : 2047 ≤ j
            · have e8 := decide_eq_true (show (2047 : Int) ≤ (j : Int) by omega)
              go_wp2_with (first
                | (go_at_call 45; (with_reducible refine (HO8.out _ r77).mono ?_); rintro e v8 ⟨v9, rfl, o8, b8⟩; obtain ⟨A8, n8, c8, rfl, r8⟩ := o8.reads_n; obtain rfl : n8 = 1 := r8.len.symm.trans HL.out; obtain ⟨bq, oq, rfl, _⟩ := r8.at_ (j := 0) Nat.one_pos; have z8 := d7.below b8; have k88 := z8.keep)
                | (go_at_call 43; (with_reducible refine (Sh.bias_w _).mono ?_); rintro e v9 ⟨rfl, b9⟩; have z9 := z8.below b9; have k9 := z9.keep))
              go_ret
              have hB := HBB.out
              refine ⟨congrArg (fun z => Ending.returned (Value.int .u64 z)) ?_, z9.z.bl⟩
              rw [show min b 9218868437227405312 = 9218868437227405312 by omega]
              decide
            · have e8 := decide_eq_false (show ¬ (2047 : Int) ≤ (j : Int) by omega)
              go_wp2_with (first
                | (go_at_call 45; (with_reducible refine (HO8.out _ r77).mono ?_); rintro e v8 ⟨v9, rfl, o8, b8⟩; obtain ⟨A8, n8, c8, rfl, r8⟩ := o8.reads_n; obtain rfl : n8 = 1 := r8.len.symm.trans HL.out; obtain ⟨bq, oq, rfl, _⟩ := r8.at_ (j := 0) Nat.one_pos; have z8 := d7.below b8; have k88 := z8.keep)
                | (go_at_call 43; (with_reducible refine (Sh.bias_w _).mono ?_); rintro e v9 ⟨rfl, b9⟩; have z9 := z8.below b9; have k9 := z9.keep))
              have kq := first_cell r8 HR.out b9
              go_quiet (fail)
              have zq := on z9.z.bl (drewN_below _ nq)
              have hB := HBB.out
              by_cases hT : 9218868437227405312 ≤ j * 4503599627370496 + m
              · have e9 := decide_eq_true (show (9218868437227405312 : Int) ≤ (j : Int) * 4503599627370496 + (m : Int) by omega)
                clear hB
                go_wp2
                go_ret
                have hB := HBB.out
                refine ⟨congrArg (fun z => Ending.returned (Value.int .u64 z)) ?_, zq⟩
                rw [show min b 9218868437227405312 = 9218868437227405312 by omega]
                decide
              · have e9 := decide_eq_false (show ¬ (9218868437227405312 : Int) ≤ (j : Int) * 4503599627370496 + (m : Int) by omega)
                clear hB
                go_wp2
                go_ret
                have hB := HBB.out
                refine ⟨congrArg (fun z => Ending.returned (Value.int .u64 z)) ?_, zq⟩
                rw [← HO.out]
                exact congrArg (Go.bits .or .u64 _) (show (j : Int) * 4503599627370496 + (m : Int) = ((min b 9218868437227405312 : Nat) : Int) by omega)
set_option maxHeartbeats 16000000 in
set_option maxRecDepth 100000 in
theorem rto_nf0_n (S : ByteArray) (k N D bn bd k0 b : Nat) (R : Nat → Nat) (w : World) (hk : k ≤ 3000) (hbn : bn ≤ 8000) (hbd : bd ≤ 11000) (i1 : S.toList.isEmpty = false) (i2 : (S.toList == []) = false) (hkp : 0 < k)
    (HOf : ∀ w1, Calls Tryz.prog 24 #[.string S] w1 (Gives w1 .u32 (digs V N)))
    (HPw : ∀ (y : Int), y = (k : Nat) → ∀ w1, Calls Tryz.prog 25 #[.int .i64 10, .int .i64 y] w1 (Gives w1 .u32 (digs V D)))
    (HN : ∀ (A : Option Addr) (n c : Nat) (V1 : World), SI V1 .u32 A n c (digs V N) → Calls Tryz.prog 42 #[.slice A n c] V1 fun e w' => e = .returned (.int .i64 (bn : Nat)) ∧ V1 = w')
    (HD : ∀ (A : Option Addr) (n c : Nat) (V1 : World), SI V1 .u32 A n c (digs V D) → Calls Tryz.prog 42 #[.slice A n c] V1 fun e w' => e = .returned (.int .i64 (bd : Nat)) ∧ V1 = w')
    (HRo : ∀ (A A' : Option Addr) (n c n' c' : Nat) (V1 : World), SI V1 .u32 A n c (digs V N) → SI V1 .u32 A' n' c' (digs V D) → ∀ (j : Nat) (y : Int), y = 149 - (j : Int) → j ≤ 9000 + 149 → Calls Tryz.prog 44 #[.slice A n c, .slice A' n' c', .int .i64 y] V1 (Gives V1 .u32 (digs V (R j))))
    (HST : ∀ j, 2 ^ (23 + 1) ≤ R j → j < 8000 + 149) (HNO : ∀ j, R j < 2 ^ (23 + 1) → (j = 0 ∨ 2 ^ (23 + 1) ≤ R (j - 1)) → b = j * 2 ^ 23 + R j) (HNX : ∀ j, (j = 0 ∨ 2 ^ (23 + 1) ≤ R (j - 1)) → j = 0 ∨ 2 ^ 23 ≤ R j)
    (HXB : ∀ (j : Nat) (V1 : World) (A : Option Addr) (n c : Nat), SI V1 .u32 A n c (digs V (R j)) → Calls Tryz.prog 42 #[.slice A n c] V1 fun e w' => e = .returned (.int .i64 (nbits (R j) : Nat)) ∧ V1 = w')
    (HOu : ∀ (j : Nat) (V1 : World) (A : Option Addr) (n c : Nat), SI V1 .u32 A n c (digs V (R j)) → Calls Tryz.prog 45 #[.slice A n c] V1 (GivesOwn V1 24 .u64 (digs U (R j))))
    (hlt : (bn : Int) - bd - 23 - 2 < -149) (hk1 : k0 ≤ 8000 + 149) (hk0 : (k0 : Int) - 149 = -149) (HS : k0 = 0 ∨ 2 ^ (23 + 1) ≤ R (k0 - 1)) :
    Calls Tryz.prog 14 #[.agg #[.int .i64 23, .int .i64 8], .agg #[.int .i64 0, .bool false, .string S, .int .i64 (-(k : Int))]] w fun e w' => e = .returned (.int .u64 ((sg_n false ||| min b 2139095040 : Nat) : Int)) ∧ Below w.heap.size w w' := by
  have HB := Lib.hid (KD.start w 23 8 0 false S (-(k : Int)))
  have S1 := Lib.hid (show IntKind.i64.wrap ((bn : Int) - bd) = (bn : Int) - bd from IntWalk.i64_in _ (by omega))
  have S2 := Lib.hid (show IntKind.i64.wrap ((bn : Int) - bd - 23) = (bn : Int) - bd - 23 from IntWalk.i64_in _ (by omega))
  have S3 := Lib.hid (show IntKind.i64.wrap ((bn : Int) - bd - 23 - 2) = (bn : Int) - bd - 23 - 2 from IntWalk.i64_in _ (by omega))
  have HO := Lib.hid (Sh.or_nat (sg_n false) (min b 2139095040) (sg_lt_n false) (by omega))
  have hx1 := decide_eq_false (show ¬ (0 : Int) ≤ -(k : Int) by omega)
  replace HOf := Lib.hid HOf
  replace HPw := Lib.hid HPw
  replace HN := Lib.hid HN
  replace HD := Lib.hid HD
  replace HRo := Lib.hid HRo
  replace HST := Lib.hid HST
  replace HNO := Lib.hid HNO
  replace HNX := Lib.hid HNX
  replace HXB := Lib.hid HXB
  replace HOu := Lib.hid HOu
  replace HS := Lib.hid HS
  obtain rfl : k0 = 0 := by omega
  clear hk0
  go_enter Tryz.func14, Tryz.ntmps14
  go_wp2
  go_quiet (fail)
  have z1 := HB.out.below (drewN_below _ nq)
  generalize World.drewN _ nq = Y at *
  have k1 := z1.keep
  go_upto_region 15 with (first
    | (go_at_call 24; (with_reducible refine (HOf.out _).mono ?_); rintro e w1 ⟨A1, n1, c1, rfl, r1, b1⟩; have a1 := alloc_below w1 (.cells #[.int .u32 1] 34); have z2 := (z1.below b1).below a1; have k2 := z2.keep; have q1 := one16 w1; have r11 := r1.below a1)
    | (go_at_call 25; (with_reducible refine (HPw.out _ ?_ _).mono ?_); (first | rfl | omega); rintro e w2 ⟨A2, n2, c2, rfl, r2, b2⟩; have z3 := z2.below b2; have r12 := r11.below b2; have q2 := q1.below b2))
  have Z : RT w w2 23 8 0 false S (-(k : Int)) A1 n1 c1 N A2 n2 c2 D := ⟨z3, r12, r2⟩
  clear r1 r2 r11 r12 q1 q2 b1 b2 a1 z2 z3 k2
  have y0 := Z.drew
  clear Z z1 k1 HB HOf HPw 
  go_region_held3 (fun w' => w'.cell? ⟨w.heap.size, 0, none⟩ = some (.int .i64 23) ∧ w'.cell? ⟨w.heap.size, 1, none⟩ = some (.int .i64 8))
    (first | (with_reducible exact y0.keep))
    (first
      | (go_at_call 42; first
        | ((with_reducible refine (HN.out _ _ _ _ y0.a).mono ?_); rintro e u0 ⟨rfl, rfl⟩)
        | ((with_reducible refine (HD.out _ _ _ _ y0.b).mono ?_); rintro e u0 ⟨rfl, rfl⟩)))
  all_goals
    rw [S1.out, S2.out, S3.out]
    have ky := y0.keep
    clear S1 S2 S3 HN HD
    have e3 := decide_eq_true (show (bn : Int) - bd - 23 - 2 < -149 by omega)
    clear hlt
    go_wp2_with (first
      | (go_at_call 43; first
        | ((with_reducible refine (Sh.bias_n _).mono ?_); have tag := y1; rintro e v2 ⟨rfl, bb2⟩; have y2 := y1.below bb2; have k2 := y2.keep)
        | ((with_reducible refine (Sh.bias_n _).mono ?_); rintro e v1 ⟨rfl, bb1⟩; have y1 := y0.below bb1; have k1 := y1.keep))
      | (go_at_call 44; (with_reducible refine (HRo.out _ _ _ _ _ _ _ y2.a y2.b 0 _ ?_ ?_).mono ?_); (first | rfl | omega); (omega); rintro e v3 ⟨A6, n6, c6, rfl, r6, b6⟩; have y3 := y2.below b6))
    go_loopw [9, 10] (fun z v wr => ∃ (j : Nat) (A7 : Option Addr) (n7 c7 : Nat), BJ_n R z v j A7 n7 c7 wr ∧ RT w wr 23 8 0 false S (-(k : Int)) A1 n1 c1 N A2 n2 c2 D) (fun z _ _ => (8001 - intOf z).toNat)
    case atStart => exact ⟨0, A6, n6, c6, ⟨congrArg (Value.int .i64) (by omega), rfl, r6, .inl rfl, hk1⟩, y3⟩
    case round =>
      obtain ⟨j, A7, n7, c7, ⟨rfl, rfl, r7, hs, hj⟩, z7⟩ := hrel
      clear ky y0 y1 y3 r6 b6 hk1 HS y2 bb1 bb2
      have d7 := z7.drew
      have kk := z7.keep
      have m7 := HXB.out j _ A7 n7 c7 (r7.below (Below.refl _ _).drew)
      by_cases hm : 2 ^ (23 + 1) ≤ R j
      · have hlt := HST.out j hm
        have e7 := decide_eq_true (show (23 : Int) + 1 < (nbits (R j) : Int) from bits_big.2 hm)
        rw [show (23 : Int) + 1 = (24 : Int) by decide, show (24 : Int) = IntKind.i64.wrap 24 by decide] at e7
        have HM := Lib.hid hm
        clear HNO HOu HNX hm
        generalize hnb : nbits (R j) = nb at *
        clear hnb
        have M7 := Lib.hid m7
        clear m7
        go_wp2
        clear kk
        go_region_held3 (fun w' => w'.cell? ⟨w.heap.size, 0, none⟩ = some (.int .i64 23) ∧ w'.cell? ⟨w.heap.size, 1, none⟩ = some (.int .i64 8))
          (first | (with_reducible exact d7.keep))
          (first | (go_at_call 42; (with_reducible refine M7.out.mono ?_); rintro e u0 ⟨rfl, rfl⟩))
        all_goals
          have k8 := d7.keep
          go_wp2_with (go_at_call 44; (with_reducible refine (HRo.out _ _ _ _ _ _ _ d7.a d7.b (j + 1) _ ?_ ?_).mono ?_); (omega); (omega); rintro e v8 ⟨A8, n8, c8, rfl, r8, b8⟩; have z8 := d7.below b8)
          go_roundw
          case rel => exact ⟨j + 1, A8, n8, c8, ⟨congrArg (Value.int .i64) (by omega), rfl, r8, .inr HM.out, by omega⟩, z8⟩
          case measure => simp [intOf]; omega
      · have hm' := Nat.lt_of_not_le hm
        have e7 := decide_eq_false (show ¬ (23 : Int) + 1 < (nbits (R j) : Int) from fun q => hm (bits_big.1 q))
        rw [show (23 : Int) + 1 = (24 : Int) by decide, show (24 : Int) = IntKind.i64.wrap 24 by decide] at e7
        have hB := HNO.out j hm' hs
        have hX := HNX.out j hs
        have HO8 := Lib.hid (fun (V1 : World) (z : SI V1 .u32 A7 n7 c7 (digs V (R j))) => HOu.out j V1 A7 n7 c7 z)
        clear HNO HOu HNX HST HRo HXB hm hs
        generalize hnb : nbits (R j) = nb at *
        generalize R j = m at *
        clear hnb
        simp only [Nat.reducePow, Nat.reduceAdd] at hB hX hm'
        have M7 := Lib.hid m7
        have HBB := Lib.hid hB
        clear m7 hB
        go_wp2
        clear kk
        go_region_held3 (fun w' => w'.cell? ⟨w.heap.size, 0, none⟩ = some (.int .i64 23) ∧ w'.cell? ⟨w.heap.size, 1, none⟩ = some (.int .i64 8))
          (first | (with_reducible exact d7.keep))
          (first | (go_at_call 42; (with_reducible refine M7.out.mono ?_); rintro e u0 ⟨rfl, rfl⟩))
        all_goals
          have k8 := d7.keep
          have r77 := r7.below (Below.refl wr.heap.size wr).drew
          clear M7 e7
          by_cases h0 : m = 0
          · subst h0
            have HJ := Lib.hid (show j = 0 by omega)
            have HL := Lib.hid (show (digs U 0).length = 0 by rw [digs_zero]; rfl)
            clear hX
            go_wp2_with (go_at_call 45; (with_reducible refine (HO8.out _ r77).mono ?_); rintro e v8 ⟨v9, rfl, o8, b8⟩; obtain ⟨A8, n8, c8, rfl, r8⟩ := o8.reads_n; obtain rfl : n8 = 0 := r8.len.symm.trans HL.out; have z8 := d7.below b8)
            go_ret
            have hB := HBB.out
            have hJ := HJ.out
            refine ⟨congrArg (fun z => Ending.returned (Value.int .u64 z)) ?_, z8.z.bl⟩
            rw [show b = 0 by omega]
            decide
          · have HL := Lib.hid (show (digs U m).length = 1 by rw [Dig.digs_one U_two (show m < U by unfold U; omega) h0]; rfl)
            have HR := Lib.hid (show rd (digs U m) 0 = m by rw [Dig.digs_one U_two (show m < U by unfold U; omega) h0]; rfl)
            clear hX
            by_cases hE : 255 ≤ j
            · have e8 := decide_eq_true (show (255 : Int) ≤ (j : Int) by omega)
              go_wp2_with (first
                | (go_at_call 45; (with_reducible refine (HO8.out _ r77).mono ?_); rintro e v8 ⟨v9, rfl, o8, b8⟩; obtain ⟨A8, n8, c8, rfl, r8⟩ := o8.reads_n; obtain rfl : n8 = 1 := r8.len.symm.trans HL.out; obtain ⟨bq, oq, rfl, _⟩ := r8.at_ (j := 0) Nat.one_pos; have z8 := d7.below b8; have k88 := z8.keep)
                | (go_at_call 43; (with_reducible refine (Sh.bias_n _).mono ?_); rintro e v9 ⟨rfl, b9⟩; have z9 := z8.below b9; have k9 := z9.keep))
              go_ret
              have hB := HBB.out
              refine ⟨congrArg (fun z => Ending.returned (Value.int .u64 z)) ?_, z9.z.bl⟩
              rw [show min b 2139095040 = 2139095040 by omega]
              decide
            · have e8 := decide_eq_false (show ¬ (255 : Int) ≤ (j : Int) by omega)
              go_wp2_with (first
                | (go_at_call 45; (with_reducible refine (HO8.out _ r77).mono ?_); rintro e v8 ⟨v9, rfl, o8, b8⟩; obtain ⟨A8, n8, c8, rfl, r8⟩ := o8.reads_n; obtain rfl : n8 = 1 := r8.len.symm.trans HL.out; obtain ⟨bq, oq, rfl, _⟩ := r8.at_ (j := 0) Nat.one_pos; have z8 := d7.below b8; have k88 := z8.keep)
                | (go_at_call 43; (with_reducible refine (Sh.bias_n _).mono ?_); rintro e v9 ⟨rfl, b9⟩; have z9 := z8.below b9; have k9 := z9.keep))
              have kq := first_cell r8 HR.out b9
              go_quiet (fail)
              have zq := on z9.z.bl (drewN_below _ nq)
              have hB := HBB.out
              by_cases hT : 2139095040 ≤ j * 8388608 + m
              · have e9 := decide_eq_true (show (2139095040 : Int) ≤ (j : Int) * 8388608 + (m : Int) by omega)
                clear hB
                go_wp2
                go_ret
                have hB := HBB.out
                refine ⟨congrArg (fun z => Ending.returned (Value.int .u64 z)) ?_, zq⟩
                rw [show min b 2139095040 = 2139095040 by omega]
                decide
              · have e9 := decide_eq_false (show ¬ (2139095040 : Int) ≤ (j : Int) * 8388608 + (m : Int) by omega)
                clear hB
                go_wp2
                go_ret
                have hB := HBB.out
                refine ⟨congrArg (fun z => Ending.returned (Value.int .u64 z)) ?_, zq⟩
                rw [← HO.out]
                exact congrArg (Go.bits .or .u64 _) (show (j : Int) * 8388608 + (m : Int) = ((min b 2139095040 : Nat) : Int) by omega)
set_option maxHeartbeats 16000000 in
set_option maxRecDepth 100000 in
theorem rto_nfk_n (S : ByteArray) (k N D bn bd k0 b : Nat) (R : Nat → Nat) (w : World) (hk : k ≤ 3000) (hbn : bn ≤ 8000) (hbd : bd ≤ 11000) (i1 : S.toList.isEmpty = false) (i2 : (S.toList == []) = false) (hkp : 0 < k)
    (HOf : ∀ w1, Calls Tryz.prog 24 #[.string S] w1 (Gives w1 .u32 (digs V N)))
    (HPw : ∀ (y : Int), y = (k : Nat) → ∀ w1, Calls Tryz.prog 25 #[.int .i64 10, .int .i64 y] w1 (Gives w1 .u32 (digs V D)))
    (HN : ∀ (A : Option Addr) (n c : Nat) (V1 : World), SI V1 .u32 A n c (digs V N) → Calls Tryz.prog 42 #[.slice A n c] V1 fun e w' => e = .returned (.int .i64 (bn : Nat)) ∧ V1 = w')
    (HD : ∀ (A : Option Addr) (n c : Nat) (V1 : World), SI V1 .u32 A n c (digs V D) → Calls Tryz.prog 42 #[.slice A n c] V1 fun e w' => e = .returned (.int .i64 (bd : Nat)) ∧ V1 = w')
    (HRo : ∀ (A A' : Option Addr) (n c n' c' : Nat) (V1 : World), SI V1 .u32 A n c (digs V N) → SI V1 .u32 A' n' c' (digs V D) → ∀ (j : Nat) (y : Int), y = 149 - (j : Int) → j ≤ 9000 + 149 → Calls Tryz.prog 44 #[.slice A n c, .slice A' n' c', .int .i64 y] V1 (Gives V1 .u32 (digs V (R j))))
    (HST : ∀ j, 2 ^ (23 + 1) ≤ R j → j < 8000 + 149) (HNO : ∀ j, R j < 2 ^ (23 + 1) → (j = 0 ∨ 2 ^ (23 + 1) ≤ R (j - 1)) → b = j * 2 ^ 23 + R j) (HNX : ∀ j, (j = 0 ∨ 2 ^ (23 + 1) ≤ R (j - 1)) → j = 0 ∨ 2 ^ 23 ≤ R j)
    (HXB : ∀ (j : Nat) (V1 : World) (A : Option Addr) (n c : Nat), SI V1 .u32 A n c (digs V (R j)) → Calls Tryz.prog 42 #[.slice A n c] V1 fun e w' => e = .returned (.int .i64 (nbits (R j) : Nat)) ∧ V1 = w')
    (HOu : ∀ (j : Nat) (V1 : World) (A : Option Addr) (n c : Nat), SI V1 .u32 A n c (digs V (R j)) → Calls Tryz.prog 45 #[.slice A n c] V1 (GivesOwn V1 24 .u64 (digs U (R j))))
    (hlt : ¬ (bn : Int) - bd - 23 - 2 < -149) (hk1 : k0 ≤ 8000 + 149) (hk0 : (k0 : Int) - 149 = (bn : Int) - bd - 23 - 2) (HS : k0 = 0 ∨ 2 ^ (23 + 1) ≤ R (k0 - 1)) :
    Calls Tryz.prog 14 #[.agg #[.int .i64 23, .int .i64 8], .agg #[.int .i64 0, .bool false, .string S, .int .i64 (-(k : Int))]] w fun e w' => e = .returned (.int .u64 ((sg_n false ||| min b 2139095040 : Nat) : Int)) ∧ Below w.heap.size w w' := by
  have HB := Lib.hid (KD.start w 23 8 0 false S (-(k : Int)))
  have S1 := Lib.hid (show IntKind.i64.wrap ((bn : Int) - bd) = (bn : Int) - bd from IntWalk.i64_in _ (by omega))
  have S2 := Lib.hid (show IntKind.i64.wrap ((bn : Int) - bd - 23) = (bn : Int) - bd - 23 from IntWalk.i64_in _ (by omega))
  have S3 := Lib.hid (show IntKind.i64.wrap ((bn : Int) - bd - 23 - 2) = (bn : Int) - bd - 23 - 2 from IntWalk.i64_in _ (by omega))
  have HO := Lib.hid (Sh.or_nat (sg_n false) (min b 2139095040) (sg_lt_n false) (by omega))
  have hx1 := decide_eq_false (show ¬ (0 : Int) ≤ -(k : Int) by omega)
  replace HOf := Lib.hid HOf
  replace HPw := Lib.hid HPw
  replace HN := Lib.hid HN
  replace HD := Lib.hid HD
  replace HRo := Lib.hid HRo
  replace HST := Lib.hid HST
  replace HNO := Lib.hid HNO
  replace HNX := Lib.hid HNX
  replace HXB := Lib.hid HXB
  replace HOu := Lib.hid HOu
  replace HS := Lib.hid HS
  have HK := Lib.hid hk0
  clear hk0
  go_enter Tryz.func14, Tryz.ntmps14
  go_wp2
  go_quiet (fail)
  have z1 := HB.out.below (drewN_below _ nq)
  generalize World.drewN _ nq = Y at *
  have k1 := z1.keep
  go_upto_region 15 with (first
    | (go_at_call 24; (with_reducible refine (HOf.out _).mono ?_); rintro e w1 ⟨A1, n1, c1, rfl, r1, b1⟩; have a1 := alloc_below w1 (.cells #[.int .u32 1] 34); have z2 := (z1.below b1).below a1; have k2 := z2.keep; have q1 := one16 w1; have r11 := r1.below a1)
    | (go_at_call 25; (with_reducible refine (HPw.out _ ?_ _).mono ?_); (first | rfl | omega); rintro e w2 ⟨A2, n2, c2, rfl, r2, b2⟩; have z3 := z2.below b2; have r12 := r11.below b2; have q2 := q1.below b2))
  have Z : RT w w2 23 8 0 false S (-(k : Int)) A1 n1 c1 N A2 n2 c2 D := ⟨z3, r12, r2⟩
  clear r1 r2 r11 r12 q1 q2 b1 b2 a1 z2 z3 k2
  have y0 := Z.drew
  clear Z z1 k1 HB HOf HPw 
  go_region_held3 (fun w' => w'.cell? ⟨w.heap.size, 0, none⟩ = some (.int .i64 23) ∧ w'.cell? ⟨w.heap.size, 1, none⟩ = some (.int .i64 8))
    (first | (with_reducible exact y0.keep))
    (first
      | (go_at_call 42; first
        | ((with_reducible refine (HN.out _ _ _ _ y0.a).mono ?_); rintro e u0 ⟨rfl, rfl⟩)
        | ((with_reducible refine (HD.out _ _ _ _ y0.b).mono ?_); rintro e u0 ⟨rfl, rfl⟩)))
  all_goals
    rw [S1.out, S2.out, S3.out]
    have ky := y0.keep
    clear S1 S2 S3 HN HD
    have e3 := decide_eq_false (show ¬ (bn : Int) - bd - 23 - 2 < -149 by omega)
    clear hlt
    go_wp2_with (first
      | (go_at_call 43; (with_reducible refine (Sh.bias_n _).mono ?_); rintro e v1 ⟨rfl, bb1⟩; have y1 := y0.below bb1; have k1 := y1.keep)
      | (go_at_call 44; (with_reducible refine (HRo.out _ _ _ _ _ _ _ y1.a y1.b k0 _ ?_ ?_).mono ?_); (have := HK.out; omega); (omega); rintro e v3 ⟨A6, n6, c6, rfl, r6, b6⟩; have y3 := y1.below b6))
    go_loopw [9, 10] (fun z v wr => ∃ (j : Nat) (A7 : Option Addr) (n7 c7 : Nat), BJ_n R z v j A7 n7 c7 wr ∧ RT w wr 23 8 0 false S (-(k : Int)) A1 n1 c1 N A2 n2 c2 D) (fun z _ _ => (8001 - intOf z).toNat)
    case atStart => exact ⟨k0, A6, n6, c6, ⟨congrArg (Value.int .i64) (by have := HK.out; omega), rfl, r6, HS.out, hk1⟩, y3⟩
    case round =>
      obtain ⟨j, A7, n7, c7, ⟨rfl, rfl, r7, hs, hj⟩, z7⟩ := hrel
      clear ky y0 y1 y3 r6 b6 hk1 HS bb1 HK
      have d7 := z7.drew
      have kk := z7.keep
      have m7 := HXB.out j _ A7 n7 c7 (r7.below (Below.refl _ _).drew)
      by_cases hm : 2 ^ (23 + 1) ≤ R j
      · have hlt := HST.out j hm
        have e7 := decide_eq_true (show (23 : Int) + 1 < (nbits (R j) : Int) from bits_big.2 hm)
        rw [show (23 : Int) + 1 = (24 : Int) by decide, show (24 : Int) = IntKind.i64.wrap 24 by decide] at e7
        have HM := Lib.hid hm
        clear HNO HOu HNX hm
        generalize hnb : nbits (R j) = nb at *
        clear hnb
        have M7 := Lib.hid m7
        clear m7
        go_wp2
        clear kk
        go_region_held3 (fun w' => w'.cell? ⟨w.heap.size, 0, none⟩ = some (.int .i64 23) ∧ w'.cell? ⟨w.heap.size, 1, none⟩ = some (.int .i64 8))
          (first | (with_reducible exact d7.keep))
          (first | (go_at_call 42; (with_reducible refine M7.out.mono ?_); rintro e u0 ⟨rfl, rfl⟩))
        all_goals
          have k8 := d7.keep
          go_wp2_with (go_at_call 44; (with_reducible refine (HRo.out _ _ _ _ _ _ _ d7.a d7.b (j + 1) _ ?_ ?_).mono ?_); (omega); (omega); rintro e v8 ⟨A8, n8, c8, rfl, r8, b8⟩; have z8 := d7.below b8)
          go_roundw
          case rel => exact ⟨j + 1, A8, n8, c8, ⟨congrArg (Value.int .i64) (by omega), rfl, r8, .inr HM.out, by omega⟩, z8⟩
          case measure => simp [intOf]; omega
      · have hm' := Nat.lt_of_not_le hm
        have e7 := decide_eq_false (show ¬ (23 : Int) + 1 < (nbits (R j) : Int) from fun q => hm (bits_big.1 q))
        rw [show (23 : Int) + 1 = (24 : Int) by decide, show (24 : Int) = IntKind.i64.wrap 24 by decide] at e7
        have hB := HNO.out j hm' hs
        have hX := HNX.out j hs
        have HO8 := Lib.hid (fun (V1 : World) (z : SI V1 .u32 A7 n7 c7 (digs V (R j))) => HOu.out j V1 A7 n7 c7 z)
        clear HNO HOu HNX HST HRo HXB hm hs
        generalize hnb : nbits (R j) = nb at *
        generalize R j = m at *
        clear hnb
        simp only [Nat.reducePow, Nat.reduceAdd] at hB hX hm'
        have M7 := Lib.hid m7
        have HBB := Lib.hid hB
        clear m7 hB
        go_wp2
        clear kk
        go_region_held3 (fun w' => w'.cell? ⟨w.heap.size, 0, none⟩ = some (.int .i64 23) ∧ w'.cell? ⟨w.heap.size, 1, none⟩ = some (.int .i64 8))
          (first | (with_reducible exact d7.keep))
          (first | (go_at_call 42; (with_reducible refine M7.out.mono ?_); rintro e u0 ⟨rfl, rfl⟩))
        all_goals
          have k8 := d7.keep
          have r77 := r7.below (Below.refl wr.heap.size wr).drew
          clear M7 e7
          by_cases h0 : m = 0
          · subst h0
            have HJ := Lib.hid (show j = 0 by omega)
            have HL := Lib.hid (show (digs U 0).length = 0 by rw [digs_zero]; rfl)
            clear hX
            go_wp2_with (go_at_call 45; (with_reducible refine (HO8.out _ r77).mono ?_); rintro e v8 ⟨v9, rfl, o8, b8⟩; obtain ⟨A8, n8, c8, rfl, r8⟩ := o8.reads_n; obtain rfl : n8 = 0 := r8.len.symm.trans HL.out; have z8 := d7.below b8)
            go_ret
            have hB := HBB.out
            have hJ := HJ.out
            refine ⟨congrArg (fun z => Ending.returned (Value.int .u64 z)) ?_, z8.z.bl⟩
            rw [show b = 0 by omega]
            decide
          · have HL := Lib.hid (show (digs U m).length = 1 by rw [Dig.digs_one U_two (show m < U by unfold U; omega) h0]; rfl)
            have HR := Lib.hid (show rd (digs U m) 0 = m by rw [Dig.digs_one U_two (show m < U by unfold U; omega) h0]; rfl)
            clear hX
            by_cases hE : 255 ≤ j
            · have e8 := decide_eq_true (show (255 : Int) ≤ (j : Int) by omega)
              go_wp2_with (first
                | (go_at_call 45; (with_reducible refine (HO8.out _ r77).mono ?_); rintro e v8 ⟨v9, rfl, o8, b8⟩; obtain ⟨A8, n8, c8, rfl, r8⟩ := o8.reads_n; obtain rfl : n8 = 1 := r8.len.symm.trans HL.out; obtain ⟨bq, oq, rfl, _⟩ := r8.at_ (j := 0) Nat.one_pos; have z8 := d7.below b8; have k88 := z8.keep)
                | (go_at_call 43; (with_reducible refine (Sh.bias_n _).mono ?_); rintro e v9 ⟨rfl, b9⟩; have z9 := z8.below b9; have k9 := z9.keep))
              go_ret
              have hB := HBB.out
              refine ⟨congrArg (fun z => Ending.returned (Value.int .u64 z)) ?_, z9.z.bl⟩
              rw [show min b 2139095040 = 2139095040 by omega]
              decide
            · have e8 := decide_eq_false (show ¬ (255 : Int) ≤ (j : Int) by omega)
              go_wp2_with (first
                | (go_at_call 45; (with_reducible refine (HO8.out _ r77).mono ?_); rintro e v8 ⟨v9, rfl, o8, b8⟩; obtain ⟨A8, n8, c8, rfl, r8⟩ := o8.reads_n; obtain rfl : n8 = 1 := r8.len.symm.trans HL.out; obtain ⟨bq, oq, rfl, _⟩ := r8.at_ (j := 0) Nat.one_pos; have z8 := d7.below b8; have k88 := z8.keep)
                | (go_at_call 43; (with_reducible refine (Sh.bias_n _).mono ?_); rintro e v9 ⟨rfl, b9⟩; have z9 := z8.below b9; have k9 := z9.keep))
              have kq := first_cell r8 HR.out b9
              go_quiet (fail)
              have zq := on z9.z.bl (drewN_below _ nq)
              have hB := HBB.out
              by_cases hT : 2139095040 ≤ j * 8388608 + m
              · have e9 := decide_eq_true (show (2139095040 : Int) ≤ (j : Int) * 8388608 + (m : Int) by omega)
                clear hB
                go_wp2
                go_ret
                have hB := HBB.out
                refine ⟨congrArg (fun z => Ending.returned (Value.int .u64 z)) ?_, zq⟩
                rw [show min b 2139095040 = 2139095040 by omega]
                decide
              · have e9 := decide_eq_false (show ¬ (2139095040 : Int) ≤ (j : Int) * 8388608 + (m : Int) by omega)
                clear hB
                go_wp2
                go_ret
                have hB := HBB.out
                refine ⟨congrArg (fun z => Ending.returned (Value.int .u64 z)) ?_, zq⟩
                rw [← HO.out]
                exact congrArg (Go.bits .or .u64 _) (show (j : Int) * 8388608 + (m : Int) = ((min b 2139095040 : Nat) : Int) by omega)
set_option maxHeartbeats 16000000 in
set_option maxRecDepth 100000 in
theorem rto_nt0_n (S : ByteArray) (k N D bn bd k0 b : Nat) (R : Nat → Nat) (w : World) (hk : k ≤ 3000) (hbn : bn ≤ 8000) (hbd : bd ≤ 11000) (i1 : S.toList.isEmpty = false) (i2 : (S.toList == []) = false) (hkp : 0 < k)
    (HOf : ∀ w1, Calls Tryz.prog 24 #[.string S] w1 (Gives w1 .u32 (digs V N)))
    (HPw : ∀ (y : Int), y = (k : Nat) → ∀ w1, Calls Tryz.prog 25 #[.int .i64 10, .int .i64 y] w1 (Gives w1 .u32 (digs V D)))
    (HN : ∀ (A : Option Addr) (n c : Nat) (V1 : World), SI V1 .u32 A n c (digs V N) → Calls Tryz.prog 42 #[.slice A n c] V1 fun e w' => e = .returned (.int .i64 (bn : Nat)) ∧ V1 = w')
    (HD : ∀ (A : Option Addr) (n c : Nat) (V1 : World), SI V1 .u32 A n c (digs V D) → Calls Tryz.prog 42 #[.slice A n c] V1 fun e w' => e = .returned (.int .i64 (bd : Nat)) ∧ V1 = w')
    (HRo : ∀ (A A' : Option Addr) (n c n' c' : Nat) (V1 : World), SI V1 .u32 A n c (digs V N) → SI V1 .u32 A' n' c' (digs V D) → ∀ (j : Nat) (y : Int), y = 149 - (j : Int) → j ≤ 9000 + 149 → Calls Tryz.prog 44 #[.slice A n c, .slice A' n' c', .int .i64 y] V1 (Gives V1 .u32 (digs V (R j))))
    (HST : ∀ j, 2 ^ (23 + 1) ≤ R j → j < 8000 + 149) (HNO : ∀ j, R j < 2 ^ (23 + 1) → (j = 0 ∨ 2 ^ (23 + 1) ≤ R (j - 1)) → b = j * 2 ^ 23 + R j) (HNX : ∀ j, (j = 0 ∨ 2 ^ (23 + 1) ≤ R (j - 1)) → j = 0 ∨ 2 ^ 23 ≤ R j)
    (HXB : ∀ (j : Nat) (V1 : World) (A : Option Addr) (n c : Nat), SI V1 .u32 A n c (digs V (R j)) → Calls Tryz.prog 42 #[.slice A n c] V1 fun e w' => e = .returned (.int .i64 (nbits (R j) : Nat)) ∧ V1 = w')
    (HOu : ∀ (j : Nat) (V1 : World) (A : Option Addr) (n c : Nat), SI V1 .u32 A n c (digs V (R j)) → Calls Tryz.prog 45 #[.slice A n c] V1 (GivesOwn V1 24 .u64 (digs U (R j))))
    (hlt : (bn : Int) - bd - 23 - 2 < -149) (hk1 : k0 ≤ 8000 + 149) (hk0 : (k0 : Int) - 149 = -149) (HS : k0 = 0 ∨ 2 ^ (23 + 1) ≤ R (k0 - 1)) :
    Calls Tryz.prog 14 #[.agg #[.int .i64 23, .int .i64 8], .agg #[.int .i64 0, .bool true, .string S, .int .i64 (-(k : Int))]] w fun e w' => e = .returned (.int .u64 ((sg_n true ||| min b 2139095040 : Nat) : Int)) ∧ Below w.heap.size w w' := by
  have HB := Lib.hid (KD.start w 23 8 0 true S (-(k : Int)))
  have S1 := Lib.hid (show IntKind.i64.wrap ((bn : Int) - bd) = (bn : Int) - bd from IntWalk.i64_in _ (by omega))
  have S2 := Lib.hid (show IntKind.i64.wrap ((bn : Int) - bd - 23) = (bn : Int) - bd - 23 from IntWalk.i64_in _ (by omega))
  have S3 := Lib.hid (show IntKind.i64.wrap ((bn : Int) - bd - 23 - 2) = (bn : Int) - bd - 23 - 2 from IntWalk.i64_in _ (by omega))
  have HO := Lib.hid (Sh.or_nat (sg_n true) (min b 2139095040) (sg_lt_n true) (by omega))
  have hx1 := decide_eq_false (show ¬ (0 : Int) ≤ -(k : Int) by omega)
  replace HOf := Lib.hid HOf
  replace HPw := Lib.hid HPw
  replace HN := Lib.hid HN
  replace HD := Lib.hid HD
  replace HRo := Lib.hid HRo
  replace HST := Lib.hid HST
  replace HNO := Lib.hid HNO
  replace HNX := Lib.hid HNX
  replace HXB := Lib.hid HXB
  replace HOu := Lib.hid HOu
  replace HS := Lib.hid HS
  obtain rfl : k0 = 0 := by omega
  clear hk0
  go_enter Tryz.func14, Tryz.ntmps14
  go_wp2
  go_quiet (fail)
  have z1 := HB.out.below (drewN_below _ nq)
  generalize World.drewN _ nq = Y at *
  have k1 := z1.keep
  go_upto_region 15 with (first
    | (go_at_call 24; (with_reducible refine (HOf.out _).mono ?_); rintro e w1 ⟨A1, n1, c1, rfl, r1, b1⟩; have a1 := alloc_below w1 (.cells #[.int .u32 1] 34); have z2 := (z1.below b1).below a1; have k2 := z2.keep; have q1 := one16 w1; have r11 := r1.below a1)
    | (go_at_call 25; (with_reducible refine (HPw.out _ ?_ _).mono ?_); (first | rfl | omega); rintro e w2 ⟨A2, n2, c2, rfl, r2, b2⟩; have z3 := z2.below b2; have r12 := r11.below b2; have q2 := q1.below b2))
  have Z : RT w w2 23 8 0 true S (-(k : Int)) A1 n1 c1 N A2 n2 c2 D := ⟨z3, r12, r2⟩
  clear r1 r2 r11 r12 q1 q2 b1 b2 a1 z2 z3 k2
  have y0 := Z.drew
  clear Z z1 k1 HB HOf HPw 
  go_region_held3 (fun w' => w'.cell? ⟨w.heap.size, 0, none⟩ = some (.int .i64 23) ∧ w'.cell? ⟨w.heap.size, 1, none⟩ = some (.int .i64 8))
    (first | (with_reducible exact y0.keep))
    (first
      | (go_at_call 42; first
        | ((with_reducible refine (HN.out _ _ _ _ y0.a).mono ?_); rintro e u0 ⟨rfl, rfl⟩)
        | ((with_reducible refine (HD.out _ _ _ _ y0.b).mono ?_); rintro e u0 ⟨rfl, rfl⟩)))
  all_goals
    rw [S1.out, S2.out, S3.out]
    have ky := y0.keep
    clear S1 S2 S3 HN HD
    have e3 := decide_eq_true (show (bn : Int) - bd - 23 - 2 < -149 by omega)
    clear hlt
    go_wp2_with (first
      | (go_at_call 43; first
        | ((with_reducible refine (Sh.bias_n _).mono ?_); have tag := y1; rintro e v2 ⟨rfl, bb2⟩; have y2 := y1.below bb2; have k2 := y2.keep)
        | ((with_reducible refine (Sh.bias_n _).mono ?_); rintro e v1 ⟨rfl, bb1⟩; have y1 := y0.below bb1; have k1 := y1.keep))
      | (go_at_call 44; (with_reducible refine (HRo.out _ _ _ _ _ _ _ y2.a y2.b 0 _ ?_ ?_).mono ?_); (first | rfl | omega); (omega); rintro e v3 ⟨A6, n6, c6, rfl, r6, b6⟩; have y3 := y2.below b6))
    go_loopw [9, 10] (fun z v wr => ∃ (j : Nat) (A7 : Option Addr) (n7 c7 : Nat), BJ_n R z v j A7 n7 c7 wr ∧ RT w wr 23 8 0 true S (-(k : Int)) A1 n1 c1 N A2 n2 c2 D) (fun z _ _ => (8001 - intOf z).toNat)
    case atStart => exact ⟨0, A6, n6, c6, ⟨congrArg (Value.int .i64) (by omega), rfl, r6, .inl rfl, hk1⟩, y3⟩
    case round =>
      obtain ⟨j, A7, n7, c7, ⟨rfl, rfl, r7, hs, hj⟩, z7⟩ := hrel
      clear ky y0 y1 y3 r6 b6 hk1 HS y2 bb1 bb2
      have d7 := z7.drew
      have kk := z7.keep
      have m7 := HXB.out j _ A7 n7 c7 (r7.below (Below.refl _ _).drew)
      by_cases hm : 2 ^ (23 + 1) ≤ R j
      · have hlt := HST.out j hm
        have e7 := decide_eq_true (show (23 : Int) + 1 < (nbits (R j) : Int) from bits_big.2 hm)
        rw [show (23 : Int) + 1 = (24 : Int) by decide, show (24 : Int) = IntKind.i64.wrap 24 by decide] at e7
        have HM := Lib.hid hm
        clear HNO HOu HNX hm
        generalize hnb : nbits (R j) = nb at *
        clear hnb
        have M7 := Lib.hid m7
        clear m7
        go_wp2
        clear kk
        go_region_held3 (fun w' => w'.cell? ⟨w.heap.size, 0, none⟩ = some (.int .i64 23) ∧ w'.cell? ⟨w.heap.size, 1, none⟩ = some (.int .i64 8))
          (first | (with_reducible exact d7.keep))
          (first | (go_at_call 42; (with_reducible refine M7.out.mono ?_); rintro e u0 ⟨rfl, rfl⟩))
        all_goals
          have k8 := d7.keep
          go_wp2_with (go_at_call 44; (with_reducible refine (HRo.out _ _ _ _ _ _ _ d7.a d7.b (j + 1) _ ?_ ?_).mono ?_); (omega); (omega); rintro e v8 ⟨A8, n8, c8, rfl, r8, b8⟩; have z8 := d7.below b8)
          go_roundw
          case rel => exact ⟨j + 1, A8, n8, c8, ⟨congrArg (Value.int .i64) (by omega), rfl, r8, .inr HM.out, by omega⟩, z8⟩
          case measure => simp [intOf]; omega
      · have hm' := Nat.lt_of_not_le hm
        have e7 := decide_eq_false (show ¬ (23 : Int) + 1 < (nbits (R j) : Int) from fun q => hm (bits_big.1 q))
        rw [show (23 : Int) + 1 = (24 : Int) by decide, show (24 : Int) = IntKind.i64.wrap 24 by decide] at e7
        have hB := HNO.out j hm' hs
        have hX := HNX.out j hs
        have HO8 := Lib.hid (fun (V1 : World) (z : SI V1 .u32 A7 n7 c7 (digs V (R j))) => HOu.out j V1 A7 n7 c7 z)
        clear HNO HOu HNX HST HRo HXB hm hs
        generalize hnb : nbits (R j) = nb at *
        generalize R j = m at *
        clear hnb
        simp only [Nat.reducePow, Nat.reduceAdd] at hB hX hm'
        have M7 := Lib.hid m7
        have HBB := Lib.hid hB
        clear m7 hB
        go_wp2
        clear kk
        go_region_held3 (fun w' => w'.cell? ⟨w.heap.size, 0, none⟩ = some (.int .i64 23) ∧ w'.cell? ⟨w.heap.size, 1, none⟩ = some (.int .i64 8))
          (first | (with_reducible exact d7.keep))
          (first | (go_at_call 42; (with_reducible refine M7.out.mono ?_); rintro e u0 ⟨rfl, rfl⟩))
        all_goals
          have k8 := d7.keep
          have r77 := r7.below (Below.refl wr.heap.size wr).drew
          clear M7 e7
          by_cases h0 : m = 0
          · subst h0
            have HJ := Lib.hid (show j = 0 by omega)
            have HL := Lib.hid (show (digs U 0).length = 0 by rw [digs_zero]; rfl)
            clear hX
            go_wp2_with (go_at_call 45; (with_reducible refine (HO8.out _ r77).mono ?_); rintro e v8 ⟨v9, rfl, o8, b8⟩; obtain ⟨A8, n8, c8, rfl, r8⟩ := o8.reads_n; obtain rfl : n8 = 0 := r8.len.symm.trans HL.out; have z8 := d7.below b8)
            go_ret
            have hB := HBB.out
            have hJ := HJ.out
            refine ⟨congrArg (fun z => Ending.returned (Value.int .u64 z)) ?_, z8.z.bl⟩
            rw [show b = 0 by omega]
            decide
          · have HL := Lib.hid (show (digs U m).length = 1 by rw [Dig.digs_one U_two (show m < U by unfold U; omega) h0]; rfl)
            have HR := Lib.hid (show rd (digs U m) 0 = m by rw [Dig.digs_one U_two (show m < U by unfold U; omega) h0]; rfl)
            clear hX
            by_cases hE : 255 ≤ j
            · have e8 := decide_eq_true (show (255 : Int) ≤ (j : Int) by omega)
              go_wp2_with (first
                | (go_at_call 45; (with_reducible refine (HO8.out _ r77).mono ?_); rintro e v8 ⟨v9, rfl, o8, b8⟩; obtain ⟨A8, n8, c8, rfl, r8⟩ := o8.reads_n; obtain rfl : n8 = 1 := r8.len.symm.trans HL.out; obtain ⟨bq, oq, rfl, _⟩ := r8.at_ (j := 0) Nat.one_pos; have z8 := d7.below b8; have k88 := z8.keep)
                | (go_at_call 43; (with_reducible refine (Sh.bias_n _).mono ?_); rintro e v9 ⟨rfl, b9⟩; have z9 := z8.below b9; have k9 := z9.keep))
              go_ret
              have hB := HBB.out
              refine ⟨congrArg (fun z => Ending.returned (Value.int .u64 z)) ?_, z9.z.bl⟩
              rw [show min b 2139095040 = 2139095040 by omega]
              decide
            · have e8 := decide_eq_false (show ¬ (255 : Int) ≤ (j : Int) by omega)
              go_wp2_with (first
                | (go_at_call 45; (with_reducible refine (HO8.out _ r77).mono ?_); rintro e v8 ⟨v9, rfl, o8, b8⟩; obtain ⟨A8, n8, c8, rfl, r8⟩ := o8.reads_n; obtain rfl : n8 = 1 := r8.len.symm.trans HL.out; obtain ⟨bq, oq, rfl, _⟩ := r8.at_ (j := 0) Nat.one_pos; have z8 := d7.below b8; have k88 := z8.keep)
                | (go_at_call 43; (with_reducible refine (Sh.bias_n _).mono ?_); rintro e v9 ⟨rfl, b9⟩; have z9 := z8.below b9; have k9 := z9.keep))
              have kq := first_cell r8 HR.out b9
              go_quiet (fail)
              have zq := on z9.z.bl (drewN_below _ nq)
              have hB := HBB.out
              by_cases hT : 2139095040 ≤ j * 8388608 + m
              · have e9 := decide_eq_true (show (2139095040 : Int) ≤ (j : Int) * 8388608 + (m : Int) by omega)
                clear hB
                go_wp2
                go_ret
                have hB := HBB.out
                refine ⟨congrArg (fun z => Ending.returned (Value.int .u64 z)) ?_, zq⟩
                rw [show min b 2139095040 = 2139095040 by omega]
                decide
              · have e9 := decide_eq_false (show ¬ (2139095040 : Int) ≤ (j : Int) * 8388608 + (m : Int) by omega)
                clear hB
                go_wp2
                go_ret
                have hB := HBB.out
                refine ⟨congrArg (fun z => Ending.returned (Value.int .u64 z)) ?_, zq⟩
                rw [← HO.out]
                exact congrArg (Go.bits .or .u64 _) (show (j : Int) * 8388608 + (m : Int) = ((min b 2139095040 : Nat) : Int) by omega)
set_option maxHeartbeats 16000000 in
set_option maxRecDepth 100000 in
theorem rto_ntk_n (S : ByteArray) (k N D bn bd k0 b : Nat) (R : Nat → Nat) (w : World) (hk : k ≤ 3000) (hbn : bn ≤ 8000) (hbd : bd ≤ 11000) (i1 : S.toList.isEmpty = false) (i2 : (S.toList == []) = false) (hkp : 0 < k)
    (HOf : ∀ w1, Calls Tryz.prog 24 #[.string S] w1 (Gives w1 .u32 (digs V N)))
    (HPw : ∀ (y : Int), y = (k : Nat) → ∀ w1, Calls Tryz.prog 25 #[.int .i64 10, .int .i64 y] w1 (Gives w1 .u32 (digs V D)))
    (HN : ∀ (A : Option Addr) (n c : Nat) (V1 : World), SI V1 .u32 A n c (digs V N) → Calls Tryz.prog 42 #[.slice A n c] V1 fun e w' => e = .returned (.int .i64 (bn : Nat)) ∧ V1 = w')
    (HD : ∀ (A : Option Addr) (n c : Nat) (V1 : World), SI V1 .u32 A n c (digs V D) → Calls Tryz.prog 42 #[.slice A n c] V1 fun e w' => e = .returned (.int .i64 (bd : Nat)) ∧ V1 = w')
    (HRo : ∀ (A A' : Option Addr) (n c n' c' : Nat) (V1 : World), SI V1 .u32 A n c (digs V N) → SI V1 .u32 A' n' c' (digs V D) → ∀ (j : Nat) (y : Int), y = 149 - (j : Int) → j ≤ 9000 + 149 → Calls Tryz.prog 44 #[.slice A n c, .slice A' n' c', .int .i64 y] V1 (Gives V1 .u32 (digs V (R j))))
    (HST : ∀ j, 2 ^ (23 + 1) ≤ R j → j < 8000 + 149) (HNO : ∀ j, R j < 2 ^ (23 + 1) → (j = 0 ∨ 2 ^ (23 + 1) ≤ R (j - 1)) → b = j * 2 ^ 23 + R j) (HNX : ∀ j, (j = 0 ∨ 2 ^ (23 + 1) ≤ R (j - 1)) → j = 0 ∨ 2 ^ 23 ≤ R j)
    (HXB : ∀ (j : Nat) (V1 : World) (A : Option Addr) (n c : Nat), SI V1 .u32 A n c (digs V (R j)) → Calls Tryz.prog 42 #[.slice A n c] V1 fun e w' => e = .returned (.int .i64 (nbits (R j) : Nat)) ∧ V1 = w')
    (HOu : ∀ (j : Nat) (V1 : World) (A : Option Addr) (n c : Nat), SI V1 .u32 A n c (digs V (R j)) → Calls Tryz.prog 45 #[.slice A n c] V1 (GivesOwn V1 24 .u64 (digs U (R j))))
    (hlt : ¬ (bn : Int) - bd - 23 - 2 < -149) (hk1 : k0 ≤ 8000 + 149) (hk0 : (k0 : Int) - 149 = (bn : Int) - bd - 23 - 2) (HS : k0 = 0 ∨ 2 ^ (23 + 1) ≤ R (k0 - 1)) :
    Calls Tryz.prog 14 #[.agg #[.int .i64 23, .int .i64 8], .agg #[.int .i64 0, .bool true, .string S, .int .i64 (-(k : Int))]] w fun e w' => e = .returned (.int .u64 ((sg_n true ||| min b 2139095040 : Nat) : Int)) ∧ Below w.heap.size w w' := by
  have HB := Lib.hid (KD.start w 23 8 0 true S (-(k : Int)))
  have S1 := Lib.hid (show IntKind.i64.wrap ((bn : Int) - bd) = (bn : Int) - bd from IntWalk.i64_in _ (by omega))
  have S2 := Lib.hid (show IntKind.i64.wrap ((bn : Int) - bd - 23) = (bn : Int) - bd - 23 from IntWalk.i64_in _ (by omega))
  have S3 := Lib.hid (show IntKind.i64.wrap ((bn : Int) - bd - 23 - 2) = (bn : Int) - bd - 23 - 2 from IntWalk.i64_in _ (by omega))
  have HO := Lib.hid (Sh.or_nat (sg_n true) (min b 2139095040) (sg_lt_n true) (by omega))
  have hx1 := decide_eq_false (show ¬ (0 : Int) ≤ -(k : Int) by omega)
  replace HOf := Lib.hid HOf
  replace HPw := Lib.hid HPw
  replace HN := Lib.hid HN
  replace HD := Lib.hid HD
  replace HRo := Lib.hid HRo
  replace HST := Lib.hid HST
  replace HNO := Lib.hid HNO
  replace HNX := Lib.hid HNX
  replace HXB := Lib.hid HXB
  replace HOu := Lib.hid HOu
  replace HS := Lib.hid HS
  have HK := Lib.hid hk0
  clear hk0
  go_enter Tryz.func14, Tryz.ntmps14
  go_wp2
  go_quiet (fail)
  have z1 := HB.out.below (drewN_below _ nq)
  generalize World.drewN _ nq = Y at *
  have k1 := z1.keep
  go_upto_region 15 with (first
    | (go_at_call 24; (with_reducible refine (HOf.out _).mono ?_); rintro e w1 ⟨A1, n1, c1, rfl, r1, b1⟩; have a1 := alloc_below w1 (.cells #[.int .u32 1] 34); have z2 := (z1.below b1).below a1; have k2 := z2.keep; have q1 := one16 w1; have r11 := r1.below a1)
    | (go_at_call 25; (with_reducible refine (HPw.out _ ?_ _).mono ?_); (first | rfl | omega); rintro e w2 ⟨A2, n2, c2, rfl, r2, b2⟩; have z3 := z2.below b2; have r12 := r11.below b2; have q2 := q1.below b2))
  have Z : RT w w2 23 8 0 true S (-(k : Int)) A1 n1 c1 N A2 n2 c2 D := ⟨z3, r12, r2⟩
  clear r1 r2 r11 r12 q1 q2 b1 b2 a1 z2 z3 k2
  have y0 := Z.drew
  clear Z z1 k1 HB HOf HPw 
  go_region_held3 (fun w' => w'.cell? ⟨w.heap.size, 0, none⟩ = some (.int .i64 23) ∧ w'.cell? ⟨w.heap.size, 1, none⟩ = some (.int .i64 8))
    (first | (with_reducible exact y0.keep))
    (first
      | (go_at_call 42; first
        | ((with_reducible refine (HN.out _ _ _ _ y0.a).mono ?_); rintro e u0 ⟨rfl, rfl⟩)
        | ((with_reducible refine (HD.out _ _ _ _ y0.b).mono ?_); rintro e u0 ⟨rfl, rfl⟩)))
  all_goals
    rw [S1.out, S2.out, S3.out]
    have ky := y0.keep
    clear S1 S2 S3 HN HD
    have e3 := decide_eq_false (show ¬ (bn : Int) - bd - 23 - 2 < -149 by omega)
    clear hlt
    go_wp2_with (first
      | (go_at_call 43; (with_reducible refine (Sh.bias_n _).mono ?_); rintro e v1 ⟨rfl, bb1⟩; have y1 := y0.below bb1; have k1 := y1.keep)
      | (go_at_call 44; (with_reducible refine (HRo.out _ _ _ _ _ _ _ y1.a y1.b k0 _ ?_ ?_).mono ?_); (have := HK.out; omega); (omega); rintro e v3 ⟨A6, n6, c6, rfl, r6, b6⟩; have y3 := y1.below b6))
    go_loopw [9, 10] (fun z v wr => ∃ (j : Nat) (A7 : Option Addr) (n7 c7 : Nat), BJ_n R z v j A7 n7 c7 wr ∧ RT w wr 23 8 0 true S (-(k : Int)) A1 n1 c1 N A2 n2 c2 D) (fun z _ _ => (8001 - intOf z).toNat)
    case atStart => exact ⟨k0, A6, n6, c6, ⟨congrArg (Value.int .i64) (by have := HK.out; omega), rfl, r6, HS.out, hk1⟩, y3⟩
    case round =>
      obtain ⟨j, A7, n7, c7, ⟨rfl, rfl, r7, hs, hj⟩, z7⟩ := hrel
      clear ky y0 y1 y3 r6 b6 hk1 HS bb1 HK
      have d7 := z7.drew
      have kk := z7.keep
      have m7 := HXB.out j _ A7 n7 c7 (r7.below (Below.refl _ _).drew)
      by_cases hm : 2 ^ (23 + 1) ≤ R j
      · have hlt := HST.out j hm
        have e7 := decide_eq_true (show (23 : Int) + 1 < (nbits (R j) : Int) from bits_big.2 hm)
        rw [show (23 : Int) + 1 = (24 : Int) by decide, show (24 : Int) = IntKind.i64.wrap 24 by decide] at e7
        have HM := Lib.hid hm
        clear HNO HOu HNX hm
        generalize hnb : nbits (R j) = nb at *
        clear hnb
        have M7 := Lib.hid m7
        clear m7
        go_wp2
        clear kk
        go_region_held3 (fun w' => w'.cell? ⟨w.heap.size, 0, none⟩ = some (.int .i64 23) ∧ w'.cell? ⟨w.heap.size, 1, none⟩ = some (.int .i64 8))
          (first | (with_reducible exact d7.keep))
          (first | (go_at_call 42; (with_reducible refine M7.out.mono ?_); rintro e u0 ⟨rfl, rfl⟩))
        all_goals
          have k8 := d7.keep
          go_wp2_with (go_at_call 44; (with_reducible refine (HRo.out _ _ _ _ _ _ _ d7.a d7.b (j + 1) _ ?_ ?_).mono ?_); (omega); (omega); rintro e v8 ⟨A8, n8, c8, rfl, r8, b8⟩; have z8 := d7.below b8)
          go_roundw
          case rel => exact ⟨j + 1, A8, n8, c8, ⟨congrArg (Value.int .i64) (by omega), rfl, r8, .inr HM.out, by omega⟩, z8⟩
          case measure => simp [intOf]; omega
      · have hm' := Nat.lt_of_not_le hm
        have e7 := decide_eq_false (show ¬ (23 : Int) + 1 < (nbits (R j) : Int) from fun q => hm (bits_big.1 q))
        rw [show (23 : Int) + 1 = (24 : Int) by decide, show (24 : Int) = IntKind.i64.wrap 24 by decide] at e7
        have hB := HNO.out j hm' hs
        have hX := HNX.out j hs
        have HO8 := Lib.hid (fun (V1 : World) (z : SI V1 .u32 A7 n7 c7 (digs V (R j))) => HOu.out j V1 A7 n7 c7 z)
        clear HNO HOu HNX HST HRo HXB hm hs
        generalize hnb : nbits (R j) = nb at *
        generalize R j = m at *
        clear hnb
        simp only [Nat.reducePow, Nat.reduceAdd] at hB hX hm'
        have M7 := Lib.hid m7
        have HBB := Lib.hid hB
        clear m7 hB
        go_wp2
        clear kk
        go_region_held3 (fun w' => w'.cell? ⟨w.heap.size, 0, none⟩ = some (.int .i64 23) ∧ w'.cell? ⟨w.heap.size, 1, none⟩ = some (.int .i64 8))
          (first | (with_reducible exact d7.keep))
          (first | (go_at_call 42; (with_reducible refine M7.out.mono ?_); rintro e u0 ⟨rfl, rfl⟩))
        all_goals
          have k8 := d7.keep
          have r77 := r7.below (Below.refl wr.heap.size wr).drew
          clear M7 e7
          by_cases h0 : m = 0
          · subst h0
            have HJ := Lib.hid (show j = 0 by omega)
            have HL := Lib.hid (show (digs U 0).length = 0 by rw [digs_zero]; rfl)
            clear hX
            go_wp2_with (go_at_call 45; (with_reducible refine (HO8.out _ r77).mono ?_); rintro e v8 ⟨v9, rfl, o8, b8⟩; obtain ⟨A8, n8, c8, rfl, r8⟩ := o8.reads_n; obtain rfl : n8 = 0 := r8.len.symm.trans HL.out; have z8 := d7.below b8)
            go_ret
            have hB := HBB.out
            have hJ := HJ.out
            refine ⟨congrArg (fun z => Ending.returned (Value.int .u64 z)) ?_, z8.z.bl⟩
            rw [show b = 0 by omega]
            decide
          · have HL := Lib.hid (show (digs U m).length = 1 by rw [Dig.digs_one U_two (show m < U by unfold U; omega) h0]; rfl)
            have HR := Lib.hid (show rd (digs U m) 0 = m by rw [Dig.digs_one U_two (show m < U by unfold U; omega) h0]; rfl)
            clear hX
            by_cases hE : 255 ≤ j
            · have e8 := decide_eq_true (show (255 : Int) ≤ (j : Int) by omega)
              go_wp2_with (first
                | (go_at_call 45; (with_reducible refine (HO8.out _ r77).mono ?_); rintro e v8 ⟨v9, rfl, o8, b8⟩; obtain ⟨A8, n8, c8, rfl, r8⟩ := o8.reads_n; obtain rfl : n8 = 1 := r8.len.symm.trans HL.out; obtain ⟨bq, oq, rfl, _⟩ := r8.at_ (j := 0) Nat.one_pos; have z8 := d7.below b8; have k88 := z8.keep)
                | (go_at_call 43; (with_reducible refine (Sh.bias_n _).mono ?_); rintro e v9 ⟨rfl, b9⟩; have z9 := z8.below b9; have k9 := z9.keep))
              go_ret
              have hB := HBB.out
              refine ⟨congrArg (fun z => Ending.returned (Value.int .u64 z)) ?_, z9.z.bl⟩
              rw [show min b 2139095040 = 2139095040 by omega]
              decide
            · have e8 := decide_eq_false (show ¬ (255 : Int) ≤ (j : Int) by omega)
              go_wp2_with (first
                | (go_at_call 45; (with_reducible refine (HO8.out _ r77).mono ?_); rintro e v8 ⟨v9, rfl, o8, b8⟩; obtain ⟨A8, n8, c8, rfl, r8⟩ := o8.reads_n; obtain rfl : n8 = 1 := r8.len.symm.trans HL.out; obtain ⟨bq, oq, rfl, _⟩ := r8.at_ (j := 0) Nat.one_pos; have z8 := d7.below b8; have k88 := z8.keep)
                | (go_at_call 43; (with_reducible refine (Sh.bias_n _).mono ?_); rintro e v9 ⟨rfl, b9⟩; have z9 := z8.below b9; have k9 := z9.keep))
              have kq := first_cell r8 HR.out b9
              go_quiet (fail)
              have zq := on z9.z.bl (drewN_below _ nq)
              have hB := HBB.out
              by_cases hT : 2139095040 ≤ j * 8388608 + m
              · have e9 := decide_eq_true (show (2139095040 : Int) ≤ (j : Int) * 8388608 + (m : Int) by omega)
                clear hB
                go_wp2
                go_ret
                have hB := HBB.out
                refine ⟨congrArg (fun z => Ending.returned (Value.int .u64 z)) ?_, zq⟩
                rw [show min b 2139095040 = 2139095040 by omega]
                decide
              · have e9 := decide_eq_false (show ¬ (2139095040 : Int) ≤ (j : Int) * 8388608 + (m : Int) by omega)
                clear hB
                go_wp2
                go_ret
                have hB := HBB.out
                refine ⟨congrArg (fun z => Ending.returned (Value.int .u64 z)) ?_, zq⟩
                rw [← HO.out]
                exact congrArg (Go.bits .or .u64 _) (show (j : Int) * 8388608 + (m : Int) = ((min b 2139095040 : Nat) : Int) by omega)
end Go.Proofs.YtfddokfnplehkaaGreatDoor.Nr
