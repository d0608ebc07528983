/- Texts of one layer, joined: La, Lb. -/
import Derived.Test.YtkaajgcjdgjcbaaGreatDoorGF
set_option linter.unusedVariables false
set_option linter.unusedSimpArgs false
set_option linter.unusedSectionVars false
/- Layer 2's laws: WholePowers. -/
namespace Go.Proofs.YtkaajgcjdgjcbaaGreatDoor.Aw
open Go.RowKit Go.Proofs.YtkaajgcjdgjcbaaGreatDoor.Dig Go.Proofs.YtkaajgcjdgjcbaaGreatDoor.W Go.Proofs.YtkaajgcjdgjcbaaGreatDoor.Nat Go.Proofs.YtkaajgcjdgjcbaaGreatDoor.Wh Go.Proofs.YtkaajgcjdgjcbaaGreatDoor.Td Go.Proofs.YtkaajgcjdgjcbaaGreatDoor.Bu Go.Proofs.YtkaajgcjdgjcbaaGreatDoor.Tx
open Go.Proofs.YtkaajgcjdgjcbaaGreatDoor.Rf (V V_two V_pos)

theorem on {w W W' : World} (h : Below w.heap.size w W) (b : Below W.heap.size W W') : Below w.heap.size w W' := h.trans (b.mono h.size)
theorem rpow5 (n : Nat) (w : World) (hn : n ≤ 8192) : Calls Tryz.prog 30 #[.int .i64 5, .int .i64 (n : Nat)] w (Gives w .u32 (digs V (5 ^ n))) := rpow_calls 5 n w (by omega) (by omega) (by omega)
theorem rshl_d (A : Option Addr) (n c m k : Nat) (w : World) (h : SI w .u32 A n c (digs V m)) (hn : n ≤ 4398046511104) (hk : k ≤ 65536) :
    Calls Tryz.prog 33 #[.slice A n c, .int .i64 (k : Nat)] w (Rf.GivesF w .u32 (digs V (m * 2 ^ k))) := by
  have e := Rf.shl_calls A n c (digs V m) k w h (digs_lt V_two m) hn hk
  rw [val_digs V_two] at e
  exact e
theorem rpow_len' {a n x M : Nat} (ha : a ≤ 10) (hx : x ≤ a ^ n) (hn : n ≤ M) (hM : M ≠ 0) : (digs V x).length ≤ M := by
  refine (digs_length_le V_two _ _).2 (Nat.lt_of_le_of_lt hx ?_)
  have h1 : a ^ n ≤ 10 ^ n := Nat.pow_le_pow_left ha n
  have h2 : 10 ^ n ≤ 10 ^ M := Nat.pow_le_pow_right (by omega) hn
  have h3 : 10 ^ M < V ^ M := Nat.pow_lt_pow_left (by decide) hM
  exact Nat.lt_of_le_of_lt (Nat.le_trans h1 h2) h3
theorem rpow_len {a n x : Nat} (ha : a ≤ 10) (hx : x ≤ a ^ n) (hn : n ≤ 8192) : (digs V x).length ≤ 8192 := rpow_len' ha hx hn (by decide)
theorem five_ten (k : Nat) : 5 ^ k * 2 ^ k = 10 ^ k := by rw [← Nat.mul_pow]
set_option maxHeartbeats 4000000 in
set_option maxRecDepth 100000 in
theorem wholePowers_calls (z : Int) (w : World) (hp : Pow w) :
    Calls Tryz.prog 5 #[.int .i64 z] w fun e w' => e = .returned (.bool true) ∧ Below w.heap.size w w' := by
  have HP := Lib.hid hp
  clear hp
  by_cases hin : 0 ≤ z ∧ z ≤ 8192
  · obtain ⟨k, rfl⟩ : ∃ k : Nat, z = k := ⟨z.toNat, by omega⟩
    have hk : k ≤ 8192 := by omega
    clear hin
    have hL1 := rpow_len (a := 5) (by omega) (Nat.le_refl _) hk
    have hL2 := rpow_len (a := 10) (by omega) (Nat.le_refl _) hk
    have HL1 := Lib.hid hL1
    have HL2 := Lib.hid hL2
    have h5 := five_ten k
    have H5 := Lib.hid h5
    have HA := Lib.hid (fun w1 => pow5_calls k w1 hk)
    have HB := Lib.hid (fun w1 => Wh.pow10_calls k w1 hk)
    have HC := Lib.hid (fun w1 => rpow5 k w1 hk)
    have HD := Lib.hid (fun (A : Option Addr) (n c : Nat) (w1 : World) (h : SI w1 .u32 A n c (digs V (5 ^ k))) => rshl_d A n c (5 ^ k) k w1 h (by rw [← h.len]; omega) (by omega))
    rw [h5] at HD
    clear hL1 hL2 h5
    generalize 5 ^ k = p at *
    generalize 10 ^ k = t at *
    go_enter Tryz.func5, Tryz.ntmps5
    go_wp2_with (first
      | (go_at_call 28; (with_reducible refine (HA.out w).mono ?_); rintro e w1 ⟨A1, n1, c1, rfl, r1, b1⟩)
      | (go_at_call 29; (with_reducible refine (HB.out w1).mono ?_); rintro e w2 ⟨A2, n2, c2, rfl, r2, b2⟩)
      | (go_at_call 13; (with_reducible refine (awake_calls w2 ((HP.out.below b1).below b2)).mono ?_); rintro e w3 ⟨rfl, b3⟩)
      | (go_at_call 30; (with_reducible refine (HC.out w3).mono ?_); rintro e w4 ⟨A4, n4, c4, rfl, r4, b4⟩)
      | (go_at_call 32; first
        | ((with_reducible refine (Rw.out_d A4 n4 c4 p w4 r4 (by rw [← r4.len]; have := HL1.out; omega)).mono ?_); rintro e w5 ⟨v5, rfl, o5, b5⟩; obtain ⟨A5, n5, c5, rfl, r5⟩ := o5.reads_n)
        | ((with_reducible refine (Rw.out_d A7 n7 c7 t w7 r7 (by rw [← r7.len]; have := HL2.out; omega)).mono ?_); rintro e w8 ⟨v8, rfl, o8, b8⟩; obtain ⟨A8, n8, c8, rfl, r8⟩ := o8.reads_n))
      | (go_at_call 31; first
        | ((with_reducible refine (Rf.same_calls A1 A5 n1 c1 n5 c5 _ w5 ((((r1.below b2).below b3).below b4).below b5) r5).mono ?_); rintro e w6 ⟨rfl, d6⟩)
        | ((with_reducible refine (Rf.same_calls A2 A8 n2 c2 n8 c8 _ w8 ((((((r2.below b3).below b4).below b5).below d6.below).below b7).below b8) r8).mono ?_); rintro e w9 ⟨rfl, d9⟩))
      | (go_at_call 33; (with_reducible refine (HD.out A4 n4 c4 w6 ((r4.below b5).below d6.below)).mono ?_); rintro e w7 ⟨A7, n7, c7, rfl, r7, f7, b7⟩))
    go_ret
    exact ⟨rfl, on (on (on (on (on (on (on (on b1 b2) b3) b4) b5) d6.below) b7) b8) d9.below⟩
  · have hin' : z < 0 ∨ 8192 < z := by omega
    have HA := Lib.hid (fun w1 => pow5_err z w1 hin')
    have HB := Lib.hid (fun w1 => pow10_err z w1 hin')
    rcases Int.lt_or_le z 0 with h0 | h0
    · have hd1 : decide (z < 0) = true := decide_eq_true h0
      clear hin hin' h0
      go_enter Tryz.func5, Tryz.ntmps5
      go_wp2_with (first
        | (go_at_call 28; (with_reducible refine (HA.out w).mono ?_); rintro e w1 ⟨rfl, rfl⟩)
        | (go_at_call 29; (with_reducible refine (HB.out w).mono ?_); rintro e w2 ⟨rfl, rfl⟩)
        | (go_at_call 13; (with_reducible refine (awake_calls w HP.out).mono ?_); rintro e w3 ⟨rfl, b3⟩))
      go_ret
      exact ⟨rfl, b3⟩
    · have hd1 : decide (z < 0) = false := decide_eq_false (by omega)
      have hd2 : decide (8192 < z) = true := decide_eq_true (by omega)
      clear hin hin' h0
      go_enter Tryz.func5, Tryz.ntmps5
      go_wp2_with (first
        | (go_at_call 28; (with_reducible refine (HA.out w).mono ?_); rintro e w1 ⟨rfl, rfl⟩)
        | (go_at_call 29; (with_reducible refine (HB.out w).mono ?_); rintro e w2 ⟨rfl, rfl⟩)
        | (go_at_call 13; (with_reducible refine (awake_calls w HP.out).mono ?_); rintro e w3 ⟨rfl, b3⟩))
      go_ret
      exact ⟨rfl, b3⟩
end Go.Proofs.YtkaajgcjdgjcbaaGreatDoor.Aw

/- Layer 2's laws: WholeGrows. -/
namespace Go.Proofs.YtkaajgcjdgjcbaaGreatDoor.Aw
open Go.RowKit Go.Proofs.YtkaajgcjdgjcbaaGreatDoor.Dig Go.Proofs.YtkaajgcjdgjcbaaGreatDoor.W Go.Proofs.YtkaajgcjdgjcbaaGreatDoor.Nat Go.Proofs.YtkaajgcjdgjcbaaGreatDoor.Wh Go.Proofs.YtkaajgcjdgjcbaaGreatDoor.Td Go.Proofs.YtkaajgcjdgjcbaaGreatDoor.Bu Go.Proofs.YtkaajgcjdgjcbaaGreatDoor.Tx
open Go.Proofs.YtkaajgcjdgjcbaaGreatDoor.Rf (V V_two V_pos)

theorem dec_pow : ∀ n, Lib.decDigits (10 ^ n) = 49 :: List.replicate n 48
  | 0 => by rw [Nat.pow_zero, dec_small (by omega)]; rfl
  | n + 1 => by
    have h1 : 1 ≤ 10 ^ n := Nat.one_le_pow _ _ (by omega)
    rw [dec_big (by rw [Nat.pow_succ]; omega), Nat.pow_succ, Nat.mul_div_cancel _ (by omega : 0 < 10), dec_pow n, Nat.mul_mod_left, List.replicate_succ']
    rfl
theorem text_pow (A : Option Addr) (n c k : Nat) (w : World) (h : SI w .u64 A n c (digs U (10 ^ k))) (hk : k ≤ 8192) (hp : Pow w) :
    Calls Tryz.prog 34 #[.slice A n c] w fun e w' => ∃ S : ByteArray, e = .returned (.string S) ∧ S.data.toList = 49 :: List.replicate k 48 ∧ Below w.heap.size w w' := by
  have hl : (digs U (10 ^ k)).length ≤ 8192 := pow_short (a := 10) (Nat.le_refl _) hk (Nat.le_refl _)
  have e := text_calls A n c _ w h (dl _) (by rw [← h.len]; omega) hp
  rw [val_digs U_two, dec_pow] at e
  refine e.mono ?_
  rintro e w' ⟨rfl, b⟩
  exact ⟨_, rfl, rfl, b⟩
theorem aw5 (k : Nat) (w : World) (hk : k ≤ 8192) : Calls Tryz.prog 28 #[.int .i64 (k : Nat)] w (Gives1 w (digs U (5 ^ k))) := pow5_calls k w hk
theorem aw5p (n m : Nat) (w : World) (hk : n + m ≤ 8192) : Calls Tryz.prog 28 #[.int .i64 ((n : Int) + (m : Int))] w (Gives1 w (digs U (5 ^ n * 5 ^ m))) := by
  have e := pow5_calls (n + m) w hk
  rw [Nat.pow_add, Int.natCast_add] at e
  exact e
theorem shl_d (A : Option Addr) (n c m k : Nat) (w : World) (h : SI w .u64 A n c (digs U m)) (hn : (digs U m).length ≤ 8192) (hk : k ≤ 65536) :
    Calls Tryz.prog 43 #[.slice A n c, .int .i64 (k : Nat)] w (GivesOwn2 w 65 .u64 (digs U (m * 2 ^ k))) := by
  have e := Nat.shl_calls A n c (digs U m) k w h (dl m) (by rw [← h.len]; omega) hk
  rw [val_digs U_two] at e
  exact e
set_option maxHeartbeats 8000000 in
set_option maxRecDepth 100000 in
theorem grows_in (n m : Nat) (w : World) (hp : Pow w) (hn : n ≤ 4096) (hm : m ≤ 4096) :
    Calls Tryz.prog 11 #[.int .i64 (n : Nat), .int .i64 (m : Nat)] w fun e w' => e = .returned (.bool true) ∧ Below w.heap.size w w' := by
  have HP := Lib.hid hp
  clear hp
  have hL1 : (digs U (5 ^ n)).length ≤ 8192 := pow_short (a := 5) (by omega) (by omega : n ≤ 8192) (Nat.le_refl _)
  have hL2 : (digs U (5 ^ m)).length ≤ 8192 := pow_short (a := 5) (by omega) (by omega : m ≤ 8192) (Nat.le_refl _)
  have HA := Lib.hid (fun w1 => aw5 n w1 (by omega))
  have HB := Lib.hid (fun w1 => aw5 m w1 (by omega))
  have HC := Lib.hid (fun w1 => aw5p n m w1 (by omega))
  have HD := Lib.hid (fun w1 => Wh.pow10_calls n w1 (by omega))
  have HE := Lib.hid (fun (A : Option Addr) (k c : Nat) (w1 : World) (h : SI w1 .u64 A k c (digs U (5 ^ n))) => shl_d A k c (5 ^ n) n w1 h hL1 (by omega))
  have HF := Lib.hid (fun (A : Option Addr) (k c : Nat) (w1 : World) (h : SI w1 .u64 A k c (digs U (10 ^ n))) (h2 : Pow w1) => text_pow A k c n w1 h (by omega) h2)
  rw [five_ten n] at HE
  have HG := Lib.hid (fun (A A' : Option Addr) (k c k' c' : Nat) (w1 : World) (h : SI w1 .u64 A k c (digs U (5 ^ n))) (h' : SI w1 .u64 A' k' c' (digs U (5 ^ m))) => mul_d A A' k c k' c' (5 ^ n) (5 ^ m) w1 h h' (by rw [← h.len]; omega) (by rw [← h'.len]; omega))
  clear hL1 hL2
  generalize 5 ^ n = p at *
  generalize 5 ^ m = q at *
  generalize 10 ^ n = t at *
  go_enter Tryz.func11, Tryz.ntmps11
  go_wp2_with (first
    | (go_at_call 13; (with_reducible refine (awake_calls w HP.out).mono ?_); rintro e w0 ⟨rfl, b0⟩)
    | (go_at_call 28; first
      | ((with_reducible refine (HA.out w0).mono ?_); rintro e w1 ⟨A1, n1, c1, rfl, r1, b1⟩)
      | ((with_reducible refine (HB.out w1).mono ?_); rintro e w2 ⟨A2, n2, c2, rfl, r2, b2⟩)
      | ((with_reducible refine (HC.out w2).mono ?_); rintro e w3 ⟨A3, n3, c3, rfl, r3, b3⟩))
    | (go_at_call 29; (with_reducible refine (HD.out w3).mono ?_); rintro e w4 ⟨A4, n4, c4, rfl, r4, b4⟩)
    | (go_at_call 43; (with_reducible refine (HE.out A1 n1 c1 w4 (((r1.below b2).below b3).below b4)).mono ?_); rintro e w5 ⟨v5, rfl, o5, b5⟩; obtain ⟨A5, n5, c5, rfl, r5⟩ := o5.reads_n)
    | (go_at_call 42; (with_reducible refine (HG.out A1 A2 n1 c1 n2 c2 w5 ((((r1.below b2).below b3).below b4).below b5) (((r2.below b3).below b4).below b5)).mono ?_); rintro e w6 ⟨v6, rfl, o6, b6⟩; obtain ⟨A6, n6, c6, rfl, r6⟩ := o6.reads_n)
    | (go_at_call 31; first
      | ((with_reducible refine (Rf.same_calls A3 A6 n3 c3 n6 c6 _ w6 (((r3.below b4).below b5).below b6) r6).mono ?_); rintro e w7 ⟨rfl, d7⟩)
      | ((with_reducible refine (Rf.same_calls A4 A5 n4 c4 n5 c5 _ w7 (((r4.below b5).below b6).below d7.below) ((r5.below b6).below d7.below)).mono ?_); rintro e w8 ⟨rfl, d8⟩))
    | (go_at_call 34; (with_reducible refine (HF.out A4 n4 c4 w8 ((((r4.below b5).below b6).below d7.below).below d8.below) (((((((((HP.out.below b0).below b1).below b2).below b3).below b4).below b5).below b6).below d7.below).below d8.below)).mono ?_); rintro e w9 ⟨S, rfl, hS, b9⟩))
  have hb9 : Below w.heap.size w w9 := on (on (on (on (on (on (on (on (on b0 b1) b2) b3) b4) b5) b6) d7.below) d8.below) b9
  have hsz : S.size = n + 1 := by rw [Lib.size_eq, hS, List.length_cons, List.length_replicate]
  have h0 : 0 < S.size := by omega
  have hfirst : (S[0].toNat : Int) = 49 := by rw [first_of h0 hS]; rfl
  have HS := Lib.hid hS
  have HB9 := Lib.hid hb9
  clear hS hb9 HP HA HB HC HD HE HF HG
  go_loop [16] (fun z => ∃ i : Nat, z = .int .i64 (i : Nat) ∧ 1 ≤ i ∧ i ≤ n + 1) (fun z => n + 1 - (intOf z).toNat)
  case atStart => exact ⟨1, rfl, by omega, by omega⟩
  case round =>
    obtain ⟨i, rfl, hi1, hi2⟩ := hrel
    by_cases hi : i < n + 1
    · have hx : i < S.size := by omega
      have hc : (S[i].toNat : Int) = 48 := by
        have h1 : S.data.toList[i]? = some 48 := by
          obtain ⟨j, rfl⟩ : ∃ j, i = j + 1 := ⟨i - 1, by omega⟩
          rw [HS.out, List.getElem?_cons_succ, List.getElem?_replicate, if_pos (by omega)]
        rw [Array.getElem?_toList] at h1
        have h2 : S[i] = 48 := (Array.getElem?_eq_some_iff.1 h1).2
        rw [h2]; rfl
      go_wp2
      go_round
      case rel => exact ⟨i + 1, rfl, by omega, by omega⟩
      case measure => simp [intOf]; omega
    · obtain rfl : i = n + 1 := by omega
      go_wp2
      go_ret
      exact ⟨rfl, HB9.out⟩
set_option maxRecDepth 100000 in
theorem grows_out (z y : Int) (w : World) (hp : Pow w) (h : ¬ (0 ≤ z ∧ 0 ≤ y ∧ z ≤ 4096 ∧ y ≤ 4096)) :
    Calls Tryz.prog 11 #[.int .i64 z, .int .i64 y] w fun e w' => e = .returned (.bool true) ∧ Below w.heap.size w w' := by
  have HP := Lib.hid hp
  clear hp
  by_cases h1 : z < 0
  · have d1 : decide (z < 0) = true := decide_eq_true h1
    clear h h1
    go_enter Tryz.func11, Tryz.ntmps11
    go_wp2_with (go_at_call 13; (with_reducible refine (awake_calls w HP.out).mono ?_); rintro e w0 ⟨rfl, b0⟩)
    go_ret
    exact ⟨rfl, b0⟩
  have d1 : decide (z < 0) = false := decide_eq_false h1
  by_cases h2 : y < 0
  · have d2 : decide (y < 0) = true := decide_eq_true h2
    clear h h1 h2
    go_enter Tryz.func11, Tryz.ntmps11
    go_wp2_with (go_at_call 13; (with_reducible refine (awake_calls w HP.out).mono ?_); rintro e w0 ⟨rfl, b0⟩)
    go_ret
    exact ⟨rfl, b0⟩
  have d2 : decide (y < 0) = false := decide_eq_false h2
  by_cases h3 : 4096 < z
  · have d3 : decide (4096 < z) = true := decide_eq_true h3
    clear h h1 h2 h3
    go_enter Tryz.func11, Tryz.ntmps11
    go_wp2_with (go_at_call 13; (with_reducible refine (awake_calls w HP.out).mono ?_); rintro e w0 ⟨rfl, b0⟩)
    go_ret
    exact ⟨rfl, b0⟩
  have d3 : decide (4096 < z) = false := decide_eq_false h3
  · have d4 : decide (4096 < y) = true := decide_eq_true (by omega)
    clear h h1 h2 h3
    go_enter Tryz.func11, Tryz.ntmps11
    go_wp2_with (go_at_call 13; (with_reducible refine (awake_calls w HP.out).mono ?_); rintro e w0 ⟨rfl, b0⟩)
    go_ret
    exact ⟨rfl, b0⟩
theorem wholeGrows_calls (z y : Int) (w : World) (hp : Pow w) :
    Calls Tryz.prog 11 #[.int .i64 z, .int .i64 y] w fun e w' => e = .returned (.bool true) ∧ Below w.heap.size w w' := by
  by_cases h : 0 ≤ z ∧ 0 ≤ y ∧ z ≤ 4096 ∧ y ≤ 4096
  · obtain ⟨n, rfl⟩ : ∃ n : Nat, z = n := ⟨z.toNat, by omega⟩
    obtain ⟨m, rfl⟩ : ∃ m : Nat, y = m := ⟨y.toNat, by omega⟩
    exact grows_in n m w hp (by omega) (by omega)
  · exact grows_out z y w hp h
end Go.Proofs.YtkaajgcjdgjcbaaGreatDoor.Aw
