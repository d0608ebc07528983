/- Texts of one layer, joined: La, Lc, Ld. -/
import Derived.Test.YtkaajgcjdgjcbaaGreatDoorGF
set_option linter.unusedVariables false
set_option linter.unusedSimpArgs false
set_option linter.unusedSectionVars false
/- Layer 2's laws: WholePowers. -/
namespace Go.Proofs.YtkaajgcjdgjcbaaGreatDoor.Aw
open Go.RowKit Go.Proofs.YtkaajgcjdgjcbaaGreatDoor.Dig Go.Proofs.YtkaajgcjdgjcbaaGreatDoor.W Go.Proofs.YtkaajgcjdgjcbaaGreatDoor.Nat Go.Proofs.YtkaajgcjdgjcbaaGreatDoor.Wh Go.Proofs.YtkaajgcjdgjcbaaGreatDoor.Td Go.Proofs.YtkaajgcjdgjcbaaGreatDoor.Bu Go.Proofs.YtkaajgcjdgjcbaaGreatDoor.Tx
open Go.Proofs.YtkaajgcjdgjcbaaGreatDoor.Rf (V V_two V_pos)

theorem on {w W W' : World} (h : Below w.heap.size w W) (b : Below W.heap.size W W') : Below w.heap.size w W' := h.trans (b.mono h.size)
theorem rpow5 (n : Nat) (w : World) (hn : n ≤ 8192) : Calls Tryz.prog 30 #[.int .i64 5, .int .i64 (n : Nat)] w (Gives w .u32 (digs V (5 ^ n))) := rpow_calls 5 n w (by omega) (by omega) (by omega)
theorem rshl_d (A : Option Addr) (n c m k : Nat) (w : World) (h : SI w .u32 A n c (digs V m)) (hn : n ≤ 4398046511104) (hk : k ≤ 65536) :
    Calls Tryz.prog 33 #[.slice A n c, .int .i64 (k : Nat)] w (Rf.GivesF w .u32 (digs V (m * 2 ^ k))) := by
  have e := Rf.shl_calls A n c (digs V m) k w h (digs_lt V_two m) hn hk
  rw [val_digs V_two] at e
  exact e
theorem rpow_len' {a n x M : Nat} (ha : a ≤ 10) (hx : x ≤ a ^ n) (hn : n ≤ M) (hM : M ≠ 0) : (digs V x).length ≤ M := by
  refine (digs_length_le V_two _ _).2 (Nat.lt_of_le_of_lt hx ?_)
  have h1 : a ^ n ≤ 10 ^ n := Nat.pow_le_pow_left ha n
  have h2 : 10 ^ n ≤ 10 ^ M := Nat.pow_le_pow_right (by omega) hn
  have h3 : 10 ^ M < V ^ M := Nat.pow_lt_pow_left (by decide) hM
  exact Nat.lt_of_le_of_lt (Nat.le_trans h1 h2) h3
theorem rpow_len {a n x : Nat} (ha : a ≤ 10) (hx : x ≤ a ^ n) (hn : n ≤ 8192) : (digs V x).length ≤ 8192 := rpow_len' ha hx hn (by decide)
theorem five_ten (k : Nat) : 5 ^ k * 2 ^ k = 10 ^ k := by rw [← Nat.mul_pow]
set_option maxHeartbeats 4000000 in
set_option maxRecDepth 100000 in
theorem wholePowers_calls (z : Int) (w : World) (hp : Pow w) :
    Calls Tryz.prog 5 #[.int .i64 z] w fun e w' => e = .returned (.bool true) ∧ Below w.heap.size w w' := by
  have HP := Lib.hid hp
  clear hp
  by_cases hin : 0 ≤ z ∧ z ≤ 8192
  · obtain ⟨k, rfl⟩ : ∃ k : Nat, z = k := ⟨z.toNat, by omega⟩
    have hk : k ≤ 8192 := by omega
    clear hin
    have hL1 := rpow_len (a := 5) (by omega) (Nat.le_refl _) hk
    have hL2 := rpow_len (a := 10) (by omega) (Nat.le_refl _) hk
    have HL1 := Lib.hid hL1
    have HL2 := Lib.hid hL2
    have h5 := five_ten k
    have H5 := Lib.hid h5
    have HA := Lib.hid (fun w1 => pow5_calls k w1 hk)
    have HB := Lib.hid (fun w1 => Wh.pow10_calls k w1 hk)
    have HC := Lib.hid (fun w1 => rpow5 k w1 hk)
    have HD := Lib.hid (fun (A : Option Addr) (n c : Nat) (w1 : World) (h : SI w1 .u32 A n c (digs V (5 ^ k))) => rshl_d A n c (5 ^ k) k w1 h (by rw [← h.len]; omega) (by omega))
    rw [h5] at HD
    clear hL1 hL2 h5
    generalize 5 ^ k = p at *
    generalize 10 ^ k = t at *
    go_enter Tryz.func5, Tryz.ntmps5
    go_wp2_with (first
      | (go_at_call 28; (with_reducible refine (HA.out w).mono ?_); rintro e w1 ⟨A1, n1, c1, rfl, r1, b1⟩)
      | (go_at_call 29; (with_reducible refine (HB.out w1).mono ?_); rintro e w2 ⟨A2, n2, c2, rfl, r2, b2⟩)
      | (go_at_call 13; (with_reducible refine (awake_calls w2 ((HP.out.below b1).below b2)).mono ?_); rintro e w3 ⟨rfl, b3⟩)
      | (go_at_call 30; (with_reducible refine (HC.out w3).mono ?_); rintro e w4 ⟨A4, n4, c4, rfl, r4, b4⟩)
      | (go_at_call 32; first
        | ((with_reducible refine (Rw.out_d A4 n4 c4 p w4 r4 (by rw [← r4.len]; have := HL1.out; omega)).mono ?_); rintro e w5 ⟨v5, rfl, o5, b5⟩; obtain ⟨A5, n5, c5, rfl, r5⟩ := o5.reads_n)
        | ((with_reducible refine (Rw.out_d A7 n7 c7 t w7 r7 (by rw [← r7.len]; have := HL2.out; omega)).mono ?_); rintro e w8 ⟨v8, rfl, o8, b8⟩; obtain ⟨A8, n8, c8, rfl, r8⟩ := o8.reads_n))
      | (go_at_call 31; first
        | ((with_reducible refine (Rf.same_calls A1 A5 n1 c1 n5 c5 _ w5 ((((r1.below b2).below b3).below b4).below b5) r5).mono ?_); rintro e w6 ⟨rfl, d6⟩)
        | ((with_reducible refine (Rf.same_calls A2 A8 n2 c2 n8 c8 _ w8 ((((((r2.below b3).below b4).below b5).below d6.below).below b7).below b8) r8).mono ?_); rintro e w9 ⟨rfl, d9⟩))
      | (go_at_call 33; (with_reducible refine (HD.out A4 n4 c4 w6 ((r4.below b5).below d6.below)).mono ?_); rintro e w7 ⟨A7, n7, c7, rfl, r7, f7, b7⟩))
    go_ret
    exact ⟨rfl, on (on (on (on (on (on (on (on b1 b2) b3) b4) b5) d6.below) b7) b8) d9.below⟩
  · have hin' : z < 0 ∨ 8192 < z := by omega
    have HA := Lib.hid (fun w1 => pow5_err z w1 hin')
    have HB := Lib.hid (fun w1 => pow10_err z w1 hin')
    rcases Int.lt_or_le z 0 with h0 | h0
    · have hd1 : decide (z < 0) = true := decide_eq_true h0
      clear hin hin' h0
      go_enter Tryz.func5, Tryz.ntmps5
      go_wp2_with (first
        | (go_at_call 28; (with_reducible refine (HA.out w).mono ?_); rintro e w1 ⟨rfl, rfl⟩)
        | (go_at_call 29; (with_reducible refine (HB.out w).mono ?_); rintro e w2 ⟨rfl, rfl⟩)
        | (go_at_call 13; (with_reducible refine (awake_calls w HP.out).mono ?_); rintro e w3 ⟨rfl, b3⟩))
      go_ret
      exact ⟨rfl, b3⟩
    · have hd1 : decide (z < 0) = false := decide_eq_false (by omega)
      have hd2 : decide (8192 < z) = true := decide_eq_true (by omega)
      clear hin hin' h0
      go_enter Tryz.func5, Tryz.ntmps5
      go_wp2_with (first
        | (go_at_call 28; (with_reducible refine (HA.out w).mono ?_); rintro e w1 ⟨rfl, rfl⟩)
        | (go_at_call 29; (with_reducible refine (HB.out w).mono ?_); rintro e w2 ⟨rfl, rfl⟩)
        | (go_at_call 13; (with_reducible refine (awake_calls w HP.out).mono ?_); rintro e w3 ⟨rfl, b3⟩))
      go_ret
      exact ⟨rfl, b3⟩
end Go.Proofs.YtkaajgcjdgjcbaaGreatDoor.Aw

/- Layer 2's laws: WholeBack. -/
namespace Go.Proofs.YtkaajgcjdgjcbaaGreatDoor.Aw
open Go.RowKit Go.Proofs.YtkaajgcjdgjcbaaGreatDoor.Dig Go.Proofs.YtkaajgcjdgjcbaaGreatDoor.W Go.Proofs.YtkaajgcjdgjcbaaGreatDoor.Nat Go.Proofs.YtkaajgcjdgjcbaaGreatDoor.Wh Go.Proofs.YtkaajgcjdgjcbaaGreatDoor.Td Go.Proofs.YtkaajgcjdgjcbaaGreatDoor.Bu Go.Proofs.YtkaajgcjdgjcbaaGreatDoor.Tx

/-- Parse's answer, whatever the text -/
def parseErr (l : List UInt8) : Int := if 8192 < l.length then 21 else 20
theorem parse_any (s : ByteArray) (hs : s.size ≤ 9223372036854775807) (w : World) :
    (s.size ≤ 8192 ∧ Numeral s.data.toList ∧ Calls Tryz.prog 37 #[.string s] w (Gives1 w (digs U (nv 0 s.data.toList)))) ∨
    (¬ (s.size ≤ 8192 ∧ Numeral s.data.toList) ∧ ∃ z : Int, z = parseErr s.data.toList ∧ Calls Tryz.prog 37 #[.string s] w fun e w' => e = .returned (.tuple #[.slice none 0 0, .int .i64 z]) ∧ Below w.heap.size w w') := by
  by_cases h1 : s.size ≤ 8192
  · by_cases h2 : Numeral s.data.toList
    · exact .inl ⟨h1, h2, parse_good s h1 h2 w⟩
    · refine .inr ⟨fun h => h2 h.2, 20, ?_, parse_bad s h1 h2 w⟩
      unfold parseErr
      rw [← Lib.size_eq, if_neg (by omega)]
  · refine .inr ⟨fun h => h1 h.1, 21, ?_, parse_long s (by omega) hs w⟩
    unfold parseErr
    rw [← Lib.size_eq, if_pos (by omega)]
theorem dec_numeral (u : Nat) : Numeral (Lib.decDigits u) := by
  refine ⟨dec_isDig u, ?_⟩
  by_cases h : u = 0
  · subst h
    exact ⟨48, [], dec_small (by omega), .inr rfl⟩
  · obtain ⟨c, r, e, hc⟩ := dec_head u h
    exact ⟨c, r, e, .inl (by simpa using hc)⟩
theorem text_str (A : Option Addr) (n c : Nat) (l : List Nat) (w : World) (h : SI w .u64 A n c l) (hl : Lt U l) (hn : n ≤ 1000000000000) (hp : Pow w) :
    Calls Tryz.prog 34 #[.slice A n c] w fun e w' => ∃ S : ByteArray, e = .returned (.string S) ∧ S.data.toList = Lib.decDigits (val U l) ∧ Below w.heap.size w w' := by
  refine (text_calls A n c l w h hl hn hp).mono ?_
  rintro e w' ⟨rfl, b⟩
  exact ⟨_, rfl, rfl, b⟩
theorem str_eq {S T : ByteArray} (h : S.data.toList = T.data.toList) : S = T := by
  apply ByteArray.ext
  exact Array.toList_inj.1 h
/-- Parse, over what Text has told -/
theorem parse_told (S : ByteArray) (M : Nat) (h : S.data.toList = Lib.decDigits M) (hs : S.size ≤ 8192) (w : World) :
    Calls Tryz.prog 37 #[.string S] w (Gives1 w (digs U M)) := by
  have e := parse_good S hs (by rw [h]; exact dec_numeral M) w
  rw [h, nv_dec] at e
  exact e
theorem norm_d (A : Option Addr) (n c : Nat) (l : List Nat) (w : World) (h : SI w .u64 A n c l) (hl : Lt U l) (hn : n ≤ 8796093022208) :
    Calls Tryz.prog 39 #[.slice A n c] w (GivesOwn w 65 .u64 (digs U (val U l))) := norm_calls A n c l w h hl hn
theorem nv_lt_len {l : List UInt8} (h : Numeral l) (hl : l.length ≤ 8192) : (digs U (nv 0 l)).length ≤ 8192 := nv_short h.1 hl
theorem parse_two (s : ByteArray) (hs : s.size ≤ 9223372036854775807) :
    (s.size ≤ 8192 ∧ Numeral s.data.toList) ∨ (∀ w : World, Calls Tryz.prog 37 #[.string s] w fun e w' => e = .returned (.tuple #[.slice none 0 0, .int .i64 20]) ∧ Below w.heap.size w w') ∨
    (∀ w : World, Calls Tryz.prog 37 #[.string s] w fun e w' => e = .returned (.tuple #[.slice none 0 0, .int .i64 21]) ∧ Below w.heap.size w w') := by
  by_cases h1 : s.size ≤ 8192
  · by_cases h2 : Numeral s.data.toList
    · exact .inl ⟨h1, h2⟩
    · exact .inr (.inl fun w => parse_bad s h1 h2 w)
  · exact .inr (.inr fun w => parse_long s (by omega) hs w)
theorem text_back (s : ByteArray) (hs : s.size ≤ 8192) (h : Numeral s.data.toList) (A : Option Addr) (n c : Nat) (w : World) (hr : SI w .u64 A n c (digs U (nv 0 s.data.toList))) (hp : Pow w) :
    Calls Tryz.prog 34 #[.slice A n c] w fun e w' => e = .returned (.string s) ∧ Below w.heap.size w w' := by
  have hl := nv_lt_len h (by rw [← Lib.size_eq]; exact hs)
  refine (text_str A n c _ w hr (dl _) (by rw [← hr.len]; omega) hp).mono ?_
  rintro e w' ⟨S, rfl, hS, b⟩
  rw [val_digs U_two, dec_nv h.1 h.2] at hS
  rw [str_eq hS]
  exact ⟨rfl, b⟩
set_option maxHeartbeats 4000000 in
set_option maxRecDepth 100000 in
theorem back_sok (A : Option Addr) (n c : Nat) (l : List Nat) (s : ByteArray) (w : World) (h : SI w .u64 A n c l) (hl : Lt U l) (hn : n ≤ 1048576) (hp : Pow w) (hbig : (Lib.decDigits (val U l)).length ≤ 9223372036854775807) (hlen : (Lib.decDigits (val U l)).length ≤ 8192) (hok : s.size ≤ 8192 ∧ Numeral s.data.toList) :
    Calls Tryz.prog 8 #[.slice A n c, .string s] w fun e w' => e = .returned (.bool true) ∧ Below w.heap.size w w' := by
  have HP := Lib.hid hp
  have HT := Lib.hid (text_str A n c l w h hl (by omega) hp)
  have HN := Lib.hid (fun (w1 : World) (b : Below w.heap.size w w1) => norm_d A n c l w1 (h.below b) hl (by omega))
  clear hp h hl
  generalize val U l = M at *
  obtain ⟨L, hL⟩ : ∃ L, (Lib.decDigits M).length = L := ⟨_, rfl⟩
  have HLEN := Lib.hid hlen
  have HL := Lib.hid hL
  rw [hL] at hlen hbig
  have hd : decide ((L : Int) ≤ 8192) = true := decide_eq_true (by omega)
  clear hL hlen
  go_enter Tryz.func8, Tryz.ntmps8
  go_wp2_with (first
    | (go_at_call 34; first
      | ((with_reducible refine HT.out.mono ?_); rintro e w1 ⟨S1, rfl, hS1, b1⟩; have hz1 : S1.size = L := (by rw [Lib.size_eq, hS1]; exact HL.out); have HS1 := Lib.hid hS1; clear hS1)
      | ((with_reducible refine (text_back s hok.1 hok.2 A6 n6 c6 w6 r6 ((((HP.out.below b1).below b2).below b3)|>.below b4 |>.below d5.below |>.below b6)).mono ?_); rintro e w7 ⟨rfl, b7⟩))
    | (go_at_call 37; first
      | ((with_reducible refine (parse_told S1 M HS1.out (by rw [Lib.size_eq, HS1.out]; exact HLEN.out) w1).mono ?_); rintro e w2 ⟨A2, n2, c2, rfl, r2, b2⟩)
      | ((with_reducible refine (parse_good s hok.1 hok.2 w5).mono ?_); rintro e w6 ⟨A6, n6, c6, rfl, r6, b6⟩))
    | (go_at_call 13; (with_reducible refine (awake_calls w2 ((HP.out.below b1).below b2)).mono ?_); rintro e w3 ⟨rfl, b3⟩)
    | (go_at_call 39; (with_reducible refine (HN.out w3 (on (on b1 b2) b3)).mono ?_); rintro e w4 ⟨v4, rfl, o4, b4⟩; obtain ⟨A4, n4, c4, rfl, r4⟩ := o4.reads_n)
    | (go_at_call 31; (with_reducible refine (Rf.same_calls A2 A4 n2 c2 n4 c4 _ w4 ((r2.below b3).below b4) r4).mono ?_); rintro e w5 ⟨rfl, d5⟩))
  go_ret
  exact ⟨rfl, on (on (on (on (on (on b1 b2) b3) b4) d5.below) b6) b7⟩
set_option maxHeartbeats 4000000 in
set_option maxRecDepth 100000 in
theorem back_se (A : Option Addr) (n c : Nat) (l : List Nat) (s : ByteArray) (w : World) (h : SI w .u64 A n c l) (hl : Lt U l) (hn : n ≤ 1048576) (hp : Pow w) (hbig : (Lib.decDigits (val U l)).length ≤ 9223372036854775807) (hlen : (Lib.decDigits (val U l)).length ≤ 8192) (z : Int) (hz : (z != 0) = true) (HE : Hid (∀ w : World, Calls Tryz.prog 37 #[.string s] w fun e w' => e = .returned (.tuple #[.slice none 0 0, .int .i64 z]) ∧ Below w.heap.size w w')) :
    Calls Tryz.prog 8 #[.slice A n c, .string s] w fun e w' => e = .returned (.bool true) ∧ Below w.heap.size w w' := by
  have HP := Lib.hid hp
  have HT := Lib.hid (text_str A n c l w h hl (by omega) hp)
  have HN := Lib.hid (fun (w1 : World) (b : Below w.heap.size w w1) => norm_d A n c l w1 (h.below b) hl (by omega))
  clear hp h hl
  generalize val U l = M at *
  obtain ⟨L, hL⟩ : ∃ L, (Lib.decDigits M).length = L := ⟨_, rfl⟩
  have HLEN := Lib.hid hlen
  have HL := Lib.hid hL
  rw [hL] at hlen hbig
  have hd : decide ((L : Int) ≤ 8192) = true := decide_eq_true (by omega)
  clear hL hlen
  go_enter Tryz.func8, Tryz.ntmps8
  go_wp2_with (first
    | (go_at_call 34; first
      | ((with_reducible refine HT.out.mono ?_); rintro e w1 ⟨S1, rfl, hS1, b1⟩; have hz1 : S1.size = L := (by rw [Lib.size_eq, hS1]; exact HL.out); have HS1 := Lib.hid hS1; clear hS1))
    | (go_at_call 37; first
      | ((with_reducible refine (parse_told S1 M HS1.out (by rw [Lib.size_eq, HS1.out]; exact HLEN.out) w1).mono ?_); rintro e w2 ⟨A2, n2, c2, rfl, r2, b2⟩)
      | ((with_reducible refine (HE.out w5).mono ?_); rintro e w6 ⟨rfl, b6⟩))
    | (go_at_call 13; (with_reducible refine (awake_calls w2 ((HP.out.below b1).below b2)).mono ?_); rintro e w3 ⟨rfl, b3⟩)
    | (go_at_call 39; (with_reducible refine (HN.out w3 (on (on b1 b2) b3)).mono ?_); rintro e w4 ⟨v4, rfl, o4, b4⟩; obtain ⟨A4, n4, c4, rfl, r4⟩ := o4.reads_n)
    | (go_at_call 31; (with_reducible refine (Rf.same_calls A2 A4 n2 c2 n4 c4 _ w4 ((r2.below b3).below b4) r4).mono ?_); rintro e w5 ⟨rfl, d5⟩))
  go_ret
  exact ⟨rfl, on (on (on (on (on b1 b2) b3) b4) d5.below) b6⟩
set_option maxHeartbeats 4000000 in
set_option maxRecDepth 100000 in
theorem back_lok (A : Option Addr) (n c : Nat) (l : List Nat) (s : ByteArray) (w : World) (h : SI w .u64 A n c l) (hl : Lt U l) (hn : n ≤ 1048576) (hp : Pow w) (hbig : (Lib.decDigits (val U l)).length ≤ 9223372036854775807) (hlen : 8192 < (Lib.decDigits (val U l)).length) (hok : s.size ≤ 8192 ∧ Numeral s.data.toList) :
    Calls Tryz.prog 8 #[.slice A n c, .string s] w fun e w' => e = .returned (.bool true) ∧ Below w.heap.size w w' := by
  have HP := Lib.hid hp
  have HT := Lib.hid (text_str A n c l w h hl (by omega) hp)
  have HN := Lib.hid (fun (w1 : World) (b : Below w.heap.size w w1) => norm_d A n c l w1 (h.below b) hl (by omega))
  clear hp h hl
  generalize val U l = M at *
  obtain ⟨L, hL⟩ : ∃ L, (Lib.decDigits M).length = L := ⟨_, rfl⟩
  have HLEN := Lib.hid hlen
  have HL := Lib.hid hL
  rw [hL] at hlen hbig
  have hd : decide ((L : Int) ≤ 8192) = false := decide_eq_false (by omega)
  clear hL hlen
  go_enter Tryz.func8, Tryz.ntmps8
  go_wp2_with (first
    | (go_at_call 34; first
      | ((with_reducible refine HT.out.mono ?_); rintro e w1 ⟨S1, rfl, hS1, b1⟩; have hz1 : S1.size = L := (by rw [Lib.size_eq, hS1]; exact HL.out); have HS1 := Lib.hid hS1; clear hS1)
      | ((with_reducible refine (text_back s hok.1 hok.2 A6 n6 c6 w6 r6 ((((HP.out.below b1).below b2).below b3) |>.below b6)).mono ?_); rintro e w7 ⟨rfl, b7⟩))
    | (go_at_call 37; first
      | ((with_reducible refine (parse_long S1 (by rw [Lib.size_eq, HS1.out]; exact HLEN.out) (by have := hz1; omega) w1).mono ?_); rintro e w2 ⟨rfl, b2⟩)
      | ((with_reducible refine (parse_good s hok.1 hok.2 w3).mono ?_); rintro e w6 ⟨A6, n6, c6, rfl, r6, b6⟩))
    | (go_at_call 13; (with_reducible refine (awake_calls w2 ((HP.out.below b1).below b2)).mono ?_); rintro e w3 ⟨rfl, b3⟩))
  go_ret
  exact ⟨rfl, on (on (on (on b1 b2) b3) b6) b7⟩
set_option maxHeartbeats 4000000 in
set_option maxRecDepth 100000 in
theorem back_le (A : Option Addr) (n c : Nat) (l : List Nat) (s : ByteArray) (w : World) (h : SI w .u64 A n c l) (hl : Lt U l) (hn : n ≤ 1048576) (hp : Pow w) (hbig : (Lib.decDigits (val U l)).length ≤ 9223372036854775807) (hlen : 8192 < (Lib.decDigits (val U l)).length) (z : Int) (hz : (z != 0) = true) (HE : Hid (∀ w : World, Calls Tryz.prog 37 #[.string s] w fun e w' => e = .returned (.tuple #[.slice none 0 0, .int .i64 z]) ∧ Below w.heap.size w w')) :
    Calls Tryz.prog 8 #[.slice A n c, .string s] w fun e w' => e = .returned (.bool true) ∧ Below w.heap.size w w' := by
  have HP := Lib.hid hp
  have HT := Lib.hid (text_str A n c l w h hl (by omega) hp)
  have HN := Lib.hid (fun (w1 : World) (b : Below w.heap.size w w1) => norm_d A n c l w1 (h.below b) hl (by omega))
  clear hp h hl
  generalize val U l = M at *
  obtain ⟨L, hL⟩ : ∃ L, (Lib.decDigits M).length = L := ⟨_, rfl⟩
  have HLEN := Lib.hid hlen
  have HL := Lib.hid hL
  rw [hL] at hlen hbig
  have hd : decide ((L : Int) ≤ 8192) = false := decide_eq_false (by omega)
  clear hL hlen
  go_enter Tryz.func8, Tryz.ntmps8
  go_wp2_with (first
    | (go_at_call 34; first
      | ((with_reducible refine HT.out.mono ?_); rintro e w1 ⟨S1, rfl, hS1, b1⟩; have hz1 : S1.size = L := (by rw [Lib.size_eq, hS1]; exact HL.out); have HS1 := Lib.hid hS1; clear hS1))
    | (go_at_call 37; first
      | ((with_reducible refine (parse_long S1 (by rw [Lib.size_eq, HS1.out]; exact HLEN.out) (by have := hz1; omega) w1).mono ?_); rintro e w2 ⟨rfl, b2⟩)
      | ((with_reducible refine (HE.out w3).mono ?_); rintro e w6 ⟨rfl, b6⟩))
    | (go_at_call 13; (with_reducible refine (awake_calls w2 ((HP.out.below b1).below b2)).mono ?_); rintro e w3 ⟨rfl, b3⟩))
  go_ret
  exact ⟨rfl, on (on (on b1 b2) b3) b6⟩
theorem dec_short' {M n K : Nat} (h : M < U ^ n) (hn : 20 * n ≤ K) (hK : 0 < K) : (Lib.decDigits M).length ≤ K := by
  refine (pad_dd K M ?_ hK).1
  have h1 : U ^ n ≤ (10 ^ 20) ^ n := Nat.pow_le_pow_left (by decide) n
  have h2 : (10 ^ 20) ^ n ≤ 10 ^ K := by rw [← Nat.pow_mul]; exact Nat.pow_le_pow_right (by omega) hn
  exact Nat.lt_of_lt_of_le h (Nat.le_trans h1 h2)
theorem dec_short {M n : Nat} (h : M < U ^ n) (hn : n ≤ 1048576) : (Lib.decDigits M).length ≤ 20971521 := dec_short' h (by omega) (by omega)
theorem wholeBack_calls (A : Option Addr) (n c : Nat) (l : List Nat) (s : ByteArray) (w : World) (h : SI w .u64 A n c l) (hl : Lt U l) (hn : n ≤ 1048576) (hs : s.size ≤ 140737488351232) (hp : Pow w) :
    Calls Tryz.prog 8 #[.slice A n c, .string s] w fun e w' => e = .returned (.bool true) ∧ Below w.heap.size w w' := by
  have hv := val_lt U_pos hl
  rw [h.len] at hv
  have hbig : (Lib.decDigits (val U l)).length ≤ 9223372036854775807 := Nat.le_trans (dec_short hv hn) (by omega)
  rcases Nat.lt_or_ge 8192 (Lib.decDigits (val U l)).length with hlen | hlen
  · rcases parse_two s (by omega) with hok | he | he
    · exact back_lok A n c l s w h hl hn hp hbig hlen hok
    · exact back_le A n c l s w h hl hn hp hbig hlen 20 rfl he
    · exact back_le A n c l s w h hl hn hp hbig hlen 21 rfl he
  · rcases parse_two s (by omega) with hok | he | he
    · exact back_sok A n c l s w h hl hn hp hbig hlen hok
    · exact back_se A n c l s w h hl hn hp hbig hlen 20 rfl he
    · exact back_se A n c l s w h hl hn hp hbig hlen 21 rfl he
end Go.Proofs.YtkaajgcjdgjcbaaGreatDoor.Aw

/- Layer 2's laws: WholeRows. -/
namespace Go.Proofs.YtkaajgcjdgjcbaaGreatDoor.Aw
open Go.RowKit Go.Proofs.YtkaajgcjdgjcbaaGreatDoor.Dig Go.Proofs.YtkaajgcjdgjcbaaGreatDoor.W Go.Proofs.YtkaajgcjdgjcbaaGreatDoor.Nat Go.Proofs.YtkaajgcjdgjcbaaGreatDoor.Wh Go.Proofs.YtkaajgcjdgjcbaaGreatDoor.Td Go.Proofs.YtkaajgcjdgjcbaaGreatDoor.Bu Go.Proofs.YtkaajgcjdgjcbaaGreatDoor.Tx

theorem pow_any (k : Nat) (w : World) : Calls Tryz.prog 29 #[.int .i64 (k : Nat)] w fun e w' => ∃ v z, e = .returned (.tuple #[v, .int .i64 z]) ∧ Below w.heap.size w w' := by
  by_cases h : k ≤ 8192
  · refine (Wh.pow10_calls k w h).mono ?_
    rintro e w' ⟨A, n, c, rfl, _, b⟩
    exact ⟨_, _, rfl, b⟩
  · refine (pow10_err k w (by omega)).mono ?_
    rintro e w' ⟨rfl, rfl⟩
    exact ⟨_, _, rfl, Below.refl _ _⟩
theorem parse_any_v (s : ByteArray) (hs : s.size ≤ 9223372036854775807) (w : World) : Calls Tryz.prog 37 #[.string s] w fun e w' => ∃ v z, e = .returned (.tuple #[v, .int .i64 z]) ∧ Below w.heap.size w w' := by
  rcases parse_two s hs with h | h | h
  · refine (parse_good s h.1 h.2 w).mono ?_
    rintro e w' ⟨A, n, c, rfl, _, b⟩
    exact ⟨_, _, rfl, b⟩
  · refine (h w).mono ?_
    rintro e w' ⟨rfl, b⟩
    exact ⟨_, _, rfl, b⟩
  · refine (h w).mono ?_
    rintro e w' ⟨rfl, b⟩
    exact ⟨_, _, rfl, b⟩
theorem join_list (S s : ByteArray) : (S ++ s).data.toList = S.data.toList ++ s.data.toList := by simp
theorem join_size (S s : ByteArray) : (S ++ s).size = S.size + s.size := by
  rw [Lib.size_eq, join_list, List.length_append, ← Lib.size_eq, ← Lib.size_eq]
/-- digits behind digits -/
theorem join_numeral {M : Nat} {l : List UInt8} (h0 : M ≠ 0) (hl : ∀ b ∈ l, isDig b) : Numeral (Lib.decDigits M ++ l) := by
  obtain ⟨c, r, e, hc⟩ := dec_head M h0
  refine ⟨fun b hb => ?_, c, r ++ l, by rw [e]; rfl, .inl (by simpa using hc)⟩
  rw [List.mem_append] at hb
  rcases hb with hb | hb
  · exact dec_isDig M b hb
  · exact hl b hb
theorem join_zero {l : List UInt8} (hl : l ≠ []) : ¬ Numeral (Lib.decDigits 0 ++ l) := by
  rintro ⟨_, c, r, e, h⟩
  rw [dec_small (by omega : (0 : Nat) < 10)] at e
  injection e with e1 e2
  subst e1
  rcases h with h | h
  · exact h rfl
  · rw [h] at e2
    exact hl e2
theorem join_nv (M : Nat) (l : List UInt8) : nv 0 (Lib.decDigits M ++ l) = M * 10 ^ l.length + nv 0 l := by
  rw [nv_append, nv_dec, nv_acc]
theorem dec_bounds {M : Nat} (h0 : M ≠ 0) : 10 ^ ((Lib.decDigits M).length - 1) ≤ M ∧ M < 10 ^ (Lib.decDigits M).length := by
  induction M using Nat.strongRecOn with
  | _ M ih =>
    by_cases h : M < 10
    · rw [dec_small h]
      simp
      omega
    · obtain ⟨i1, i2⟩ := ih (M / 10) (by omega) (by omega)
      have hp := dec_len_pos (M / 10)
      rw [dec_big h, List.length_append, List.length_singleton]
      generalize (Lib.decDigits (M / 10)).length = L at *
      obtain ⟨k, rfl⟩ : ∃ k, L = k + 1 := ⟨L - 1, by omega⟩
      rw [Nat.add_sub_cancel] at i1
      rw [Nat.add_sub_cancel]
      refine ⟨?_, ?_⟩
      · rw [Nat.pow_succ]; omega
      · rw [Nat.pow_succ]; omega
theorem ten_lit (w : World) (m : Nat) (hm : w.heap.size = m) : SI (w.alloc (.cells #[.int .u64 10] 65)) .u64 (some ⟨m, 0, none⟩) 1 1 (digs U 10) := by
  rw [digs1 (by decide) (by decide)]
  exact lit_at w m hm 10 rfl
theorem nat_cmp_le (A A' : Option Addr) (n c n' c' m m' : Nat) (w : World) (h : SI w .u64 A n c (digs U m)) (l : List Nat) (h' : SI w .u64 A' n' c' l) (hl' : Lt U l) (hv : val U l = m') (hle : m ≤ m') :
    Calls Tryz.prog 40 #[.slice A n c, .slice A' n' c'] w fun e w' => ∃ z : Int, z ≤ 0 ∧ e = .returned (.int .i64 z) ∧ Drawn w w' := by
  have e := Nat.cmp_calls A A' n c n' c' (digs U m) l w h h' (dl m) hl'
  rw [val_digs U_two, hv] at e
  refine e.mono ?_
  rintro e w' ⟨rfl, d⟩
  exact ⟨_, by unfold cmp; split <;> (try split) <;> omega, rfl, d⟩
theorem nat_cmp_lt (A A' : Option Addr) (n c n' c' m m' : Nat) (l : List Nat) (w : World) (h : SI w .u64 A n c l) (hl : Lt U l) (hv : val U l = m) (h' : SI w .u64 A' n' c' (digs U m')) (hlt : m < m') :
    Calls Tryz.prog 40 #[.slice A n c, .slice A' n' c'] w fun e w' => e = .returned (.int .i64 (-1)) ∧ Drawn w w' := by
  have e := Nat.cmp_calls A A' n c n' c' l (digs U m') w h h' hl (dl m')
  rw [val_digs U_two, hv] at e
  refine e.mono ?_
  rintro e w' ⟨rfl, d⟩
  exact ⟨by unfold cmp; rw [if_pos hlt], d⟩
theorem nat_cmp_nil (A : Option Addr) (n c : Nat) (l : List Nat) (w : World) (h : SI w .u64 A n c l) (hl : Lt U l) (hv : val U l = 0) :
    Calls Tryz.prog 40 #[.slice A n c, .slice none 0 0] w fun e w' => e = .returned (.int .i64 0) ∧ Drawn w w' := by
  have e := Nat.cmp_calls A none n c 0 0 l [] w h (SI.nil _ _ _ _ (by omega)) hl (fun x hx => by simp at hx)
  rw [hv, val_nil] at e
  exact e
theorem mul_lim (A A' : Option Addr) (n c n' c' k M : Nat) (l : List Nat) (w : World) (h : SI w .u64 A n c l) (hl : Lt U l) (hv : val U l = M) (hn : n ≤ 1048576) (h' : SI w .u64 A' n' c' (digs U (10 ^ k))) (hk : k ≤ 8192) :
    Calls Tryz.prog 42 #[.slice A n c, .slice A' n' c'] w (GivesOwn w 65 .u64 (digs U (M * 10 ^ k))) := by
  have h2 : n' ≤ 8192 := by rw [← h'.len]; exact pow_short (a := 10) (Nat.le_refl _) hk (Nat.le_refl _)
  have e := Nat.mul_calls A A' n c n' c' l (digs U (10 ^ k)) w h h' hl (dl _) (by omega) (by omega)
  rw [val_digs U_two, hv] at e
  exact e
theorem mul_ten (A A' : Option Addr) (n c n' c' j : Nat) (w : World) (h : SI w .u64 A n c (digs U (10 ^ j))) (hj : j ≤ 8192) (h' : SI w .u64 A' n' c' (digs U 10)) :
    Calls Tryz.prog 42 #[.slice A n c, .slice A' n' c'] w (GivesOwn w 65 .u64 (digs U (10 ^ (j + 1)))) := by
  have h1 : n ≤ 8192 := by rw [← h.len]; exact pow_short (a := 10) (Nat.le_refl _) hj (Nat.le_refl _)
  have h2 : n' ≤ 1 := by rw [← h'.len, digs1 (by decide) (by decide)]; decide
  rw [Nat.pow_succ]
  exact mul_d A A' n c n' c' _ _ w h h' (by omega) (by omega)
theorem dec_is_zero {M : Nat} (h : M = 0) : (Lib.decDigits M == [48]) = true := by
  subst h
  rw [dec_small (by omega)]
  rfl
theorem dec_not_zero {M : Nat} (h : M ≠ 0) : (Lib.decDigits M == [48]) = false := by
  rw [beq_eq_false_iff_ne]
  intro e
  have := nv_dec M
  rw [e] at this
  exact h this.symm
theorem parse_good_join {M : Nat} {s : ByteArray} (hM : M ≠ 0) (hd : ∀ b ∈ s.data.toList, isDig b) (hsum : (Lib.decDigits M).length + s.size ≤ 8192) :
    ∀ (S : ByteArray), S.data.toList = Lib.decDigits M → ∀ w : World, Calls Tryz.prog 37 #[.string (S ++ s)] w (Gives1 w (digs U (M * 10 ^ s.size + nv 0 s.data.toList))) := fun S hS w => by
  have e := parse_good (S ++ s) (by rw [join_size, Lib.size_eq S, hS]; exact hsum) (by rw [join_list, hS]; exact join_numeral hM hd) w
  rw [join_list, hS, join_nv, ← Lib.size_eq] at e
  exact e
theorem join_err_zero {M : Nat} {S s : ByteArray} (hM : M = 0) (hS : S.data.toList = Lib.decDigits M) (hok : s.size ≤ 8192 ∧ Numeral s.data.toList) (hs : s.size ≤ 140737488351232) (w : World) :
    Calls Tryz.prog 37 #[.string (S ++ s)] w fun e w' => ∃ z : Int, ((z == 0) = false ∧ ¬ z = 0) ∧ e = .returned (.tuple #[.slice none 0 0, .int .i64 z]) ∧ Below w.heap.size w w' := by
  subst hM
  have hne : s.data.toList ≠ [] := by
    obtain ⟨_, c, r, e, _⟩ := hok.2
    rw [e]; exact List.cons_ne_nil _ _
  have hnn : ¬ Numeral (S ++ s).data.toList := by rw [join_list, hS]; exact join_zero hne
  have hsz : S.size = 1 := by rw [Lib.size_eq, hS, dec_small (by omega)]; rfl
  rcases parse_two (S ++ s) (by rw [join_size]; omega) with h | h | h
  · exact absurd h.2 hnn
  · refine (h w).mono ?_
    rintro e w' ⟨rfl, b⟩
    exact ⟨20, ⟨rfl, by omega⟩, rfl, b⟩
  · refine (h w).mono ?_
    rintro e w' ⟨rfl, b⟩
    exact ⟨21, ⟨rfl, by omega⟩, rfl, b⟩
theorem rows_lim {w : World} {A : Option Addr} {n c : Nat} {l : List Nat} {s : ByteArray} (h : SI w .u64 A n c l) (hl : Lt U l) (hn : n ≤ 1048576) (hok : s.size ≤ 8192 ∧ Numeral s.data.toList) :
    (digs U (val U l * 10 ^ s.size)).length ≤ 2097152 ∧ (digs U (nv 0 s.data.toList)).length ≤ 2097152 := by
  have h1 : (digs U (10 ^ s.size)).length ≤ 8192 := pow_short (a := 10) (Nat.le_refl _) hok.1 (Nat.le_refl _)
  have h2 := len_mul (M := 1048576) hl (dl (10 ^ s.size)) h.len rfl hn (by omega)
  rw [val_digs U_two] at h2
  have h3 := nv_lt_len hok.2 (by rw [← Lib.size_eq]; exact hok.1)
  exact ⟨h2, by omega⟩
set_option maxHeartbeats 4000000 in
set_option maxRecDepth 100000 in
theorem rows_a (A : Option Addr) (n c : Nat) (l : List Nat) (s : ByteArray) (w : World) (h : SI w .u64 A n c l) (hl : Lt U l) (hn : n ≤ 1048576) (hs : s.size ≤ 140737488351232) (hp : Pow w) (hbig : (Lib.decDigits (val U l)).length ≤ 20971521) (hok : s.size ≤ 8192 ∧ Numeral s.data.toList) (hM : val U l ≠ 0) (hsum : (Lib.decDigits (val U l)).length + s.size ≤ 8192) :
    Calls Tryz.prog 10 #[.slice A n c, .string s] w fun e w' => e = .returned (.bool true) ∧ Below w.heap.size w w' := by
  have HP := Lib.hid hp
  have HT := Lib.hid (text_str A n c l w h hl (by omega) hp)
  have HA := Lib.hid (fun (w1 : World) (b : Below w.heap.size w w1) => h.below b)
  have HLT := Lib.hid hl
  have hpos := dec_len_pos (val U l)
  have hbo := dec_bounds hM
  obtain ⟨L, hL⟩ : ∃ L, (Lib.decDigits (val U l)).length = L := ⟨_, rfl⟩
  have HL := Lib.hid hL
  rw [hL] at hbig hpos hbo hsum
  obtain ⟨J, hJ⟩ : ∃ J, L = J + 1 := ⟨L - 1, by omega⟩
  rw [hJ, Nat.add_sub_cancel] at hbo
  have HB1 := Lib.hid hbo.1
  have HB2 := Lib.hid hbo.2
  have hj : J ≤ 8192 := by omega
  have HJ := Lib.hid hj
  have HQ := Lib.hid (fun (w1 : World) => Wh.pow10_calls J w1 hj)
  have hjl : (L : Int) - 1 = (J : Int) := by omega
  have hdb : decide ((8193 : Int) < (L : Int)) = false := decide_eq_false (by omega)
  clear hJ
  have HM0 := Lib.hid hM
  have HSL := Lib.hid (parse_good_join (s := s) hM hok.2.1 (by rw [hL]; exact hsum))
  have hlen3 : s.data.toList.length = s.size := (Lib.size_eq s).symm
  have HMU := Lib.hid (fun (A' : Option Addr) (n' c' : Nat) (w1 : World) (b : Below w.heap.size w w1) (h' : SI w1 .u64 A' n' c' (digs U (10 ^ s.size))) => mul_lim A A' n c n' c' s.size (val U l) l w1 (h.below b) hl rfl hn h' hok.1)
  have HLE := Lib.hid (rows_lim (s := s) h hl hn hok)
  clear hp h hl hL hM hbo
  go_enter Tryz.func10, Tryz.ntmps10
  go_wp2_with (first
    | (go_at_call 34; (with_reducible refine HT.out.mono ?_); rintro e w1 ⟨S1, rfl, hS1, b1⟩; have hz1 : S1.size = L := (by rw [Lib.size_eq, hS1]; exact HL.out); have heq : (S1.toList == [48]) = false := (by rw [Lib.toList_data, hS1]; exact dec_not_zero HM0.out); have HS1 := Lib.hid hS1; clear hS1)
    | (go_at_call 13; (with_reducible refine (awake_calls w1 (HP.out.below b1)).mono ?_); rintro e w2 ⟨rfl, b2⟩)
    | (go_at_call 37; first
      | ((with_reducible refine (parse_good s hok.1 hok.2 w2).mono ?_); rintro e w3 ⟨A3, n3, c3, rfl, r3, b3⟩)
      | ((with_reducible refine (HSL.out S1 HS1.out w4).mono ?_); rintro e w5 ⟨A5, n5, c5, rfl, r5, b5⟩))
    | (go_at_call 29; (with_reducible refine (Wh.pow10_calls s.size w3 hok.1).mono ?_); rintro e w4 ⟨A4, n4, c4, rfl, r4, b4⟩)
    | (go_at_call 42; (with_reducible refine (HMU.out A4 n4 c4 w5 (on (on (on (on b1 b2) b3) b4) b5) (r4.below b5)).mono ?_); rintro e w6 ⟨v6, rfl, o6, b6⟩; obtain ⟨A6, n6, c6, rfl, r6⟩ := o6.reads_n)
    | (go_at_call 41; (with_reducible refine (add_d A6 A3 n6 c6 n3 c3 _ _ 2097152 w6 r6 (((r3.below b4).below b5).below b6) (by omega) HLE.out.1 HLE.out.2).mono ?_); rintro e w7 ⟨v7, rfl, o7, b7⟩; obtain ⟨A7, n7, c7, rfl, r7⟩ := o7.reads_n)
    | (go_at_call 31; (with_reducible refine (Rf.same_calls A5 A7 n5 c5 n7 c7 _ w7 ((r5.below b6).below b7) r7).mono ?_); rintro e w8 ⟨rfl, d8⟩)
    | (go_at_call 29; (with_reducible refine (HQ.out w8).mono ?_); rintro e w9 ⟨A9, n9, c9, rfl, r9, b9⟩)
    | (go_at_call 42; (with_reducible refine (mul_ten A9 _ n9 c9 _ _ J _ (r9.alloc _) HJ.out (ten_lit _ _ rfl)).mono ?_); rintro e wa ⟨va, rfl, oa, ba⟩; obtain ⟨Aa, na, ca, rfl, ra⟩ := oa.reads_n; have bw9 := on (on (on (on (on (on (on (on b1 b2) b3) b4) b5) b6) b7) d8.below) b9; have bwa := bw9.trans (((alloc_below w9 _).trans (ba.mono (alloc_below w9 _).size)).mono bw9.size); have ra9 := r9.below ((alloc_below w9 _).trans (ba.mono (alloc_below w9 _).size)))
    | (go_at_call 40; first
      | ((with_reducible refine (nat_cmp_le A9 A n9 c9 n c _ _ wa ra9 l (HA.out _ bwa) HLT.out rfl HB1.out).mono ?_); rintro e wb ⟨z1, hz1, rfl, db⟩)
      | ((with_reducible refine (nat_cmp_lt A Aa n c na ca _ _ l wb (HA.out _ (on bwa db.below)) HLT.out rfl (ra.below db.below) HB2.out).mono ?_); rintro e wc ⟨rfl, dc⟩)))
  go_ret
  exact ⟨rfl, on (on bwa db.below) dc.below⟩
set_option maxHeartbeats 4000000 in
set_option maxRecDepth 100000 in
theorem rows_b (A : Option Addr) (n c : Nat) (l : List Nat) (s : ByteArray) (w : World) (h : SI w .u64 A n c l) (hl : Lt U l) (hn : n ≤ 1048576) (hs : s.size ≤ 140737488351232) (hp : Pow w) (hbig : (Lib.decDigits (val U l)).length ≤ 20971521) (hok : s.size ≤ 8192 ∧ Numeral s.data.toList) (hM : val U l = 0) :
    Calls Tryz.prog 10 #[.slice A n c, .string s] w fun e w' => e = .returned (.bool true) ∧ Below w.heap.size w w' := by
  have HP := Lib.hid hp
  have HT := Lib.hid (text_str A n c l w h hl (by omega) hp)
  have HA := Lib.hid (fun (w1 : World) (b : Below w.heap.size w w1) => h.below b)
  have HLT := Lib.hid hl
  have hpos := dec_len_pos (val U l)
  obtain ⟨L, hL⟩ : ∃ L, (Lib.decDigits (val U l)).length = L := ⟨_, rfl⟩
  have HL := Lib.hid hL
  rw [hL] at hbig hpos
  have HM0 := Lib.hid hM
  have HGE := Lib.hid (fun (S : ByteArray) (hS : S.data.toList = Lib.decDigits (val U l)) (w1 : World) => join_err_zero (S := S) (s := s) hM hS hok (by omega) w1)
  clear hp h hl hL hM
  go_enter Tryz.func10, Tryz.ntmps10
  go_wp2_with (first
    | (go_at_call 34; (with_reducible refine HT.out.mono ?_); rintro e w1 ⟨S1, rfl, hS1, b1⟩; have hz1 : S1.size = L := (by rw [Lib.size_eq, hS1]; exact HL.out); have heq : (S1.toList == [48]) = true := (by rw [Lib.toList_data, hS1]; exact dec_is_zero HM0.out); have HS1 := Lib.hid hS1; clear hS1)
    | (go_at_call 13; (with_reducible refine (awake_calls w1 (HP.out.below b1)).mono ?_); rintro e w2 ⟨rfl, b2⟩)
    | (go_at_call 37; first
      | ((with_reducible refine (parse_good s hok.1 hok.2 w2).mono ?_); rintro e w3 ⟨A3, n3, c3, rfl, r3, b3⟩)
      | ((with_reducible refine (HGE.out S1 HS1.out w4).mono ?_); rintro e w5 ⟨z5, ⟨hz5, hz5n⟩, rfl, b5⟩))
    | (go_at_call 29; (with_reducible refine (Wh.pow10_calls s.size w3 hok.1).mono ?_); rintro e w4 ⟨A4, n4, c4, rfl, r4, b4⟩)
    | (go_at_call 40; (with_reducible refine (nat_cmp_nil A n c l w5 (HA.out _ (on (on (on (on b1 b2) b3) b4) b5)) HLT.out HM0.out).mono ?_); rintro e w9 ⟨rfl, d9⟩))
  go_ret
  exact ⟨rfl, on (on (on (on (on b1 b2) b3) b4) b5) d9.below⟩
set_option maxHeartbeats 4000000 in
set_option maxRecDepth 100000 in
theorem rows_c (A : Option Addr) (n c : Nat) (l : List Nat) (s : ByteArray) (w : World) (h : SI w .u64 A n c l) (hl : Lt U l) (hn : n ≤ 1048576) (hs : s.size ≤ 140737488351232) (hp : Pow w) (hbig : (Lib.decDigits (val U l)).length ≤ 20971521) (hok : s.size ≤ 8192 ∧ Numeral s.data.toList) (hM : val U l ≠ 0) (hsum : 8192 < (Lib.decDigits (val U l)).length + s.size) (hL2 : 8193 < (Lib.decDigits (val U l)).length) :
    Calls Tryz.prog 10 #[.slice A n c, .string s] w fun e w' => e = .returned (.bool true) ∧ Below w.heap.size w w' := by
  have HP := Lib.hid hp
  have HT := Lib.hid (text_str A n c l w h hl (by omega) hp)
  have HA := Lib.hid (fun (w1 : World) (b : Below w.heap.size w w1) => h.below b)
  have HLT := Lib.hid hl
  have hpos := dec_len_pos (val U l)
  have hbo := dec_bounds hM
  obtain ⟨L, hL⟩ : ∃ L, (Lib.decDigits (val U l)).length = L := ⟨_, rfl⟩
  have HL := Lib.hid hL
  rw [hL] at hbig hpos hbo hsum hL2
  have hdb : decide ((8193 : Int) < (L : Int)) = true := decide_eq_true (by omega)
  have HM0 := Lib.hid hM
  have HGE := Lib.hid (fun (S : ByteArray) (hS : S.data.toList = Lib.decDigits (val U l)) (hz : S.size = L) (w1 : World) => parse_long (S ++ s) (by rw [join_size]; omega) (by rw [join_size]; omega) w1)
  have hds : decide ((L : Int) + (s.size : Int) ≤ 8192) = false := decide_eq_false (by omega)
  clear hp h hl hL hM hbo
  go_enter Tryz.func10, Tryz.ntmps10
  go_wp2_with (first
    | (go_at_call 34; (with_reducible refine HT.out.mono ?_); rintro e w1 ⟨S1, rfl, hS1, b1⟩; have hz1 : S1.size = L := (by rw [Lib.size_eq, hS1]; exact HL.out); have heq : (S1.toList == [48]) = false := (by rw [Lib.toList_data, hS1]; exact dec_not_zero HM0.out); have HS1 := Lib.hid hS1; clear hS1)
    | (go_at_call 13; (with_reducible refine (awake_calls w1 (HP.out.below b1)).mono ?_); rintro e w2 ⟨rfl, b2⟩)
    | (go_at_call 37; first
      | ((with_reducible refine (parse_good s hok.1 hok.2 w2).mono ?_); rintro e w3 ⟨A3, n3, c3, rfl, r3, b3⟩)
      | ((with_reducible refine (HGE.out S1 HS1.out hz1 w4).mono ?_); rintro e w5 ⟨rfl, b5⟩))
    | (go_at_call 29; (with_reducible refine (Wh.pow10_calls s.size w3 hok.1).mono ?_); rintro e w4 ⟨A4, n4, c4, rfl, r4, b4⟩))
  go_ret
  exact ⟨rfl, on (on (on (on b1 b2) b3) b4) b5⟩
set_option maxHeartbeats 4000000 in
set_option maxRecDepth 100000 in
theorem rows_d (A : Option Addr) (n c : Nat) (l : List Nat) (s : ByteArray) (w : World) (h : SI w .u64 A n c l) (hl : Lt U l) (hn : n ≤ 1048576) (hs : s.size ≤ 140737488351232) (hp : Pow w) (hbig : (Lib.decDigits (val U l)).length ≤ 20971521) (hok : s.size ≤ 8192 ∧ Numeral s.data.toList) (hM : val U l ≠ 0) (hsum : 8192 < (Lib.decDigits (val U l)).length + s.size) (hL2 : (Lib.decDigits (val U l)).length ≤ 8193) :
    Calls Tryz.prog 10 #[.slice A n c, .string s] w fun e w' => e = .returned (.bool true) ∧ Below w.heap.size w w' := by
  have HP := Lib.hid hp
  have HT := Lib.hid (text_str A n c l w h hl (by omega) hp)
  have HA := Lib.hid (fun (w1 : World) (b : Below w.heap.size w w1) => h.below b)
  have HLT := Lib.hid hl
  have hpos := dec_len_pos (val U l)
  have hbo := dec_bounds hM
  obtain ⟨L, hL⟩ : ∃ L, (Lib.decDigits (val U l)).length = L := ⟨_, rfl⟩
  have HL := Lib.hid hL
  rw [hL] at hbig hpos hbo hsum hL2
  obtain ⟨J, hJ⟩ : ∃ J, L = J + 1 := ⟨L - 1, by omega⟩
  rw [hJ, Nat.add_sub_cancel] at hbo
  have HB1 := Lib.hid hbo.1
  have HB2 := Lib.hid hbo.2
  have hj : J ≤ 8192 := by omega
  have HJ := Lib.hid hj
  have HQ := Lib.hid (fun (w1 : World) => Wh.pow10_calls J w1 hj)
  have hjl : (L : Int) - 1 = (J : Int) := by omega
  have hdb : decide ((8193 : Int) < (L : Int)) = false := decide_eq_false (by omega)
  clear hJ
  have HM0 := Lib.hid hM
  have HGE := Lib.hid (fun (S : ByteArray) (hS : S.data.toList = Lib.decDigits (val U l)) (hz : S.size = L) (w1 : World) => parse_long (S ++ s) (by rw [join_size]; omega) (by rw [join_size]; omega) w1)
  have hds : decide ((L : Int) + (s.size : Int) ≤ 8192) = false := decide_eq_false (by omega)
  clear hp h hl hL hM hbo
  go_enter Tryz.func10, Tryz.ntmps10
  go_wp2_with (first
    | (go_at_call 34; (with_reducible refine HT.out.mono ?_); rintro e w1 ⟨S1, rfl, hS1, b1⟩; have hz1 : S1.size = L := (by rw [Lib.size_eq, hS1]; exact HL.out); have heq : (S1.toList == [48]) = false := (by rw [Lib.toList_data, hS1]; exact dec_not_zero HM0.out); have HS1 := Lib.hid hS1; clear hS1)
    | (go_at_call 13; (with_reducible refine (awake_calls w1 (HP.out.below b1)).mono ?_); rintro e w2 ⟨rfl, b2⟩)
    | (go_at_call 37; first
      | ((with_reducible refine (parse_good s hok.1 hok.2 w2).mono ?_); rintro e w3 ⟨A3, n3, c3, rfl, r3, b3⟩)
      | ((with_reducible refine (HGE.out S1 HS1.out hz1 w4).mono ?_); rintro e w5 ⟨rfl, b5⟩))
    | (go_at_call 29; (with_reducible refine (Wh.pow10_calls s.size w3 hok.1).mono ?_); rintro e w4 ⟨A4, n4, c4, rfl, r4, b4⟩)
    | (go_at_call 29; (with_reducible refine (HQ.out w5).mono ?_); rintro e w9 ⟨A9, n9, c9, rfl, r9, b9⟩)
    | (go_at_call 42; (with_reducible refine (mul_ten A9 _ n9 c9 _ _ J _ (r9.alloc _) HJ.out (ten_lit _ _ rfl)).mono ?_); rintro e wa ⟨va, rfl, oa, ba⟩; obtain ⟨Aa, na, ca, rfl, ra⟩ := oa.reads_n; have bw9 := on (on (on (on (on b1 b2) b3) b4) b5) b9; have bwa := bw9.trans (((alloc_below w9 _).trans (ba.mono (alloc_below w9 _).size)).mono bw9.size); have ra9 := r9.below ((alloc_below w9 _).trans (ba.mono (alloc_below w9 _).size)))
    | (go_at_call 40; first
      | ((with_reducible refine (nat_cmp_le A9 A n9 c9 n c _ _ wa ra9 l (HA.out _ bwa) HLT.out rfl HB1.out).mono ?_); rintro e wb ⟨z1, hz1, rfl, db⟩)
      | ((with_reducible refine (nat_cmp_lt A Aa n c na ca _ _ l wb (HA.out _ (on bwa db.below)) HLT.out rfl (ra.below db.below) HB2.out).mono ?_); rintro e wc ⟨rfl, dc⟩)))
  go_ret
  exact ⟨rfl, on (on bwa db.below) dc.below⟩
set_option maxHeartbeats 4000000 in
set_option maxRecDepth 100000 in
theorem rows_e (A : Option Addr) (n c : Nat) (l : List Nat) (s : ByteArray) (w : World) (h : SI w .u64 A n c l) (hl : Lt U l) (hn : n ≤ 1048576) (hs : s.size ≤ 140737488351232) (hp : Pow w) (hbig : (Lib.decDigits (val U l)).length ≤ 20971521) (z : Int) (hz : (z == 0) = false) (HE : Hid (∀ w : World, Calls Tryz.prog 37 #[.string s] w fun e w' => e = .returned (.tuple #[.slice none 0 0, .int .i64 z]) ∧ Below w.heap.size w w')) (hM : val U l = 0) :
    Calls Tryz.prog 10 #[.slice A n c, .string s] w fun e w' => e = .returned (.bool true) ∧ Below w.heap.size w w' := by
  have HP := Lib.hid hp
  have HT := Lib.hid (text_str A n c l w h hl (by omega) hp)
  have HA := Lib.hid (fun (w1 : World) (b : Below w.heap.size w w1) => h.below b)
  have HLT := Lib.hid hl
  have hpos := dec_len_pos (val U l)
  obtain ⟨L, hL⟩ : ∃ L, (Lib.decDigits (val U l)).length = L := ⟨_, rfl⟩
  have HL := Lib.hid hL
  rw [hL] at hbig hpos
  have HM0 := Lib.hid hM
  clear hp h hl hL hM
  go_enter Tryz.func10, Tryz.ntmps10
  go_wp2_with (first
    | (go_at_call 34; (with_reducible refine HT.out.mono ?_); rintro e w1 ⟨S1, rfl, hS1, b1⟩; have hz1 : S1.size = L := (by rw [Lib.size_eq, hS1]; exact HL.out); have heq : (S1.toList == [48]) = true := (by rw [Lib.toList_data, hS1]; exact dec_is_zero HM0.out); have HS1 := Lib.hid hS1; clear hS1)
    | (go_at_call 13; (with_reducible refine (awake_calls w1 (HP.out.below b1)).mono ?_); rintro e w2 ⟨rfl, b2⟩)
    | (go_at_call 37; first
      | ((with_reducible refine (HE.out w2).mono ?_); rintro e w3 ⟨rfl, b3⟩)
      | ((with_reducible refine (parse_any_v (S1 ++ s) (by rw [join_size]; omega) w4).mono ?_); rintro e w5 ⟨v5, z5, rfl, b5⟩))
    | (go_at_call 29; (with_reducible refine (pow_any s.size w3).mono ?_); rintro e w4 ⟨v4, z4, rfl, b4⟩)
    | (go_at_call 40; (with_reducible refine (nat_cmp_nil A n c l w5 (HA.out _ (on (on (on (on b1 b2) b3) b4) b5)) HLT.out HM0.out).mono ?_); rintro e w9 ⟨rfl, d9⟩))
  go_ret
  exact ⟨rfl, on (on (on (on (on b1 b2) b3) b4) b5) d9.below⟩
set_option maxHeartbeats 4000000 in
set_option maxRecDepth 100000 in
theorem rows_f (A : Option Addr) (n c : Nat) (l : List Nat) (s : ByteArray) (w : World) (h : SI w .u64 A n c l) (hl : Lt U l) (hn : n ≤ 1048576) (hs : s.size ≤ 140737488351232) (hp : Pow w) (hbig : (Lib.decDigits (val U l)).length ≤ 20971521) (z : Int) (hz : (z == 0) = false) (HE : Hid (∀ w : World, Calls Tryz.prog 37 #[.string s] w fun e w' => e = .returned (.tuple #[.slice none 0 0, .int .i64 z]) ∧ Below w.heap.size w w')) (hM : val U l ≠ 0) (hL2 : 8193 < (Lib.decDigits (val U l)).length) :
    Calls Tryz.prog 10 #[.slice A n c, .string s] w fun e w' => e = .returned (.bool true) ∧ Below w.heap.size w w' := by
  have HP := Lib.hid hp
  have HT := Lib.hid (text_str A n c l w h hl (by omega) hp)
  have HA := Lib.hid (fun (w1 : World) (b : Below w.heap.size w w1) => h.below b)
  have HLT := Lib.hid hl
  have hpos := dec_len_pos (val U l)
  obtain ⟨L, hL⟩ : ∃ L, (Lib.decDigits (val U l)).length = L := ⟨_, rfl⟩
  have HL := Lib.hid hL
  rw [hL] at hbig hpos hL2
  have hdb : decide ((8193 : Int) < (L : Int)) = true := decide_eq_true (by omega)
  have HM0 := Lib.hid hM
  clear hp h hl hL hM
  go_enter Tryz.func10, Tryz.ntmps10
  go_wp2_with (first
    | (go_at_call 34; (with_reducible refine HT.out.mono ?_); rintro e w1 ⟨S1, rfl, hS1, b1⟩; have hz1 : S1.size = L := (by rw [Lib.size_eq, hS1]; exact HL.out); have heq : (S1.toList == [48]) = false := (by rw [Lib.toList_data, hS1]; exact dec_not_zero HM0.out); have HS1 := Lib.hid hS1; clear hS1)
    | (go_at_call 13; (with_reducible refine (awake_calls w1 (HP.out.below b1)).mono ?_); rintro e w2 ⟨rfl, b2⟩)
    | (go_at_call 37; first
      | ((with_reducible refine (HE.out w2).mono ?_); rintro e w3 ⟨rfl, b3⟩)
      | ((with_reducible refine (parse_any_v (S1 ++ s) (by rw [join_size]; omega) w4).mono ?_); rintro e w5 ⟨v5, z5, rfl, b5⟩))
    | (go_at_call 29; (with_reducible refine (pow_any s.size w3).mono ?_); rintro e w4 ⟨v4, z4, rfl, b4⟩))
  go_ret
  exact ⟨rfl, on (on (on (on b1 b2) b3) b4) b5⟩
set_option maxHeartbeats 4000000 in
set_option maxRecDepth 100000 in
theorem rows_g (A : Option Addr) (n c : Nat) (l : List Nat) (s : ByteArray) (w : World) (h : SI w .u64 A n c l) (hl : Lt U l) (hn : n ≤ 1048576) (hs : s.size ≤ 140737488351232) (hp : Pow w) (hbig : (Lib.decDigits (val U l)).length ≤ 20971521) (z : Int) (hz : (z == 0) = false) (HE : Hid (∀ w : World, Calls Tryz.prog 37 #[.string s] w fun e w' => e = .returned (.tuple #[.slice none 0 0, .int .i64 z]) ∧ Below w.heap.size w w')) (hM : val U l ≠ 0) (hL2 : (Lib.decDigits (val U l)).length ≤ 8193) :
    Calls Tryz.prog 10 #[.slice A n c, .string s] w fun e w' => e = .returned (.bool true) ∧ Below w.heap.size w w' := by
  have HP := Lib.hid hp
  have HT := Lib.hid (text_str A n c l w h hl (by omega) hp)
  have HA := Lib.hid (fun (w1 : World) (b : Below w.heap.size w w1) => h.below b)
  have HLT := Lib.hid hl
  have hpos := dec_len_pos (val U l)
  have hbo := dec_bounds hM
  obtain ⟨L, hL⟩ : ∃ L, (Lib.decDigits (val U l)).length = L := ⟨_, rfl⟩
  have HL := Lib.hid hL
  rw [hL] at hbig hpos hbo hL2
  obtain ⟨J, hJ⟩ : ∃ J, L = J + 1 := ⟨L - 1, by omega⟩
  rw [hJ, Nat.add_sub_cancel] at hbo
  have HB1 := Lib.hid hbo.1
  have HB2 := Lib.hid hbo.2
  have hj : J ≤ 8192 := by omega
  have HJ := Lib.hid hj
  have HQ := Lib.hid (fun (w1 : World) => Wh.pow10_calls J w1 hj)
  have hjl : (L : Int) - 1 = (J : Int) := by omega
  have hdb : decide ((8193 : Int) < (L : Int)) = false := decide_eq_false (by omega)
  clear hJ
  have HM0 := Lib.hid hM
  clear hp h hl hL hM hbo
  go_enter Tryz.func10, Tryz.ntmps10
  go_wp2_with (first
    | (go_at_call 34; (with_reducible refine HT.out.mono ?_); rintro e w1 ⟨S1, rfl, hS1, b1⟩; have hz1 : S1.size = L := (by rw [Lib.size_eq, hS1]; exact HL.out); have heq : (S1.toList == [48]) = false := (by rw [Lib.toList_data, hS1]; exact dec_not_zero HM0.out); have HS1 := Lib.hid hS1; clear hS1)
    | (go_at_call 13; (with_reducible refine (awake_calls w1 (HP.out.below b1)).mono ?_); rintro e w2 ⟨rfl, b2⟩)
    | (go_at_call 37; first
      | ((with_reducible refine (HE.out w2).mono ?_); rintro e w3 ⟨rfl, b3⟩)
      | ((with_reducible refine (parse_any_v (S1 ++ s) (by rw [join_size]; omega) w4).mono ?_); rintro e w5 ⟨v5, z5, rfl, b5⟩))
    | (go_at_call 29; (with_reducible refine (pow_any s.size w3).mono ?_); rintro e w4 ⟨v4, z4, rfl, b4⟩)
    | (go_at_call 29; (with_reducible refine (HQ.out w5).mono ?_); rintro e w9 ⟨A9, n9, c9, rfl, r9, b9⟩)
    | (go_at_call 42; (with_reducible refine (mul_ten A9 _ n9 c9 _ _ J _ (r9.alloc _) HJ.out (ten_lit _ _ rfl)).mono ?_); rintro e wa ⟨va, rfl, oa, ba⟩; obtain ⟨Aa, na, ca, rfl, ra⟩ := oa.reads_n; have bw9 := on (on (on (on (on b1 b2) b3) b4) b5) b9; have bwa := bw9.trans (((alloc_below w9 _).trans (ba.mono (alloc_below w9 _).size)).mono bw9.size); have ra9 := r9.below ((alloc_below w9 _).trans (ba.mono (alloc_below w9 _).size)))
    | (go_at_call 40; first
      | ((with_reducible refine (nat_cmp_le A9 A n9 c9 n c _ _ wa ra9 l (HA.out _ bwa) HLT.out rfl HB1.out).mono ?_); rintro e wb ⟨z1, hz1, rfl, db⟩)
      | ((with_reducible refine (nat_cmp_lt A Aa n c na ca _ _ l wb (HA.out _ (on bwa db.below)) HLT.out rfl (ra.below db.below) HB2.out).mono ?_); rintro e wc ⟨rfl, dc⟩)))
  go_ret
  exact ⟨rfl, on (on bwa db.below) dc.below⟩
theorem wholeRows_calls (A : Option Addr) (n c : Nat) (l : List Nat) (s : ByteArray) (w : World) (h : SI w .u64 A n c l) (hl : Lt U l) (hn : n ≤ 1048576) (hs : s.size ≤ 140737488351232) (hp : Pow w) :
    Calls Tryz.prog 10 #[.slice A n c, .string s] w fun e w' => e = .returned (.bool true) ∧ Below w.heap.size w w' := by
  have hv := val_lt U_pos hl
  rw [h.len] at hv
  have hbig := dec_short hv hn
  have herr : ∀ z : Int, (z == 0) = false → (∀ w : World, Calls Tryz.prog 37 #[.string s] w fun e w' => e = .returned (.tuple #[.slice none 0 0, .int .i64 z]) ∧ Below w.heap.size w w') →
      Calls Tryz.prog 10 #[.slice A n c, .string s] w fun e w' => e = .returned (.bool true) ∧ Below w.heap.size w w' := fun z hz he => by
    by_cases hM : val U l = 0
    · exact rows_e A n c l s w h hl hn hs hp hbig z hz he hM
    · rcases Nat.lt_or_ge 8193 (Lib.decDigits (val U l)).length with hL | hL
      · exact rows_f A n c l s w h hl hn hs hp hbig z hz he hM hL
      · exact rows_g A n c l s w h hl hn hs hp hbig z hz he hM hL
  rcases parse_two s (by omega) with hok | he | he
  · by_cases hM : val U l = 0
    · exact rows_b A n c l s w h hl hn hs hp hbig hok hM
    · rcases Nat.lt_or_ge 8192 ((Lib.decDigits (val U l)).length + s.size) with hsum | hsum
      · rcases Nat.lt_or_ge 8193 (Lib.decDigits (val U l)).length with hL | hL
        · exact rows_c A n c l s w h hl hn hs hp hbig hok hM hsum hL
        · exact rows_d A n c l s w h hl hn hs hp hbig hok hM hsum hL
      · exact rows_a A n c l s w h hl hn hs hp hbig hok hM hsum
  · exact herr 20 rfl he
  · exact herr 21 rfl he
end Go.Proofs.YtkaajgcjdgjcbaaGreatDoor.Aw
