/- Texts of one layer, joined: La, Lc. -/
import Derived.Test.YtkaajgcjdgjcbaaGreatDoorGF
set_option linter.unusedVariables false
set_option linter.unusedSimpArgs false
set_option linter.unusedSectionVars false
/- Layer 2's laws: WholePowers. -/
namespace Go.Proofs.YtkaajgcjdgjcbaaGreatDoor.Aw
open Go.RowKit Go.Proofs.YtkaajgcjdgjcbaaGreatDoor.Dig Go.Proofs.YtkaajgcjdgjcbaaGreatDoor.W Go.Proofs.YtkaajgcjdgjcbaaGreatDoor.Nat Go.Proofs.YtkaajgcjdgjcbaaGreatDoor.Wh Go.Proofs.YtkaajgcjdgjcbaaGreatDoor.Td Go.Proofs.YtkaajgcjdgjcbaaGreatDoor.Bu Go.Proofs.YtkaajgcjdgjcbaaGreatDoor.Tx
open Go.Proofs.YtkaajgcjdgjcbaaGreatDoor.Rf (V V_two V_pos)

theorem on {w W W' : World} (h : Below w.heap.size w W) (b : Below W.heap.size W W') : Below w.heap.size w W' := h.trans (b.mono h.size)
theorem rpow5 (n : Nat) (w : World) (hn : n ≤ 8192) : Calls Tryz.prog 30 #[.int .i64 5, .int .i64 (n : Nat)] w (Gives w .u32 (digs V (5 ^ n))) := rpow_calls 5 n w (by omega) (by omega) (by omega)
theorem rshl_d (A : Option Addr) (n c m k : Nat) (w : World) (h : SI w .u32 A n c (digs V m)) (hn : n ≤ 4398046511104) (hk : k ≤ 65536) :
    Calls Tryz.prog 33 #[.slice A n c, .int .i64 (k : Nat)] w (Rf.GivesF w .u32 (digs V (m * 2 ^ k))) := by
  have e := Rf.shl_calls A n c (digs V m) k w h (digs_lt V_two m) hn hk
  rw [val_digs V_two] at e
  exact e
theorem rpow_len' {a n x M : Nat} (ha : a ≤ 10) (hx : x ≤ a ^ n) (hn : n ≤ M) (hM : M ≠ 0) : (digs V x).length ≤ M := by
  refine (digs_length_le V_two _ _).2 (Nat.lt_of_le_of_lt hx ?_)
  have h1 : a ^ n ≤ 10 ^ n := Nat.pow_le_pow_left ha n
  have h2 : 10 ^ n ≤ 10 ^ M := Nat.pow_le_pow_right (by omega) hn
  have h3 : 10 ^ M < V ^ M := Nat.pow_lt_pow_left (by decide) hM
  exact Nat.lt_of_le_of_lt (Nat.le_trans h1 h2) h3
theorem rpow_len {a n x : Nat} (ha : a ≤ 10) (hx : x ≤ a ^ n) (hn : n ≤ 8192) : (digs V x).length ≤ 8192 := rpow_len' ha hx hn (by decide)
theorem five_ten (k : Nat) : 5 ^ k * 2 ^ k = 10 ^ k := by rw [← Nat.mul_pow]
set_option maxHeartbeats 4000000 in
set_option maxRecDepth 100000 in
theorem wholePowers_calls (z : Int) (w : World) (hp : Pow w) :
    Calls Tryz.prog 5 #[.int .i64 z] w fun e w' => e = .returned (.bool true) ∧ Below w.heap.size w w' := by
  have HP := Lib.hid hp
  clear hp
  by_cases hin : 0 ≤ z ∧ z ≤ 8192
  · obtain ⟨k, rfl⟩ : ∃ k : Nat, z = k := ⟨z.toNat, by omega⟩
    have hk : k ≤ 8192 := by omega
    clear hin
    have hL1 := rpow_len (a := 5) (by omega) (Nat.le_refl _) hk
    have hL2 := rpow_len (a := 10) (by omega) (Nat.le_refl _) hk
    have HL1 := Lib.hid hL1
    have HL2 := Lib.hid hL2
    have h5 := five_ten k
    have H5 := Lib.hid h5
    have HA := Lib.hid (fun w1 => pow5_calls k w1 hk)
    have HB := Lib.hid (fun w1 => Wh.pow10_calls k w1 hk)
    have HC := Lib.hid (fun w1 => rpow5 k w1 hk)
    have HD := Lib.hid (fun (A : Option Addr) (n c : Nat) (w1 : World) (h : SI w1 .u32 A n c (digs V (5 ^ k))) => rshl_d A n c (5 ^ k) k w1 h (by rw [← h.len]; omega) (by omega))
    rw [h5] at HD
    clear hL1 hL2 h5
    generalize 5 ^ k = p at *
    generalize 10 ^ k = t at *
    go_enter Tryz.func5, Tryz.ntmps5
    go_wp2_with (first
      | (go_at_call 28; (with_reducible refine (HA.out w).mono ?_); rintro e w1 ⟨A1, n1, c1, rfl, r1, b1⟩)
      | (go_at_call 29; (with_reducible refine (HB.out w1).mono ?_); rintro e w2 ⟨A2, n2, c2, rfl, r2, b2⟩)
      | (go_at_call 13; (with_reducible refine (awake_calls w2 ((HP.out.below b1).below b2)).mono ?_); rintro e w3 ⟨rfl, b3⟩)
      | (go_at_call 30; (with_reducible refine (HC.out w3).mono ?_); rintro e w4 ⟨A4, n4, c4, rfl, r4, b4⟩)
      | (go_at_call 32; first
        | ((with_reducible refine (Rw.out_d A4 n4 c4 p w4 r4 (by rw [← r4.len]; have := HL1.out; omega)).mono ?_); rintro e w5 ⟨v5, rfl, o5, b5⟩; obtain ⟨A5, n5, c5, rfl, r5⟩ := o5.reads_n)
        | ((with_reducible refine (Rw.out_d A7 n7 c7 t w7 r7 (by rw [← r7.len]; have := HL2.out; omega)).mono ?_); rintro e w8 ⟨v8, rfl, o8, b8⟩; obtain ⟨A8, n8, c8, rfl, r8⟩ := o8.reads_n))
      | (go_at_call 31; first
        | ((with_reducible refine (Rf.same_calls A1 A5 n1 c1 n5 c5 _ w5 ((((r1.below b2).below b3).below b4).below b5) r5).mono ?_); rintro e w6 ⟨rfl, d6⟩)
        | ((with_reducible refine (Rf.same_calls A2 A8 n2 c2 n8 c8 _ w8 ((((((r2.below b3).below b4).below b5).below d6.below).below b7).below b8) r8).mono ?_); rintro e w9 ⟨rfl, d9⟩))
      | (go_at_call 33; (with_reducible refine (HD.out A4 n4 c4 w6 ((r4.below b5).below d6.below)).mono ?_); rintro e w7 ⟨A7, n7, c7, rfl, r7, f7, b7⟩))
    go_ret
    exact ⟨rfl, on (on (on (on (on (on (on (on b1 b2) b3) b4) b5) d6.below) b7) b8) d9.below⟩
  · have hin' : z < 0 ∨ 8192 < z := by omega
    have HA := Lib.hid (fun w1 => pow5_err z w1 hin')
    have HB := Lib.hid (fun w1 => pow10_err z w1 hin')
    rcases Int.lt_or_le z 0 with h0 | h0
    · have hd1 : decide (z < 0) = true := decide_eq_true h0
      clear hin hin' h0
      go_enter Tryz.func5, Tryz.ntmps5
      go_wp2_with (first
        | (go_at_call 28; (with_reducible refine (HA.out w).mono ?_); rintro e w1 ⟨rfl, rfl⟩)
        | (go_at_call 29; (with_reducible refine (HB.out w).mono ?_); rintro e w2 ⟨rfl, rfl⟩)
        | (go_at_call 13; (with_reducible refine (awake_calls w HP.out).mono ?_); rintro e w3 ⟨rfl, b3⟩))
      go_ret
      exact ⟨rfl, b3⟩
    · have hd1 : decide (z < 0) = false := decide_eq_false (by omega)
      have hd2 : decide (8192 < z) = true := decide_eq_true (by omega)
      clear hin hin' h0
      go_enter Tryz.func5, Tryz.ntmps5
      go_wp2_with (first
        | (go_at_call 28; (with_reducible refine (HA.out w).mono ?_); rintro e w1 ⟨rfl, rfl⟩)
        | (go_at_call 29; (with_reducible refine (HB.out w).mono ?_); rintro e w2 ⟨rfl, rfl⟩)
        | (go_at_call 13; (with_reducible refine (awake_calls w HP.out).mono ?_); rintro e w3 ⟨rfl, b3⟩))
      go_ret
      exact ⟨rfl, b3⟩
end Go.Proofs.YtkaajgcjdgjcbaaGreatDoor.Aw

/- Layer 2's laws: WholeBack. -/
namespace Go.Proofs.YtkaajgcjdgjcbaaGreatDoor.Aw
open Go.RowKit Go.Proofs.YtkaajgcjdgjcbaaGreatDoor.Dig Go.Proofs.YtkaajgcjdgjcbaaGreatDoor.W Go.Proofs.YtkaajgcjdgjcbaaGreatDoor.Nat Go.Proofs.YtkaajgcjdgjcbaaGreatDoor.Wh Go.Proofs.YtkaajgcjdgjcbaaGreatDoor.Td Go.Proofs.YtkaajgcjdgjcbaaGreatDoor.Bu Go.Proofs.YtkaajgcjdgjcbaaGreatDoor.Tx

/-- Parse's answer, whatever the text -/
def parseErr (l : List UInt8) : Int := if 8192 < l.length then 21 else 20
theorem parse_any (s : ByteArray) (hs : s.size ≤ 9223372036854775807) (w : World) :
    (s.size ≤ 8192 ∧ Numeral s.data.toList ∧ Calls Tryz.prog 37 #[.string s] w (Gives1 w (digs U (nv 0 s.data.toList)))) ∨
    (¬ (s.size ≤ 8192 ∧ Numeral s.data.toList) ∧ ∃ z : Int, z = parseErr s.data.toList ∧ Calls Tryz.prog 37 #[.string s] w fun e w' => e = .returned (.tuple #[.slice none 0 0, .int .i64 z]) ∧ Below w.heap.size w w') := by
  by_cases h1 : s.size ≤ 8192
  · by_cases h2 : Numeral s.data.toList
    · exact .inl ⟨h1, h2, parse_good s h1 h2 w⟩
    · refine .inr ⟨fun h => h2 h.2, 20, ?_, parse_bad s h1 h2 w⟩
      unfold parseErr
      rw [← Lib.size_eq, if_neg (by omega)]
  · refine .inr ⟨fun h => h1 h.1, 21, ?_, parse_long s (by omega) hs w⟩
    unfold parseErr
    rw [← Lib.size_eq, if_pos (by omega)]
theorem dec_numeral (u : Nat) : Numeral (Lib.decDigits u) := by
  refine ⟨dec_isDig u, ?_⟩
  by_cases h : u = 0
  · subst h
    exact ⟨48, [], dec_small (by omega), .inr rfl⟩
  · obtain ⟨c, r, e, hc⟩ := dec_head u h
    exact ⟨c, r, e, .inl (by simpa using hc)⟩
theorem text_str (A : Option Addr) (n c : Nat) (l : List Nat) (w : World) (h : SI w .u64 A n c l) (hl : Lt U l) (hn : n ≤ 1000000000000) (hp : Pow w) :
    Calls Tryz.prog 34 #[.slice A n c] w fun e w' => ∃ S : ByteArray, e = .returned (.string S) ∧ S.data.toList = Lib.decDigits (val U l) ∧ Below w.heap.size w w' := by
  refine (text_calls A n c l w h hl hn hp).mono ?_
  rintro e w' ⟨rfl, b⟩
  exact ⟨_, rfl, rfl, b⟩
theorem str_eq {S T : ByteArray} (h : S.data.toList = T.data.toList) : S = T := by
  apply ByteArray.ext
  exact Array.toList_inj.1 h
/-- Parse, over what Text has told -/
theorem parse_told (S : ByteArray) (M : Nat) (h : S.data.toList = Lib.decDigits M) (hs : S.size ≤ 8192) (w : World) :
    Calls Tryz.prog 37 #[.string S] w (Gives1 w (digs U M)) := by
  have e := parse_good S hs (by rw [h]; exact dec_numeral M) w
  rw [h, nv_dec] at e
  exact e
theorem norm_d (A : Option Addr) (n c : Nat) (l : List Nat) (w : World) (h : SI w .u64 A n c l) (hl : Lt U l) (hn : n ≤ 8796093022208) :
    Calls Tryz.prog 39 #[.slice A n c] w (GivesOwn w 65 .u64 (digs U (val U l))) := norm_calls A n c l w h hl hn
theorem nv_lt_len {l : List UInt8} (h : Numeral l) (hl : l.length ≤ 8192) : (digs U (nv 0 l)).length ≤ 8192 := nv_short h.1 hl
theorem parse_two (s : ByteArray) (hs : s.size ≤ 9223372036854775807) :
    (s.size ≤ 8192 ∧ Numeral s.data.toList) ∨ (∀ w : World, Calls Tryz.prog 37 #[.string s] w fun e w' => e = .returned (.tuple #[.slice none 0 0, .int .i64 20]) ∧ Below w.heap.size w w') ∨
    (∀ w : World, Calls Tryz.prog 37 #[.string s] w fun e w' => e = .returned (.tuple #[.slice none 0 0, .int .i64 21]) ∧ Below w.heap.size w w') := by
  by_cases h1 : s.size ≤ 8192
  · by_cases h2 : Numeral s.data.toList
    · exact .inl ⟨h1, h2⟩
    · exact .inr (.inl fun w => parse_bad s h1 h2 w)
  · exact .inr (.inr fun w => parse_long s (by omega) hs w)
theorem text_back (s : ByteArray) (hs : s.size ≤ 8192) (h : Numeral s.data.toList) (A : Option Addr) (n c : Nat) (w : World) (hr : SI w .u64 A n c (digs U (nv 0 s.data.toList))) (hp : Pow w) :
    Calls Tryz.prog 34 #[.slice A n c] w fun e w' => e = .returned (.string s) ∧ Below w.heap.size w w' := by
  have hl := nv_lt_len h (by rw [← Lib.size_eq]; exact hs)
  refine (text_str A n c _ w hr (dl _) (by rw [← hr.len]; omega) hp).mono ?_
  rintro e w' ⟨S, rfl, hS, b⟩
  rw [val_digs U_two, dec_nv h.1 h.2] at hS
  rw [str_eq hS]
  exact ⟨rfl, b⟩
set_option maxHeartbeats 4000000 in
set_option maxRecDepth 100000 in
theorem back_sok (A : Option Addr) (n c : Nat) (l : List Nat) (s : ByteArray) (w : World) (h : SI w .u64 A n c l) (hl : Lt U l) (hn : n ≤ 1048576) (hp : Pow w) (hbig : (Lib.decDigits (val U l)).length ≤ 9223372036854775807) (hlen : (Lib.decDigits (val U l)).length ≤ 8192) (hok : s.size ≤ 8192 ∧ Numeral s.data.toList) :
    Calls Tryz.prog 8 #[.slice A n c, .string s] w fun e w' => e = .returned (.bool true) ∧ Below w.heap.size w w' := by
  have HP := Lib.hid hp
  have HT := Lib.hid (text_str A n c l w h hl (by omega) hp)
  have HN := Lib.hid (fun (w1 : World) (b : Below w.heap.size w w1) => norm_d A n c l w1 (h.below b) hl (by omega))
  clear hp h hl
  generalize val U l = M at *
  obtain ⟨L, hL⟩ : ∃ L, (Lib.decDigits M).length = L := ⟨_, rfl⟩
  have HLEN := Lib.hid hlen
  have HL := Lib.hid hL
  rw [hL] at hlen hbig
  have hd : decide ((L : Int) ≤ 8192) = true := decide_eq_true (by omega)
  clear hL hlen
  go_enter Tryz.func8, Tryz.ntmps8
  go_wp2_with (first
    | (go_at_call 34; first
      | ((with_reducible refine HT.out.mono ?_); rintro e w1 ⟨S1, rfl, hS1, b1⟩; have hz1 : S1.size = L := (by rw [Lib.size_eq, hS1]; exact HL.out); have HS1 := Lib.hid hS1; clear hS1)
      | ((with_reducible refine (text_back s hok.1 hok.2 A6 n6 c6 w6 r6 ((((HP.out.below b1).below b2).below b3)|>.below b4 |>.below d5.below |>.below b6)).mono ?_); rintro e w7 ⟨rfl, b7⟩))
    | (go_at_call 37; first
      | ((with_reducible refine (parse_told S1 M HS1.out (by rw [Lib.size_eq, HS1.out]; exact HLEN.out) w1).mono ?_); rintro e w2 ⟨A2, n2, c2, rfl, r2, b2⟩)
      | ((with_reducible refine (parse_good s hok.1 hok.2 w5).mono ?_); rintro e w6 ⟨A6, n6, c6, rfl, r6, b6⟩))
    | (go_at_call 13; (with_reducible refine (awake_calls w2 ((HP.out.below b1).below b2)).mono ?_); rintro e w3 ⟨rfl, b3⟩)
    | (go_at_call 39; (with_reducible refine (HN.out w3 (on (on b1 b2) b3)).mono ?_); rintro e w4 ⟨v4, rfl, o4, b4⟩; obtain ⟨A4, n4, c4, rfl, r4⟩ := o4.reads_n)
    | (go_at_call 31; (with_reducible refine (Rf.same_calls A2 A4 n2 c2 n4 c4 _ w4 ((r2.below b3).below b4) r4).mono ?_); rintro e w5 ⟨rfl, d5⟩))
  go_ret
  exact ⟨rfl, on (on (on (on (on (on b1 b2) b3) b4) d5.below) b6) b7⟩
set_option maxHeartbeats 4000000 in
set_option maxRecDepth 100000 in
theorem back_se (A : Option Addr) (n c : Nat) (l : List Nat) (s : ByteArray) (w : World) (h : SI w .u64 A n c l) (hl : Lt U l) (hn : n ≤ 1048576) (hp : Pow w) (hbig : (Lib.decDigits (val U l)).length ≤ 9223372036854775807) (hlen : (Lib.decDigits (val U l)).length ≤ 8192) (z : Int) (hz : (z != 0) = true) (HE : Hid (∀ w : World, Calls Tryz.prog 37 #[.string s] w fun e w' => e = .returned (.tuple #[.slice none 0 0, .int .i64 z]) ∧ Below w.heap.size w w')) :
    Calls Tryz.prog 8 #[.slice A n c, .string s] w fun e w' => e = .returned (.bool true) ∧ Below w.heap.size w w' := by
  have HP := Lib.hid hp
  have HT := Lib.hid (text_str A n c l w h hl (by omega) hp)
  have HN := Lib.hid (fun (w1 : World) (b : Below w.heap.size w w1) => norm_d A n c l w1 (h.below b) hl (by omega))
  clear hp h hl
  generalize val U l = M at *
  obtain ⟨L, hL⟩ : ∃ L, (Lib.decDigits M).length = L := ⟨_, rfl⟩
  have HLEN := Lib.hid hlen
  have HL := Lib.hid hL
  rw [hL] at hlen hbig
  have hd : decide ((L : Int) ≤ 8192) = true := decide_eq_true (by omega)
  clear hL hlen
  go_enter Tryz.func8, Tryz.ntmps8
  go_wp2_with (first
    | (go_at_call 34; first
      | ((with_reducible refine HT.out.mono ?_); rintro e w1 ⟨S1, rfl, hS1, b1⟩; have hz1 : S1.size = L := (by rw [Lib.size_eq, hS1]; exact HL.out); have HS1 := Lib.hid hS1; clear hS1))
    | (go_at_call 37; first
      | ((with_reducible refine (parse_told S1 M HS1.out (by rw [Lib.size_eq, HS1.out]; exact HLEN.out) w1).mono ?_); rintro e w2 ⟨A2, n2, c2, rfl, r2, b2⟩)
      | ((with_reducible refine (HE.out w5).mono ?_); rintro e w6 ⟨rfl, b6⟩))
    | (go_at_call 13; (with_reducible refine (awake_calls w2 ((HP.out.below b1).below b2)).mono ?_); rintro e w3 ⟨rfl, b3⟩)
    | (go_at_call 39; (with_reducible refine (HN.out w3 (on (on b1 b2) b3)).mono ?_); rintro e w4 ⟨v4, rfl, o4, b4⟩; obtain ⟨A4, n4, c4, rfl, r4⟩ := o4.reads_n)
    | (go_at_call 31; (with_reducible refine (Rf.same_calls A2 A4 n2 c2 n4 c4 _ w4 ((r2.below b3).below b4) r4).mono ?_); rintro e w5 ⟨rfl, d5⟩))
  go_ret
  exact ⟨rfl, on (on (on (on (on b1 b2) b3) b4) d5.below) b6⟩
set_option maxHeartbeats 4000000 in
set_option maxRecDepth 100000 in
theorem back_lok (A : Option Addr) (n c : Nat) (l : List Nat) (s : ByteArray) (w : World) (h : SI w .u64 A n c l) (hl : Lt U l) (hn : n ≤ 1048576) (hp : Pow w) (hbig : (Lib.decDigits (val U l)).length ≤ 9223372036854775807) (hlen : 8192 < (Lib.decDigits (val U l)).length) (hok : s.size ≤ 8192 ∧ Numeral s.data.toList) :
    Calls Tryz.prog 8 #[.slice A n c, .string s] w fun e w' => e = .returned (.bool true) ∧ Below w.heap.size w w' := by
  have HP := Lib.hid hp
  have HT := Lib.hid (text_str A n c l w h hl (by omega) hp)
  have HN := Lib.hid (fun (w1 : World) (b : Below w.heap.size w w1) => norm_d A n c l w1 (h.below b) hl (by omega))
  clear hp h hl
  generalize val U l = M at *
  obtain ⟨L, hL⟩ : ∃ L, (Lib.decDigits M).length = L := ⟨_, rfl⟩
  have HLEN := Lib.hid hlen
  have HL := Lib.hid hL
  rw [hL] at hlen hbig
  have hd : decide ((L : Int) ≤ 8192) = false := decide_eq_false (by omega)
  clear hL hlen
  go_enter Tryz.func8, Tryz.ntmps8
  go_wp2_with (first
    | (go_at_call 34; first
      | ((with_reducible refine HT.out.mono ?_); rintro e w1 ⟨S1, rfl, hS1, b1⟩; have hz1 : S1.size = L := (by rw [Lib.size_eq, hS1]; exact HL.out); have HS1 := Lib.hid hS1; clear hS1)
      | ((with_reducible refine (text_back s hok.1 hok.2 A6 n6 c6 w6 r6 ((((HP.out.below b1).below b2).below b3) |>.below b6)).mono ?_); rintro e w7 ⟨rfl, b7⟩))
    | (go_at_call 37; first
      | ((with_reducible refine (parse_long S1 (by rw [Lib.size_eq, HS1.out]; exact HLEN.out) (by have := hz1; omega) w1).mono ?_); rintro e w2 ⟨rfl, b2⟩)
      | ((with_reducible refine (parse_good s hok.1 hok.2 w3).mono ?_); rintro e w6 ⟨A6, n6, c6, rfl, r6, b6⟩))
    | (go_at_call 13; (with_reducible refine (awake_calls w2 ((HP.out.below b1).below b2)).mono ?_); rintro e w3 ⟨rfl, b3⟩))
  go_ret
  exact ⟨rfl, on (on (on (on b1 b2) b3) b6) b7⟩
set_option maxHeartbeats 4000000 in
set_option maxRecDepth 100000 in
theorem back_le (A : Option Addr) (n c : Nat) (l : List Nat) (s : ByteArray) (w : World) (h : SI w .u64 A n c l) (hl : Lt U l) (hn : n ≤ 1048576) (hp : Pow w) (hbig : (Lib.decDigits (val U l)).length ≤ 9223372036854775807) (hlen : 8192 < (Lib.decDigits (val U l)).length) (z : Int) (hz : (z != 0) = true) (HE : Hid (∀ w : World, Calls Tryz.prog 37 #[.string s] w fun e w' => e = .returned (.tuple #[.slice none 0 0, .int .i64 z]) ∧ Below w.heap.size w w')) :
    Calls Tryz.prog 8 #[.slice A n c, .string s] w fun e w' => e = .returned (.bool true) ∧ Below w.heap.size w w' := by
  have HP := Lib.hid hp
  have HT := Lib.hid (text_str A n c l w h hl (by omega) hp)
  have HN := Lib.hid (fun (w1 : World) (b : Below w.heap.size w w1) => norm_d A n c l w1 (h.below b) hl (by omega))
  clear hp h hl
  generalize val U l = M at *
  obtain ⟨L, hL⟩ : ∃ L, (Lib.decDigits M).length = L := ⟨_, rfl⟩
  have HLEN := Lib.hid hlen
  have HL := Lib.hid hL
  rw [hL] at hlen hbig
  have hd : decide ((L : Int) ≤ 8192) = false := decide_eq_false (by omega)
  clear hL hlen
  go_enter Tryz.func8, Tryz.ntmps8
  go_wp2_with (first
    | (go_at_call 34; first
      | ((with_reducible refine HT.out.mono ?_); rintro e w1 ⟨S1, rfl, hS1, b1⟩; have hz1 : S1.size = L := (by rw [Lib.size_eq, hS1]; exact HL.out); have HS1 := Lib.hid hS1; clear hS1))
    | (go_at_call 37; first
      | ((with_reducible refine (parse_long S1 (by rw [Lib.size_eq, HS1.out]; exact HLEN.out) (by have := hz1; omega) w1).mono ?_); rintro e w2 ⟨rfl, b2⟩)
      | ((with_reducible refine (HE.out w3).mono ?_); rintro e w6 ⟨rfl, b6⟩))
    | (go_at_call 13; (with_reducible refine (awake_calls w2 ((HP.out.below b1).below b2)).mono ?_); rintro e w3 ⟨rfl, b3⟩))
  go_ret
  exact ⟨rfl, on (on (on b1 b2) b3) b6⟩
theorem dec_short' {M n K : Nat} (h : M < U ^ n) (hn : 20 * n ≤ K) (hK : 0 < K) : (Lib.decDigits M).length ≤ K := by
  refine (pad_dd K M ?_ hK).1
  have h1 : U ^ n ≤ (10 ^ 20) ^ n := Nat.pow_le_pow_left (by decide) n
  have h2 : (10 ^ 20) ^ n ≤ 10 ^ K := by rw [← Nat.pow_mul]; exact Nat.pow_le_pow_right (by omega) hn
  exact Nat.lt_of_lt_of_le h (Nat.le_trans h1 h2)
theorem dec_short {M n : Nat} (h : M < U ^ n) (hn : n ≤ 1048576) : (Lib.decDigits M).length ≤ 20971521 := dec_short' h (by omega) (by omega)
theorem wholeBack_calls (A : Option Addr) (n c : Nat) (l : List Nat) (s : ByteArray) (w : World) (h : SI w .u64 A n c l) (hl : Lt U l) (hn : n ≤ 1048576) (hs : s.size ≤ 140737488351232) (hp : Pow w) :
    Calls Tryz.prog 8 #[.slice A n c, .string s] w fun e w' => e = .returned (.bool true) ∧ Below w.heap.size w w' := by
  have hv := val_lt U_pos hl
  rw [h.len] at hv
  have hbig : (Lib.decDigits (val U l)).length ≤ 9223372036854775807 := Nat.le_trans (dec_short hv hn) (by omega)
  rcases Nat.lt_or_ge 8192 (Lib.decDigits (val U l)).length with hlen | hlen
  · rcases parse_two s (by omega) with hok | he | he
    · exact back_lok A n c l s w h hl hn hp hbig hlen hok
    · exact back_le A n c l s w h hl hn hp hbig hlen 20 rfl he
    · exact back_le A n c l s w h hl hn hp hbig hlen 21 rfl he
  · rcases parse_two s (by omega) with hok | he | he
    · exact back_sok A n c l s w h hl hn hp hbig hlen hok
    · exact back_se A n c l s w h hl hn hp hbig hlen 20 rfl he
    · exact back_se A n c l s w h hl hn hp hbig hlen 21 rfl he
end Go.Proofs.YtkaajgcjdgjcbaaGreatDoor.Aw
