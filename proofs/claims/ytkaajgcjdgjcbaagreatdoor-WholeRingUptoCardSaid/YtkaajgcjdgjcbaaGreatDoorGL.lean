/- Texts of one layer, joined: La, Lc, Uo, Lr. -/
import Derived.Test.YtkaajgcjdgjcbaaGreatDoorGF
import Derived.Test.YtkaajgcjdgjcbaaGreatDoorGD
set_option linter.unusedVariables false
set_option linter.unusedSimpArgs false
set_option linter.unusedSectionVars false
/- Layer 2's laws: WholePowers. -/
namespace Go.Proofs.YtkaajgcjdgjcbaaGreatDoor.Aw
open Go.RowKit Go.Proofs.YtkaajgcjdgjcbaaGreatDoor.Dig Go.Proofs.YtkaajgcjdgjcbaaGreatDoor.W Go.Proofs.YtkaajgcjdgjcbaaGreatDoor.Nat Go.Proofs.YtkaajgcjdgjcbaaGreatDoor.Wh Go.Proofs.YtkaajgcjdgjcbaaGreatDoor.Td Go.Proofs.YtkaajgcjdgjcbaaGreatDoor.Bu Go.Proofs.YtkaajgcjdgjcbaaGreatDoor.Tx
open Go.Proofs.YtkaajgcjdgjcbaaGreatDoor.Rf (V V_two V_pos)

theorem on {w W W' : World} (h : Below w.heap.size w W) (b : Below W.heap.size W W') : Below w.heap.size w W' := h.trans (b.mono h.size)
theorem rpow5 (n : Nat) (w : World) (hn : n ≤ 8192) : Calls Tryz.prog 30 #[.int .i64 5, .int .i64 (n : Nat)] w (Gives w .u32 (digs V (5 ^ n))) := rpow_calls 5 n w (by omega) (by omega) (by omega)
theorem rshl_d (A : Option Addr) (n c m k : Nat) (w : World) (h : SI w .u32 A n c (digs V m)) (hn : n ≤ 4398046511104) (hk : k ≤ 65536) :
    Calls Tryz.prog 33 #[.slice A n c, .int .i64 (k : Nat)] w (Rf.GivesF w .u32 (digs V (m * 2 ^ k))) := by
  have e := Rf.shl_calls A n c (digs V m) k w h (digs_lt V_two m) hn hk
  rw [val_digs V_two] at e
  exact e
theorem rpow_len' {a n x M : Nat} (ha : a ≤ 10) (hx : x ≤ a ^ n) (hn : n ≤ M) (hM : M ≠ 0) : (digs V x).length ≤ M := by
  refine (digs_length_le V_two _ _).2 (Nat.lt_of_le_of_lt hx ?_)
  have h1 : a ^ n ≤ 10 ^ n := Nat.pow_le_pow_left ha n
  have h2 : 10 ^ n ≤ 10 ^ M := Nat.pow_le_pow_right (by omega) hn
  have h3 : 10 ^ M < V ^ M := Nat.pow_lt_pow_left (by decide) hM
  exact Nat.lt_of_le_of_lt (Nat.le_trans h1 h2) h3
theorem rpow_len {a n x : Nat} (ha : a ≤ 10) (hx : x ≤ a ^ n) (hn : n ≤ 8192) : (digs V x).length ≤ 8192 := rpow_len' ha hx hn (by decide)
theorem five_ten (k : Nat) : 5 ^ k * 2 ^ k = 10 ^ k := by rw [← Nat.mul_pow]
set_option maxHeartbeats 4000000 in
set_option maxRecDepth 100000 in
theorem wholePowers_calls (z : Int) (w : World) (hp : Pow w) :
    Calls Tryz.prog 5 #[.int .i64 z] w fun e w' => e = .returned (.bool true) ∧ Below w.heap.size w w' := by
  have HP := Lib.hid hp
  clear hp
  by_cases hin : 0 ≤ z ∧ z ≤ 8192
  · obtain ⟨k, rfl⟩ : ∃ k : Nat, z = k := ⟨z.toNat, by omega⟩
    have hk : k ≤ 8192 := by omega
    clear hin
    have hL1 := rpow_len (a := 5) (by omega) (Nat.le_refl _) hk
    have hL2 := rpow_len (a := 10) (by omega) (Nat.le_refl _) hk
    have HL1 := Lib.hid hL1
    have HL2 := Lib.hid hL2
    have h5 := five_ten k
    have H5 := Lib.hid h5
    have HA := Lib.hid (fun w1 => pow5_calls k w1 hk)
    have HB := Lib.hid (fun w1 => Wh.pow10_calls k w1 hk)
    have HC := Lib.hid (fun w1 => rpow5 k w1 hk)
    have HD := Lib.hid (fun (A : Option Addr) (n c : Nat) (w1 : World) (h : SI w1 .u32 A n c (digs V (5 ^ k))) => rshl_d A n c (5 ^ k) k w1 h (by rw [← h.len]; omega) (by omega))
    rw [h5] at HD
    clear hL1 hL2 h5
    generalize 5 ^ k = p at *
    generalize 10 ^ k = t at *
    go_enter Tryz.func5, Tryz.ntmps5
    go_wp2_with (first
      | (go_at_call 28; (with_reducible refine (HA.out w).mono ?_); rintro e w1 ⟨A1, n1, c1, rfl, r1, b1⟩)
      | (go_at_call 29; (with_reducible refine (HB.out w1).mono ?_); rintro e w2 ⟨A2, n2, c2, rfl, r2, b2⟩)
      | (go_at_call 13; (with_reducible refine (awake_calls w2 ((HP.out.below b1).below b2)).mono ?_); rintro e w3 ⟨rfl, b3⟩)
      | (go_at_call 30; (with_reducible refine (HC.out w3).mono ?_); rintro e w4 ⟨A4, n4, c4, rfl, r4, b4⟩)
      | (go_at_call 32; first
        | ((with_reducible refine (Rw.out_d A4 n4 c4 p w4 r4 (by rw [← r4.len]; have := HL1.out; omega)).mono ?_); rintro e w5 ⟨v5, rfl, o5, b5⟩; obtain ⟨A5, n5, c5, rfl, r5⟩ := o5.reads_n)
        | ((with_reducible refine (Rw.out_d A7 n7 c7 t w7 r7 (by rw [← r7.len]; have := HL2.out; omega)).mono ?_); rintro e w8 ⟨v8, rfl, o8, b8⟩; obtain ⟨A8, n8, c8, rfl, r8⟩ := o8.reads_n))
      | (go_at_call 31; first
        | ((with_reducible refine (Rf.same_calls A1 A5 n1 c1 n5 c5 _ w5 ((((r1.below b2).below b3).below b4).below b5) r5).mono ?_); rintro e w6 ⟨rfl, d6⟩)
        | ((with_reducible refine (Rf.same_calls A2 A8 n2 c2 n8 c8 _ w8 ((((((r2.below b3).below b4).below b5).below d6.below).below b7).below b8) r8).mono ?_); rintro e w9 ⟨rfl, d9⟩))
      | (go_at_call 33; (with_reducible refine (HD.out A4 n4 c4 w6 ((r4.below b5).below d6.below)).mono ?_); rintro e w7 ⟨A7, n7, c7, rfl, r7, f7, b7⟩))
    go_ret
    exact ⟨rfl, on (on (on (on (on (on (on (on b1 b2) b3) b4) b5) d6.below) b7) b8) d9.below⟩
  · have hin' : z < 0 ∨ 8192 < z := by omega
    have HA := Lib.hid (fun w1 => pow5_err z w1 hin')
    have HB := Lib.hid (fun w1 => pow10_err z w1 hin')
    rcases Int.lt_or_le z 0 with h0 | h0
    · have hd1 : decide (z < 0) = true := decide_eq_true h0
      clear hin hin' h0
      go_enter Tryz.func5, Tryz.ntmps5
      go_wp2_with (first
        | (go_at_call 28; (with_reducible refine (HA.out w).mono ?_); rintro e w1 ⟨rfl, rfl⟩)
        | (go_at_call 29; (with_reducible refine (HB.out w).mono ?_); rintro e w2 ⟨rfl, rfl⟩)
        | (go_at_call 13; (with_reducible refine (awake_calls w HP.out).mono ?_); rintro e w3 ⟨rfl, b3⟩))
      go_ret
      exact ⟨rfl, b3⟩
    · have hd1 : decide (z < 0) = false := decide_eq_false (by omega)
      have hd2 : decide (8192 < z) = true := decide_eq_true (by omega)
      clear hin hin' h0
      go_enter Tryz.func5, Tryz.ntmps5
      go_wp2_with (first
        | (go_at_call 28; (with_reducible refine (HA.out w).mono ?_); rintro e w1 ⟨rfl, rfl⟩)
        | (go_at_call 29; (with_reducible refine (HB.out w).mono ?_); rintro e w2 ⟨rfl, rfl⟩)
        | (go_at_call 13; (with_reducible refine (awake_calls w HP.out).mono ?_); rintro e w3 ⟨rfl, b3⟩))
      go_ret
      exact ⟨rfl, b3⟩
end Go.Proofs.YtkaajgcjdgjcbaaGreatDoor.Aw

/- Layer 2's laws: WholeBack. -/
namespace Go.Proofs.YtkaajgcjdgjcbaaGreatDoor.Aw
open Go.RowKit Go.Proofs.YtkaajgcjdgjcbaaGreatDoor.Dig Go.Proofs.YtkaajgcjdgjcbaaGreatDoor.W Go.Proofs.YtkaajgcjdgjcbaaGreatDoor.Nat Go.Proofs.YtkaajgcjdgjcbaaGreatDoor.Wh Go.Proofs.YtkaajgcjdgjcbaaGreatDoor.Td Go.Proofs.YtkaajgcjdgjcbaaGreatDoor.Bu Go.Proofs.YtkaajgcjdgjcbaaGreatDoor.Tx

/-- Parse's answer, whatever the text -/
def parseErr (l : List UInt8) : Int := if 8192 < l.length then 21 else 20
theorem parse_any (s : ByteArray) (hs : s.size ≤ 9223372036854775807) (w : World) :
    (s.size ≤ 8192 ∧ Numeral s.data.toList ∧ Calls Tryz.prog 37 #[.string s] w (Gives1 w (digs U (nv 0 s.data.toList)))) ∨
    (¬ (s.size ≤ 8192 ∧ Numeral s.data.toList) ∧ ∃ z : Int, z = parseErr s.data.toList ∧ Calls Tryz.prog 37 #[.string s] w fun e w' => e = .returned (.tuple #[.slice none 0 0, .int .i64 z]) ∧ Below w.heap.size w w') := by
  by_cases h1 : s.size ≤ 8192
  · by_cases h2 : Numeral s.data.toList
    · exact .inl ⟨h1, h2, parse_good s h1 h2 w⟩
    · refine .inr ⟨fun h => h2 h.2, 20, ?_, parse_bad s h1 h2 w⟩
      unfold parseErr
      rw [← Lib.size_eq, if_neg (by omega)]
  · refine .inr ⟨fun h => h1 h.1, 21, ?_, parse_long s (by omega) hs w⟩
    unfold parseErr
    rw [← Lib.size_eq, if_pos (by omega)]
theorem dec_numeral (u : Nat) : Numeral (Lib.decDigits u) := by
  refine ⟨dec_isDig u, ?_⟩
  by_cases h : u = 0
  · subst h
    exact ⟨48, [], dec_small (by omega), .inr rfl⟩
  · obtain ⟨c, r, e, hc⟩ := dec_head u h
    exact ⟨c, r, e, .inl (by simpa using hc)⟩
theorem text_str (A : Option Addr) (n c : Nat) (l : List Nat) (w : World) (h : SI w .u64 A n c l) (hl : Lt U l) (hn : n ≤ 1000000000000) (hp : Pow w) :
    Calls Tryz.prog 34 #[.slice A n c] w fun e w' => ∃ S : ByteArray, e = .returned (.string S) ∧ S.data.toList = Lib.decDigits (val U l) ∧ Below w.heap.size w w' := by
  refine (text_calls A n c l w h hl hn hp).mono ?_
  rintro e w' ⟨rfl, b⟩
  exact ⟨_, rfl, rfl, b⟩
theorem str_eq {S T : ByteArray} (h : S.data.toList = T.data.toList) : S = T := by
  apply ByteArray.ext
  exact Array.toList_inj.1 h
/-- Parse, over what Text has told -/
theorem parse_told (S : ByteArray) (M : Nat) (h : S.data.toList = Lib.decDigits M) (hs : S.size ≤ 8192) (w : World) :
    Calls Tryz.prog 37 #[.string S] w (Gives1 w (digs U M)) := by
  have e := parse_good S hs (by rw [h]; exact dec_numeral M) w
  rw [h, nv_dec] at e
  exact e
theorem norm_d (A : Option Addr) (n c : Nat) (l : List Nat) (w : World) (h : SI w .u64 A n c l) (hl : Lt U l) (hn : n ≤ 8796093022208) :
    Calls Tryz.prog 39 #[.slice A n c] w (GivesOwn w 65 .u64 (digs U (val U l))) := norm_calls A n c l w h hl hn
theorem nv_lt_len {l : List UInt8} (h : Numeral l) (hl : l.length ≤ 8192) : (digs U (nv 0 l)).length ≤ 8192 := nv_short h.1 hl
theorem parse_two (s : ByteArray) (hs : s.size ≤ 9223372036854775807) :
    (s.size ≤ 8192 ∧ Numeral s.data.toList) ∨ (∀ w : World, Calls Tryz.prog 37 #[.string s] w fun e w' => e = .returned (.tuple #[.slice none 0 0, .int .i64 20]) ∧ Below w.heap.size w w') ∨
    (∀ w : World, Calls Tryz.prog 37 #[.string s] w fun e w' => e = .returned (.tuple #[.slice none 0 0, .int .i64 21]) ∧ Below w.heap.size w w') := by
  by_cases h1 : s.size ≤ 8192
  · by_cases h2 : Numeral s.data.toList
    · exact .inl ⟨h1, h2⟩
    · exact .inr (.inl fun w => parse_bad s h1 h2 w)
  · exact .inr (.inr fun w => parse_long s (by omega) hs w)
theorem text_back (s : ByteArray) (hs : s.size ≤ 8192) (h : Numeral s.data.toList) (A : Option Addr) (n c : Nat) (w : World) (hr : SI w .u64 A n c (digs U (nv 0 s.data.toList))) (hp : Pow w) :
    Calls Tryz.prog 34 #[.slice A n c] w fun e w' => e = .returned (.string s) ∧ Below w.heap.size w w' := by
  have hl := nv_lt_len h (by rw [← Lib.size_eq]; exact hs)
  refine (text_str A n c _ w hr (dl _) (by rw [← hr.len]; omega) hp).mono ?_
  rintro e w' ⟨S, rfl, hS, b⟩
  rw [val_digs U_two, dec_nv h.1 h.2] at hS
  rw [str_eq hS]
  exact ⟨rfl, b⟩
set_option maxHeartbeats 4000000 in
set_option maxRecDepth 100000 in
theorem back_sok (A : Option Addr) (n c : Nat) (l : List Nat) (s : ByteArray) (w : World) (h : SI w .u64 A n c l) (hl : Lt U l) (hn : n ≤ 1048576) (hp : Pow w) (hbig : (Lib.decDigits (val U l)).length ≤ 9223372036854775807) (hlen : (Lib.decDigits (val U l)).length ≤ 8192) (hok : s.size ≤ 8192 ∧ Numeral s.data.toList) :
    Calls Tryz.prog 8 #[.slice A n c, .string s] w fun e w' => e = .returned (.bool true) ∧ Below w.heap.size w w' := by
  have HP := Lib.hid hp
  have HT := Lib.hid (text_str A n c l w h hl (by omega) hp)
  have HN := Lib.hid (fun (w1 : World) (b : Below w.heap.size w w1) => norm_d A n c l w1 (h.below b) hl (by omega))
  clear hp h hl
  generalize val U l = M at *
  obtain ⟨L, hL⟩ : ∃ L, (Lib.decDigits M).length = L := ⟨_, rfl⟩
  have HLEN := Lib.hid hlen
  have HL := Lib.hid hL
  rw [hL] at hlen hbig
  have hd : decide ((L : Int) ≤ 8192) = true := decide_eq_true (by omega)
  clear hL hlen
  go_enter Tryz.func8, Tryz.ntmps8
  go_wp2_with (first
    | (go_at_call 34; first
      | ((with_reducible refine HT.out.mono ?_); rintro e w1 ⟨S1, rfl, hS1, b1⟩; have hz1 : S1.size = L := (by rw [Lib.size_eq, hS1]; exact HL.out); have HS1 := Lib.hid hS1; clear hS1)
      | ((with_reducible refine (text_back s hok.1 hok.2 A6 n6 c6 w6 r6 ((((HP.out.below b1).below b2).below b3)|>.below b4 |>.below d5.below |>.below b6)).mono ?_); rintro e w7 ⟨rfl, b7⟩))
    | (go_at_call 37; first
      | ((with_reducible refine (parse_told S1 M HS1.out (by rw [Lib.size_eq, HS1.out]; exact HLEN.out) w1).mono ?_); rintro e w2 ⟨A2, n2, c2, rfl, r2, b2⟩)
      | ((with_reducible refine (parse_good s hok.1 hok.2 w5).mono ?_); rintro e w6 ⟨A6, n6, c6, rfl, r6, b6⟩))
    | (go_at_call 13; (with_reducible refine (awake_calls w2 ((HP.out.below b1).below b2)).mono ?_); rintro e w3 ⟨rfl, b3⟩)
    | (go_at_call 39; (with_reducible refine (HN.out w3 (on (on b1 b2) b3)).mono ?_); rintro e w4 ⟨v4, rfl, o4, b4⟩; obtain ⟨A4, n4, c4, rfl, r4⟩ := o4.reads_n)
    | (go_at_call 31; (with_reducible refine (Rf.same_calls A2 A4 n2 c2 n4 c4 _ w4 ((r2.below b3).below b4) r4).mono ?_); rintro e w5 ⟨rfl, d5⟩))
  go_ret
  exact ⟨rfl, on (on (on (on (on (on b1 b2) b3) b4) d5.below) b6) b7⟩
set_option maxHeartbeats 4000000 in
set_option maxRecDepth 100000 in
theorem back_se (A : Option Addr) (n c : Nat) (l : List Nat) (s : ByteArray) (w : World) (h : SI w .u64 A n c l) (hl : Lt U l) (hn : n ≤ 1048576) (hp : Pow w) (hbig : (Lib.decDigits (val U l)).length ≤ 9223372036854775807) (hlen : (Lib.decDigits (val U l)).length ≤ 8192) (z : Int) (hz : (z != 0) = true) (HE : Hid (∀ w : World, Calls Tryz.prog 37 #[.string s] w fun e w' => e = .returned (.tuple #[.slice none 0 0, .int .i64 z]) ∧ Below w.heap.size w w')) :
    Calls Tryz.prog 8 #[.slice A n c, .string s] w fun e w' => e = .returned (.bool true) ∧ Below w.heap.size w w' := by
  have HP := Lib.hid hp
  have HT := Lib.hid (text_str A n c l w h hl (by omega) hp)
  have HN := Lib.hid (fun (w1 : World) (b : Below w.heap.size w w1) => norm_d A n c l w1 (h.below b) hl (by omega))
  clear hp h hl
  generalize val U l = M at *
  obtain ⟨L, hL⟩ : ∃ L, (Lib.decDigits M).length = L := ⟨_, rfl⟩
  have HLEN := Lib.hid hlen
  have HL := Lib.hid hL
  rw [hL] at hlen hbig
  have hd : decide ((L : Int) ≤ 8192) = true := decide_eq_true (by omega)
  clear hL hlen
  go_enter Tryz.func8, Tryz.ntmps8
  go_wp2_with (first
    | (go_at_call 34; first
      | ((with_reducible refine HT.out.mono ?_); rintro e w1 ⟨S1, rfl, hS1, b1⟩; have hz1 : S1.size = L := (by rw [Lib.size_eq, hS1]; exact HL.out); have HS1 := Lib.hid hS1; clear hS1))
    | (go_at_call 37; first
      | ((with_reducible refine (parse_told S1 M HS1.out (by rw [Lib.size_eq, HS1.out]; exact HLEN.out) w1).mono ?_); rintro e w2 ⟨A2, n2, c2, rfl, r2, b2⟩)
      | ((with_reducible refine (HE.out w5).mono ?_); rintro e w6 ⟨rfl, b6⟩))
    | (go_at_call 13; (with_reducible refine (awake_calls w2 ((HP.out.below b1).below b2)).mono ?_); rintro e w3 ⟨rfl, b3⟩)
    | (go_at_call 39; (with_reducible refine (HN.out w3 (on (on b1 b2) b3)).mono ?_); rintro e w4 ⟨v4, rfl, o4, b4⟩; obtain ⟨A4, n4, c4, rfl, r4⟩ := o4.reads_n)
    | (go_at_call 31; (with_reducible refine (Rf.same_calls A2 A4 n2 c2 n4 c4 _ w4 ((r2.below b3).below b4) r4).mono ?_); rintro e w5 ⟨rfl, d5⟩))
  go_ret
  exact ⟨rfl, on (on (on (on (on b1 b2) b3) b4) d5.below) b6⟩
set_option maxHeartbeats 4000000 in
set_option maxRecDepth 100000 in
theorem back_lok (A : Option Addr) (n c : Nat) (l : List Nat) (s : ByteArray) (w : World) (h : SI w .u64 A n c l) (hl : Lt U l) (hn : n ≤ 1048576) (hp : Pow w) (hbig : (Lib.decDigits (val U l)).length ≤ 9223372036854775807) (hlen : 8192 < (Lib.decDigits (val U l)).length) (hok : s.size ≤ 8192 ∧ Numeral s.data.toList) :
    Calls Tryz.prog 8 #[.slice A n c, .string s] w fun e w' => e = .returned (.bool true) ∧ Below w.heap.size w w' := by
  have HP := Lib.hid hp
  have HT := Lib.hid (text_str A n c l w h hl (by omega) hp)
  have HN := Lib.hid (fun (w1 : World) (b : Below w.heap.size w w1) => norm_d A n c l w1 (h.below b) hl (by omega))
  clear hp h hl
  generalize val U l = M at *
  obtain ⟨L, hL⟩ : ∃ L, (Lib.decDigits M).length = L := ⟨_, rfl⟩
  have HLEN := Lib.hid hlen
  have HL := Lib.hid hL
  rw [hL] at hlen hbig
  have hd : decide ((L : Int) ≤ 8192) = false := decide_eq_false (by omega)
  clear hL hlen
  go_enter Tryz.func8, Tryz.ntmps8
  go_wp2_with (first
    | (go_at_call 34; first
      | ((with_reducible refine HT.out.mono ?_); rintro e w1 ⟨S1, rfl, hS1, b1⟩; have hz1 : S1.size = L := (by rw [Lib.size_eq, hS1]; exact HL.out); have HS1 := Lib.hid hS1; clear hS1)
      | ((with_reducible refine (text_back s hok.1 hok.2 A6 n6 c6 w6 r6 ((((HP.out.below b1).below b2).below b3) |>.below b6)).mono ?_); rintro e w7 ⟨rfl, b7⟩))
    | (go_at_call 37; first
      | ((with_reducible refine (parse_long S1 (by rw [Lib.size_eq, HS1.out]; exact HLEN.out) (by have := hz1; omega) w1).mono ?_); rintro e w2 ⟨rfl, b2⟩)
      | ((with_reducible refine (parse_good s hok.1 hok.2 w3).mono ?_); rintro e w6 ⟨A6, n6, c6, rfl, r6, b6⟩))
    | (go_at_call 13; (with_reducible refine (awake_calls w2 ((HP.out.below b1).below b2)).mono ?_); rintro e w3 ⟨rfl, b3⟩))
  go_ret
  exact ⟨rfl, on (on (on (on b1 b2) b3) b6) b7⟩
set_option maxHeartbeats 4000000 in
set_option maxRecDepth 100000 in
theorem back_le (A : Option Addr) (n c : Nat) (l : List Nat) (s : ByteArray) (w : World) (h : SI w .u64 A n c l) (hl : Lt U l) (hn : n ≤ 1048576) (hp : Pow w) (hbig : (Lib.decDigits (val U l)).length ≤ 9223372036854775807) (hlen : 8192 < (Lib.decDigits (val U l)).length) (z : Int) (hz : (z != 0) = true) (HE : Hid (∀ w : World, Calls Tryz.prog 37 #[.string s] w fun e w' => e = .returned (.tuple #[.slice none 0 0, .int .i64 z]) ∧ Below w.heap.size w w')) :
    Calls Tryz.prog 8 #[.slice A n c, .string s] w fun e w' => e = .returned (.bool true) ∧ Below w.heap.size w w' := by
  have HP := Lib.hid hp
  have HT := Lib.hid (text_str A n c l w h hl (by omega) hp)
  have HN := Lib.hid (fun (w1 : World) (b : Below w.heap.size w w1) => norm_d A n c l w1 (h.below b) hl (by omega))
  clear hp h hl
  generalize val U l = M at *
  obtain ⟨L, hL⟩ : ∃ L, (Lib.decDigits M).length = L := ⟨_, rfl⟩
  have HLEN := Lib.hid hlen
  have HL := Lib.hid hL
  rw [hL] at hlen hbig
  have hd : decide ((L : Int) ≤ 8192) = false := decide_eq_false (by omega)
  clear hL hlen
  go_enter Tryz.func8, Tryz.ntmps8
  go_wp2_with (first
    | (go_at_call 34; first
      | ((with_reducible refine HT.out.mono ?_); rintro e w1 ⟨S1, rfl, hS1, b1⟩; have hz1 : S1.size = L := (by rw [Lib.size_eq, hS1]; exact HL.out); have HS1 := Lib.hid hS1; clear hS1))
    | (go_at_call 37; first
      | ((with_reducible refine (parse_long S1 (by rw [Lib.size_eq, HS1.out]; exact HLEN.out) (by have := hz1; omega) w1).mono ?_); rintro e w2 ⟨rfl, b2⟩)
      | ((with_reducible refine (HE.out w3).mono ?_); rintro e w6 ⟨rfl, b6⟩))
    | (go_at_call 13; (with_reducible refine (awake_calls w2 ((HP.out.below b1).below b2)).mono ?_); rintro e w3 ⟨rfl, b3⟩))
  go_ret
  exact ⟨rfl, on (on (on b1 b2) b3) b6⟩
theorem dec_short' {M n K : Nat} (h : M < U ^ n) (hn : 20 * n ≤ K) (hK : 0 < K) : (Lib.decDigits M).length ≤ K := by
  refine (pad_dd K M ?_ hK).1
  have h1 : U ^ n ≤ (10 ^ 20) ^ n := Nat.pow_le_pow_left (by decide) n
  have h2 : (10 ^ 20) ^ n ≤ 10 ^ K := by rw [← Nat.pow_mul]; exact Nat.pow_le_pow_right (by omega) hn
  exact Nat.lt_of_lt_of_le h (Nat.le_trans h1 h2)
theorem dec_short {M n : Nat} (h : M < U ^ n) (hn : n ≤ 1048576) : (Lib.decDigits M).length ≤ 20971521 := dec_short' h (by omega) (by omega)
theorem wholeBack_calls (A : Option Addr) (n c : Nat) (l : List Nat) (s : ByteArray) (w : World) (h : SI w .u64 A n c l) (hl : Lt U l) (hn : n ≤ 1048576) (hs : s.size ≤ 140737488351232) (hp : Pow w) :
    Calls Tryz.prog 8 #[.slice A n c, .string s] w fun e w' => e = .returned (.bool true) ∧ Below w.heap.size w w' := by
  have hv := val_lt U_pos hl
  rw [h.len] at hv
  have hbig : (Lib.decDigits (val U l)).length ≤ 9223372036854775807 := Nat.le_trans (dec_short hv hn) (by omega)
  rcases Nat.lt_or_ge 8192 (Lib.decDigits (val U l)).length with hlen | hlen
  · rcases parse_two s (by omega) with hok | he | he
    · exact back_lok A n c l s w h hl hn hp hbig hlen hok
    · exact back_le A n c l s w h hl hn hp hbig hlen 20 rfl he
    · exact back_le A n c l s w h hl hn hp hbig hlen 21 rfl he
  · rcases parse_two s (by omega) with hok | he | he
    · exact back_sok A n c l s w h hl hn hp hbig hlen hok
    · exact back_se A n c l s w h hl hn hp hbig hlen 20 rfl he
    · exact back_se A n c l s w h hl hn hp hbig hlen 21 rfl he
end Go.Proofs.YtkaajgcjdgjcbaaGreatDoor.Aw

/- An order's law, on: two or three numbers may come up. -/
namespace Go.Un
variable {P : Program} {ops : Array Oper} {Q : Exit → Act → World → Prop} {md : Region.Mode} {S : World → Prop} {R : List Nat}

theorem two {i j : Nat} {oi oj : Oper} {fuel : Nat} {listed : Array Bool} {a : Act} {w : World} (hi : ops[i]? = some oi) (hj : ops[j]? = some oj) (hr : Region.ready md ops listed = [i, j])
    (h1 : ∀ K' : Act → World → Prop, Shut (∀ a w, (came R (listed.setIfInBounds i true) = false → S w) → wpAnyU P md ops Q S R fuel (listed.setIfInBounds i true) a w → K' a w) → if Region.wanted oi (yielded ops a.tmps) = true then Oper.wp P oi a w K' Q else K' (a.put oi.dst undef) w)
    (h2 : ∀ K' : Act → World → Prop, Shut (∀ a w, (came R (listed.setIfInBounds j true) = false → S w) → wpAnyU P md ops Q S R fuel (listed.setIfInBounds j true) a w → K' a w) → if Region.wanted oj (yielded ops a.tmps) = true then Oper.wp P oj a w K' Q else K' (a.put oj.dst undef) w) :
    wpAnyU P md ops Q S R (fuel + 1) listed a w :=
  all hr (by simp) (fun k hk => by
    rw [List.mem_cons, List.mem_singleton] at hk
    rcases hk with rfl | rfl
    · exact wpOp_step hi (fun K' hK => h1 K' (fun a w hS hW => hK a w ⟨hS, hW⟩))
    · exact wpOp_step hj (fun K' hK => h2 K' (fun a w hS hW => hK a w ⟨hS, hW⟩)))
theorem three {i j k : Nat} {oi oj ok : Oper} {fuel : Nat} {listed : Array Bool} {a : Act} {w : World} (hi : ops[i]? = some oi) (hj : ops[j]? = some oj) (hk : ops[k]? = some ok) (hr : Region.ready md ops listed = [i, j, k])
    (h1 : ∀ K' : Act → World → Prop, Shut (∀ a w, (came R (listed.setIfInBounds i true) = false → S w) → wpAnyU P md ops Q S R fuel (listed.setIfInBounds i true) a w → K' a w) → if Region.wanted oi (yielded ops a.tmps) = true then Oper.wp P oi a w K' Q else K' (a.put oi.dst undef) w)
    (h2 : ∀ K' : Act → World → Prop, Shut (∀ a w, (came R (listed.setIfInBounds j true) = false → S w) → wpAnyU P md ops Q S R fuel (listed.setIfInBounds j true) a w → K' a w) → if Region.wanted oj (yielded ops a.tmps) = true then Oper.wp P oj a w K' Q else K' (a.put oj.dst undef) w)
    (h3 : ∀ K' : Act → World → Prop, Shut (∀ a w, (came R (listed.setIfInBounds k true) = false → S w) → wpAnyU P md ops Q S R fuel (listed.setIfInBounds k true) a w → K' a w) → if Region.wanted ok (yielded ops a.tmps) = true then Oper.wp P ok a w K' Q else K' (a.put ok.dst undef) w) :
    wpAnyU P md ops Q S R (fuel + 1) listed a w :=
  all hr (by simp) (fun m hm => by
    rw [List.mem_cons, List.mem_cons, List.mem_singleton] at hm
    rcases hm with rfl | rfl | rfl
    · exact wpOp_step hi (fun K' hK => h1 K' (fun a w hS hW => hK a w ⟨hS, hW⟩))
    · exact wpOp_step hj (fun K' hK => h2 K' (fun a w hS hW => hK a w ⟨hS, hW⟩))
    · exact wpOp_step hk (fun K' hK => h3 K' (fun a w hS hW => hK a w ⟨hS, hW⟩)))
/-- all orders end in one kind of state, from which the walk goes on once -/
theorem start_key {id : Nat} {a : Act} {w : World} (Good : Act → World → Prop) (S : World → Prop) (R : List Nat) (hm : P.follows .mixedOrders = true)
    (hgood : ∀ a' w', Good a' w' → Q .normal a' w')
    (h : (∀ a' w', Good a' w' → Q .normal a' w') → wpAnyU P .any ops Q S R ops.size (Array.replicate ops.size false) a { w with drawn := w.drawn + 1 }) : (Code.region id ops true).wp P Q a w :=
  start S R hm (h hgood)
end Go.Un
namespace Go.Proofs.YtkaajgcjdgjcbaaGreatDoor.Wh
open Go.RowKit Go.Proofs.YtkaajgcjdgjcbaaGreatDoor.Dig Go.Proofs.YtkaajgcjdgjcbaaGreatDoor.W Go.Proofs.YtkaajgcjdgjcbaaGreatDoor.Nat
/-- two pairs of cells that are read -/
def C4 (w : World) (g g' : Nat) (u v u' v' : Value) : Prop := w.cell? ⟨g, 0, none⟩ = some u ∧ w.cell? ⟨g, 1, none⟩ = some v ∧ w.cell? ⟨g', 0, none⟩ = some u' ∧ w.cell? ⟨g', 1, none⟩ = some v'
theorem C4.keep {w w' : World} {g g' : Nat} {u v u' v' : Value} (h : C4 w g g' u v u' v') (hb : Below w.heap.size w w') : C4 w' g g' u v u' v' :=
  ⟨cell_keep hb h.1, cell_keep hb h.2.1, cell_keep hb h.2.2.1, cell_keep hb h.2.2.2⟩
/-- a row of numbers stands beside a struct's cells -/
theorem si_two {w : World} {k : IntKind} {A : Option Addr} {n c g : Nat} {l : List Nat} {t : TypeId} {b : Bool} {X : Option Addr} {y z : Nat} (h : SI w k A n c l) (hT : Two w g t (.bool b) (.slice X y z)) (u v : Value) :
    SI ((w.setCell ⟨g, 0, none⟩ u).setCell ⟨g, 1, none⟩ v) k A n c l :=
  ⟨h.1, h.2, h.3, fun hn => by
    obtain ⟨b', o, e, hc⟩ := h.4 hn
    refine ⟨b', o, e, fun i x hx => ?_⟩
    have h0 := hc i x hx
    have hi : ∃ q : Nat, x = .int k (q : Nat) := by
      unfold nums at hx
      rw [List.getElem?_map] at hx
      cases hl : l[i]? with
      | none => rw [hl] at hx; cases hx
      | some q => rw [hl] at hx; exact ⟨q, by simpa using hx.symm⟩
    obtain ⟨q, rfl⟩ := hi
    have n0 : (⟨b', o + i, none⟩ : Addr) ≠ ⟨g, 0, none⟩ := fun he => by
      rw [he, hT.c0] at h0
      cases h0
    have n1 : (⟨b', o + i, none⟩ : Addr) ≠ ⟨g, 1, none⟩ := fun he => by
      rw [he, hT.c1] at h0
      cases h0
    rw [World.cell?_setCell_other _ _ _ _ (fun he => n1 he.symm), World.cell?_setCell_other _ _ _ _ (fun he => n0 he.symm)]
    exact h0⟩
end Go.Proofs.YtkaajgcjdgjcbaaGreatDoor.Wh

/- Layer 2's laws: WholeRing. -/
namespace Go.Proofs.YtkaajgcjdgjcbaaGreatDoor.Aw
open Go.RowKit Go.Proofs.YtkaajgcjdgjcbaaGreatDoor.Dig Go.Proofs.YtkaajgcjdgjcbaaGreatDoor.W Go.Proofs.YtkaajgcjdgjcbaaGreatDoor.Nat Go.Proofs.YtkaajgcjdgjcbaaGreatDoor.Wh Go.Proofs.YtkaajgcjdgjcbaaGreatDoor.Td Go.Proofs.YtkaajgcjdgjcbaaGreatDoor.Bu Go.Proofs.YtkaajgcjdgjcbaaGreatDoor.Tx

/-- the boxes of three arguments -/
structure P3 (w X : World) (ga : Bool) (Aa : Option Addr) (na ca : Nat) (gb : Bool) (Ab : Option Addr) (nb cb : Nat) (gc : Bool) (Ac : Option Addr) (nc cc : Nat) : Prop where
  a : Two X w.heap.size 24 (.bool ga) (.slice Aa na ca)
  b : Two X (w.heap.size + 1) 24 (.bool gb) (.slice Ab nb cb)
  c : Two X (w.heap.size + 1 + 1) 24 (.bool gc) (.slice Ac nc cc)
  bl : Below w.heap.size w X
def C6 (w : World) (g : Nat) (u v u' v' s t : Value) : Prop := w.cell? ⟨g, 0, none⟩ = some u ∧ w.cell? ⟨g, 1, none⟩ = some v ∧ w.cell? ⟨g + 1, 0, none⟩ = some u' ∧ w.cell? ⟨g + 1, 1, none⟩ = some v' ∧ w.cell? ⟨g + 1 + 1, 0, none⟩ = some s ∧ w.cell? ⟨g + 1 + 1, 1, none⟩ = some t
section
variable {w X X' : World} {ga : Bool} {Aa : Option Addr} {na ca : Nat} {gb : Bool} {Ab : Option Addr} {nb cb : Nat} {gc : Bool} {Ac : Option Addr} {nc cc : Nat}
theorem P3.below (h : P3 w X ga Aa na ca gb Ab nb cb gc Ac nc cc) (hb : Below X.heap.size X X') : P3 w X' ga Aa na ca gb Ab nb cb gc Ac nc cc := ⟨h.a.below hb, h.b.below hb, h.c.below hb, on h.bl hb⟩
theorem P3.s6 (h : P3 w X ga Aa na ca gb Ab nb cb gc Ac nc cc) : C6 X w.heap.size (.bool ga) (.slice Aa na ca) (.bool gb) (.slice Ab nb cb) (.bool gc) (.slice Ac nc cc) := ⟨h.a.c0, h.a.c1, h.b.c0, h.b.c1, h.c.c0, h.c.c1⟩
theorem P3.lts (h : P3 w X ga Aa na ca gb Ab nb cb gc Ac nc cc) : w.heap.size < X.heap.size ∧ w.heap.size + 1 < X.heap.size ∧ w.heap.size + 1 + 1 < X.heap.size := ⟨h.a.lt, h.b.lt, h.c.lt⟩
theorem P3.store (h : P3 w X ga Aa na ca gb Ab nb cb gc Ac nc cc) {g : Nat} (hg : w.heap.size < g ∧ w.heap.size + 1 < g ∧ w.heap.size + 1 + 1 < g) (u v : Value) : P3 w ((X.setCell ⟨g, 0, none⟩ u).setCell ⟨g, 1, none⟩ v) ga Aa na ca gb Ab nb cb gc Ac nc cc :=
  ⟨Two.far h.a (by omega) _ _, Two.far h.b (by omega) _ _, Two.far h.c (by omega) _ _, (h.bl.setCell (p := ⟨g, 0, none⟩) (Nat.le_of_lt hg.1) _).setCell (p := ⟨g, 1, none⟩) (Nat.le_of_lt hg.1) _⟩
end
theorem P3.start (w : World) (ga : Bool) (Aa : Option Addr) (na ca : Nat) (gb : Bool) (Ab : Option Addr) (nb cb : Nat) (gc : Bool) (Ac : Option Addr) (nc cc : Nat) :
    P3 w (((w.alloc (.cells #[.bool ga, .slice Aa na ca] 24)).alloc (.cells #[.bool gb, .slice Ab nb cb] 24)).alloc (.cells #[.bool gc, .slice Ac nc cc] 24)) ga Aa na ca gb Ab nb cb gc Ac nc cc := by
  obtain ⟨t1, t2⟩ := Rw.two12 w (.bool ga) (.slice Aa na ca) (.bool gb) (.slice Ab nb cb) 24 24
  have hz : ((w.alloc (.cells #[.bool ga, .slice Aa na ca] 24)).alloc (.cells #[.bool gb, .slice Ab nb cb] 24)).heap.size = w.heap.size + 1 + 1 := by simp
  have t3 := Two.start ((w.alloc (.cells #[.bool ga, .slice Aa na ca] 24)).alloc (.cells #[.bool gb, .slice Ab nb cb] 24)) (.bool gc) (.slice Ac nc cc) 24
  rw [hz] at t3
  have ab := alloc_below ((w.alloc (.cells #[.bool ga, .slice Aa na ca] 24)).alloc (.cells #[.bool gb, .slice Ab nb cb] 24)) (.cells #[.bool gc, .slice Ac nc cc] 24)
  exact ⟨t1.below ab, t2.below ab, t3, on (box_two w _ _ _ _) ab⟩
/-- a number in three words: the sign, the row; and that it is short -/
structure Nm (X : World) (g : Bool) (A : Option Addr) (n c : Nat) (x : Int) : Prop where
  out : ∃ l, SI X .u64 A n c l ∧ Lt U l ∧ sg g (val U l) = x
  le : n ≤ 8388608
theorem Nm.below {X X' : World} {g : Bool} {A : Option Addr} {n c : Nat} {x : Int} (h : Nm X g A n c x) (hb : Below X.heap.size X X') : Nm X' g A n c x := by
  obtain ⟨⟨l, h1, h2, h3⟩, h4⟩ := h
  exact ⟨⟨l, h1.below hb, h2, h3⟩, h4⟩
theorem nm_of {X : World} {z : Int} {A : Option Addr} {n c : Nat} (h : SI X .u64 A n c (digs U z.natAbs)) (hz : (digs U z.natAbs).length ≤ 8388608) : Nm X (decide (z < 0)) A n c z :=
  ⟨⟨_, h, dl _, by rw [val_digs U_two, sg_self]⟩, by rw [← h.len]; exact hz⟩
section
variable {X : World} {g g' : Bool} {A A' : Option Addr} {n c n' c' : Nat} {x y : Int}
theorem n_add {z : Int} (h : Nm X g A n c x) (h' : Nm X g' A' n' c' y) (hz : x + y = z) : Calls Tryz.prog 18 #[.agg #[.bool g, .slice A n c], .agg #[.bool g', .slice A' n' c']] X (GivesW X z) := by
  obtain ⟨⟨l, h1, h2, h3⟩, h4⟩ := h
  obtain ⟨⟨l', h1', h2', h3'⟩, h4'⟩ := h'
  have e := wadd_calls g g' A A' n c n' c' l l' X h1 h1' h2 h2' (by omega) (by omega)
  rw [h3, h3', hz] at e
  exact e
theorem n_sub {z : Int} (h : Nm X g A n c x) (h' : Nm X g' A' n' c' y) (hz : x - y = z) : Calls Tryz.prog 20 #[.agg #[.bool g, .slice A n c], .agg #[.bool g', .slice A' n' c']] X (GivesW X z) := by
  obtain ⟨⟨l, h1, h2, h3⟩, h4⟩ := h
  obtain ⟨⟨l', h1', h2', h3'⟩, h4'⟩ := h'
  have e := wsub_calls g g' A A' n c n' c' l l' X h1 h1' h2 h2' (by omega) (by omega)
  rw [h3, h3', hz] at e
  exact e
theorem n_mul {z : Int} (h : Nm X g A n c x) (h' : Nm X g' A' n' c' y) (hz : x * y = z) : Calls Tryz.prog 21 #[.agg #[.bool g, .slice A n c], .agg #[.bool g', .slice A' n' c']] X (GivesW X z) := by
  obtain ⟨⟨l, h1, h2, h3⟩, h4⟩ := h
  obtain ⟨⟨l', h1', h2', h3'⟩, h4'⟩ := h'
  have e := Wh.mul_calls g g' A A' n c n' c' l l' X h1 h1' h2 h2' (by omega) (by omega)
  rw [h3, h3', hz] at e
  exact e
theorem n_neg {z : Int} (h : Nm X g A n c x) (hz : -x = z) : Calls Tryz.prog 16 #[.agg #[.bool g, .slice A n c]] X (GivesW X z) := by
  obtain ⟨⟨l, h1, h2, h3⟩, h4⟩ := h
  have e := neg_calls g A n c l X h1 h2 (by omega)
  rw [h3, hz] at e
  exact e
theorem n_make (h : Nm X g A n c x) : Calls Tryz.prog 15 #[.bool g, .slice A n c] X (GivesW X x) := by
  obtain ⟨⟨l, h1, h2, h3⟩, h4⟩ := h
  have e := make_calls g A n c l X h1 h2 (by omega)
  rw [h3] at e
  exact e
theorem n_cmp {k : Int} (h : Nm X g A n c x) (h' : Nm X g' A' n' c' y) (hk : icmp x y = k) : Calls Tryz.prog 23 #[.agg #[.bool g, .slice A n c], .agg #[.bool g', .slice A' n' c']] X fun e w' => e = .returned (.int .i64 k) ∧ Below X.heap.size X w' := by
  obtain ⟨⟨l, h1, h2, h3⟩, h4⟩ := h
  obtain ⟨⟨l', h1', h2', h3'⟩, h4'⟩ := h'
  have e := wcmp_calls g g' A A' n c n' c' l l' X h1 h1' h2 h2' (by omega) (by omega)
  rw [h3, h3', hk] at e
  exact e
theorem n_div (h : Nm X g A n c x) (h' : Nm X g' A' n' c' y) (hy : y ≠ 0) : Calls Tryz.prog 25 #[.agg #[.bool g, .slice A n c], .agg #[.bool g', .slice A' n' c']] X (GivesDM X (x / y) (x % y)) := by
  obtain ⟨⟨l, h1, h2, h3⟩, h4⟩ := h
  obtain ⟨⟨l', h1', h2', h3'⟩, h4'⟩ := h'
  have e := wdivmod_calls g g' A A' n c n' c' l l' X h1 h1' h2 h2' (by omega) (by omega) (fun e0 => hy (by rw [← h3', e0]; cases g' <;> rfl))
  rw [h3, h3'] at e
  exact e
theorem n_div0 (h : Nm X g A n c x) (h' : Nm X g' A' n' c' y) (hy : y = 0) : Calls Tryz.prog 25 #[.agg #[.bool g, .slice A n c], .agg #[.bool g', .slice A' n' c']] X fun e w' =>
      e = .returned (.tuple #[.agg #[.bool false, .slice none 0 0], .agg #[.bool false, .slice none 0 0], .int .i64 22]) ∧ Below X.heap.size X w' := by
  obtain ⟨⟨l, h1, h2, h3⟩, h4⟩ := h
  obtain ⟨⟨l', h1', h2', h3'⟩, h4'⟩ := h'
  exact wdivmod_zero g g' A A' n c n' c' l l' X h1 h1' h2' (by
    have := sg_abs g' (val U l')
    rw [h3', hy] at this
    exact this.symm)
theorem n_lt (h : SI X .u64 A n c (digs U x.natAbs)) (h' : Nm X g' A' n' c' y) (hlt : x.natAbs < y.natAbs) : Calls Tryz.prog 40 #[.slice A n c, .slice A' n' c'] X fun e w' => e = .returned (.int .i64 (-1)) ∧ Drawn X w' := by
  obtain ⟨⟨l', h1', h2', h3'⟩, h4'⟩ := h'
  have e := Nat.cmp_calls A A' n c n' c' (digs U x.natAbs) l' X h h1' (dl _) h2'
  have h5 := sg_abs g' (val U l')
  rw [h3'] at h5
  rw [val_digs U_two, ← h5, show cmp x.natAbs y.natAbs = -1 by unfold cmp; rw [if_pos hlt]] at e
  exact e
theorem n_zero (X : World) : Nm X false none 0 0 0 := ⟨⟨[], SI.nil _ _ _ _ (by omega), fun x hx => by simp at hx, rfl⟩, by omega⟩
theorem n_same (z : Int) (h : SI X .u64 A n c (digs U z.natAbs)) (h' : SI X .u64 A' n' c' (digs U z.natAbs)) : Calls Tryz.prog 26 #[.agg #[.bool (decide (z < 0)), .slice A n c], .agg #[.bool (decide (z < 0)), .slice A' n' c']] X fun e w' => e = .returned (.bool true) ∧ Below X.heap.size X w' :=
  Rw.same_calls _ A A' n c n' c' _ X h h'
theorem n_same0 {z : Int} (hz : z = 0) (h : SI X .u64 A n c (digs U z.natAbs)) : Calls Tryz.prog 26 #[.agg #[.bool (decide (z < 0)), .slice A n c], .agg #[.bool false, .slice none 0 0]] X fun e w' => e = .returned (.bool true) ∧ Below X.heap.size X w' := by
  subst hz
  have h0 := h
  rw [show digs U (0 : Int).natAbs = [] from digs_zero U] at h0
  exact Rw.same_calls false A none n c 0 0 [] X h0 (SI.nil _ _ _ _ (by omega))
end
theorem emod_ltR (x : Int) {y : Int} (h : y ≠ 0) : x % y < (y.natAbs : Int) := by
  rcases Int.lt_or_gt_of_ne h with z | z
  · have e := Int.emod_lt_of_pos x (show (0 : Int) < -y by omega)
    rw [Int.emod_neg] at e
    omega
  · have e := Int.emod_lt_of_pos x z
    omega
theorem ediv_leR (x y : Int) : (x / y).natAbs ≤ x.natAbs := by
  exact Int.natAbs_ediv_le_natAbs x y
def Sz (M : Nat) (x : Int) : Prop := (digs U x.natAbs).length ≤ M
theorem Sz.add {M : Nat} {x y : Int} (h : Sz M x) (h' : Sz M y) : Sz (M + 1) (x + y) := by
  have h1 := (digs_length_le U_two _ _).1 h
  have h2 := (digs_length_le U_two _ _).1 h'
  refine (digs_length_le U_two _ _).2 ?_
  have p3 : U ^ M * 2 ≤ U ^ (M + 1) := by rw [Nat.pow_succ]; exact Nat.mul_le_mul_left _ U_two
  have h3 : (x + y).natAbs ≤ x.natAbs + y.natAbs := Int.natAbs_add_le x y
  generalize U ^ M = P at *
  omega
theorem Sz.neg {M : Nat} {x : Int} (h : Sz M x) : Sz M (-x) := by unfold Sz; rw [Int.natAbs_neg]; exact h
theorem Sz.sub {M : Nat} {x y : Int} (h : Sz M x) (h' : Sz M y) : Sz (M + 1) (x - y) := by rw [Int.sub_eq_add_neg]; exact h.add h'.neg
theorem Sz.mul {M K : Nat} {x y : Int} (h : Sz M x) (h' : Sz K y) : Sz (M + K) (x * y) := by
  have h1 := (digs_length_le U_two _ _).1 h
  have h2 := (digs_length_le U_two _ _).1 h'
  refine (digs_length_le U_two _ _).2 ?_
  rw [Int.natAbs_mul, Nat.pow_add]
  exact Nat.mul_lt_mul'' h1 h2
theorem Sz.up {M K : Nat} {x : Int} (h : Sz M x) (hk : M ≤ K) : Sz K x := Nat.le_trans h hk
theorem Sz.le {x y : Int} {M : Nat} (h : Sz M y) (hl : x.natAbs ≤ y.natAbs) : Sz M x := Nat.le_trans (digs_length_mono U_two hl) h
theorem n_div1 {X : World} {g g' : Bool} {A A' : Option Addr} {n c n' c' : Nat} {x y q r : Int} (h : Nm X g A n c x) (h' : Nm X g' A' n' c' y) (hy : y ≠ 0) (hq : x / y = q) (hr : x % y = r) : Calls Tryz.prog 25 #[.agg #[.bool g, .slice A n c], .agg #[.bool g', .slice A' n' c']] X fun e w' =>
      ∃ A n c A' n' c', e = .returned (.tuple #[.agg #[.bool (decide (q < 0)), .slice A n c], .agg #[.bool false, .slice A' n' c'], .int .i64 0]) ∧ SI w' .u64 A n c (digs U q.natAbs) ∧ SI w' .u64 A' n' c' (digs U r.natAbs) ∧ Below X.heap.size X w' := by
  refine (n_div h h' hy).mono ?_
  rintro e w' ⟨A, n, c, A', n', c', rfl, h1, h2, _, _, h3⟩
  rw [hq] at h1 ⊢
  rw [hr] at h2 ⊢
  refine ⟨A, n, c, A', n', c', ?_, h1, h2, h3⟩
  have hn : 0 ≤ r := hr ▸ Int.emod_nonneg x hy
  rw [show decide (r < 0) = false from decide_eq_false (by omega)]
theorem nm_pos {X : World} {z : Int} {A : Option Addr} {n c : Nat} (h : SI X .u64 A n c (digs U z.natAbs)) (h0 : 0 ≤ z) (hz : (digs U z.natAbs).length ≤ 8388608) : Nm X false A n c z := by
  have e := nm_of h hz
  rw [show decide (z < 0) = false from decide_eq_false (by omega)] at e
  exact e
/-- what the law holds on to behind the division -/
structure RH (w X : World) (g7 g8 : Nat) (ga : Bool) (Aa : Option Addr) (na ca : Nat) (gb : Bool) (Ab : Option Addr) (nb cb : Nat) (gc : Bool) (Ac : Option Addr) (nc cc : Nat) (v1 v2 : Int) (P1 : Option Addr) (p1 q1 : Nat) (P2 : Option Addr) (p2 q2 : Nat) : Prop where
  p : P3 w X ga Aa na ca gb Ab nb cb gc Ac nc cc
  j7 : Two X g7 24 (.bool (decide (v1 < 0))) (.slice P1 p1 q1)
  j8 : Two X g8 24 (.bool false) (.slice P2 p2 q2)
  r7 : SI X .u64 P1 p1 q1 (digs U v1.natAbs)
  r8 : SI X .u64 P2 p2 q2 (digs U v2.natAbs)
def C8 (w : World) (g g7 g8 : Nat) (u v u' v' s1 t1 s2 t2 : Value) : Prop := w.cell? ⟨g, 0, none⟩ = some u ∧ w.cell? ⟨g, 1, none⟩ = some v ∧ w.cell? ⟨g + 1, 0, none⟩ = some u' ∧ w.cell? ⟨g + 1, 1, none⟩ = some v' ∧
  w.cell? ⟨g7, 0, none⟩ = some s1 ∧ w.cell? ⟨g7, 1, none⟩ = some t1 ∧ w.cell? ⟨g8, 0, none⟩ = some s2 ∧ w.cell? ⟨g8, 1, none⟩ = some t2
section
variable {w X X' : World} {g7 g8 : Nat} {ga : Bool} {Aa : Option Addr} {na ca : Nat} {gb : Bool} {Ab : Option Addr} {nb cb : Nat} {gc : Bool} {Ac : Option Addr} {nc cc : Nat} {v1 v2 : Int} {P1 : Option Addr} {p1 q1 : Nat} {P2 : Option Addr} {p2 q2 : Nat}
theorem RH.below (h : RH w X g7 g8 ga Aa na ca gb Ab nb cb gc Ac nc cc v1 v2 P1 p1 q1 P2 p2 q2) (hb : Below X.heap.size X X') : RH w X' g7 g8 ga Aa na ca gb Ab nb cb gc Ac nc cc v1 v2 P1 p1 q1 P2 p2 q2 :=
  ⟨h.p.below hb, h.j7.below hb, h.j8.below hb, h.r7.below hb, h.r8.below hb⟩
theorem RH.s10 (h : RH w X g7 g8 ga Aa na ca gb Ab nb cb gc Ac nc cc v1 v2 P1 p1 q1 P2 p2 q2) : C8 X w.heap.size g7 g8 (.bool ga) (.slice Aa na ca) (.bool gb) (.slice Ab nb cb) (.bool (decide (v1 < 0))) (.slice P1 p1 q1) (.bool false) (.slice P2 p2 q2) :=
  ⟨h.p.a.c0, h.p.a.c1, h.p.b.c0, h.p.b.c1, h.j7.c0, h.j7.c1, h.j8.c0, h.j8.c1⟩
end
theorem wholeRing_end (x y : Int) (Sx : Sz 1048576 x) (Sy : Sz 1048576 y) (hy : y ≠ 0) : ∃ q r t : Int, x / y = q ∧ x % y = r ∧ q * y = t ∧ t + r = x ∧ 0 ≤ r ∧ r.natAbs < y.natAbs ∧ Sz 8388608 q ∧ Sz 8388608 r ∧ Sz 8388608 t := by
  have h1 : y * (x / y) + x % y = x := Int.mul_ediv_add_emod x y
  rw [Int.mul_comm] at h1
  have h2 := Int.emod_nonneg x hy
  have h3 := emod_ltR x hy
  have h4 := ediv_leR x y
  generalize x / y = q at *
  generalize x % y = r at *
  have hr : r.natAbs < y.natAbs := by omega
  have sr : Sz 1048576 r := Sz.le Sy (by omega)
  refine ⟨q, r, q * y, rfl, rfl, rfl, h1, h2, hr, (Sz.le Sx h4).up (by omega), sr.up (by omega), ?_⟩
  have e : q * y = x - r := by omega
  rw [e]
  exact (Sx.sub sr).up (by omega)
/-- what the law holds on to behind its third region -/
structure RG (w X : World) (g7 g8 : Nat) (ga : Bool) (Aa : Option Addr) (na ca : Nat) (gb : Bool) (Ab : Option Addr) (nb cb : Nat) (gc : Bool) (Ac : Option Addr) (nc cc : Nat) (v1 v2 : Int) (P1 : Option Addr) (p1 q1 : Nat) (P2 : Option Addr) (p2 q2 : Nat) : Prop where
  p : P3 w X ga Aa na ca gb Ab nb cb gc Ac nc cc
  j7 : Two X g7 24 (.bool (decide (v1 < 0))) (.slice P1 p1 q1)
  j8 : Two X g8 24 (.bool (decide (v2 < 0))) (.slice P2 p2 q2)
  r7 : SI X .u64 P1 p1 q1 (digs U v1.natAbs)
  r8 : SI X .u64 P2 p2 q2 (digs U v2.natAbs)
def C10 (w : World) (g g7 g8 : Nat) (u v u' v' s t s1 t1 s2 t2 : Value) : Prop := w.cell? ⟨g, 0, none⟩ = some u ∧ w.cell? ⟨g, 1, none⟩ = some v ∧ w.cell? ⟨g + 1, 0, none⟩ = some u' ∧ w.cell? ⟨g + 1, 1, none⟩ = some v' ∧ w.cell? ⟨g + 1 + 1, 0, none⟩ = some s ∧ w.cell? ⟨g + 1 + 1, 1, none⟩ = some t ∧
  w.cell? ⟨g7, 0, none⟩ = some s1 ∧ w.cell? ⟨g7, 1, none⟩ = some t1 ∧ w.cell? ⟨g8, 0, none⟩ = some s2 ∧ w.cell? ⟨g8, 1, none⟩ = some t2
section
variable {w X X' : World} {g7 g8 : Nat} {ga : Bool} {Aa : Option Addr} {na ca : Nat} {gb : Bool} {Ab : Option Addr} {nb cb : Nat} {gc : Bool} {Ac : Option Addr} {nc cc : Nat} {v1 v2 : Int} {P1 : Option Addr} {p1 q1 : Nat} {P2 : Option Addr} {p2 q2 : Nat}
theorem RG.below (h : RG w X g7 g8 ga Aa na ca gb Ab nb cb gc Ac nc cc v1 v2 P1 p1 q1 P2 p2 q2) (hb : Below X.heap.size X X') : RG w X' g7 g8 ga Aa na ca gb Ab nb cb gc Ac nc cc v1 v2 P1 p1 q1 P2 p2 q2 :=
  ⟨h.p.below hb, h.j7.below hb, h.j8.below hb, h.r7.below hb, h.r8.below hb⟩
theorem RG.s10 (h : RG w X g7 g8 ga Aa na ca gb Ab nb cb gc Ac nc cc v1 v2 P1 p1 q1 P2 p2 q2) : C10 X w.heap.size g7 g8 (.bool ga) (.slice Aa na ca) (.bool gb) (.slice Ab nb cb) (.bool gc) (.slice Ac nc cc) (.bool (decide (v1 < 0))) (.slice P1 p1 q1) (.bool (decide (v2 < 0))) (.slice P2 p2 q2) :=
  ⟨h.p.a.c0, h.p.a.c1, h.p.b.c0, h.p.b.c1, h.p.c.c0, h.p.c.c1, h.j7.c0, h.j7.c1, h.j8.c0, h.j8.c1⟩
end
set_option maxHeartbeats 64000000 in
set_option maxRecDepth 100000 in
theorem wholeRing_calls (ga gb gc : Bool) (Aa Ab Ac : Option Addr) (na ca nb cb nc cc : Nat) (la lb lc : List Nat) (w : World) (ha : SI w .u64 Aa na ca la) (hb : SI w .u64 Ab nb cb lb) (hc : SI w .u64 Ac nc cc lc) (hla : Lt U la) (hlb : Lt U lb) (hlc : Lt U lc) (hna : na ≤ 1048576) (hnb : nb ≤ 1048576) (hnc : nc ≤ 1048576) (hp : Pow w) :
    Calls Tryz.prog 9 #[.agg #[.bool ga, .slice Aa na ca], .agg #[.bool gb, .slice Ab nb cb], .agg #[.bool gc, .slice Ac nc cc]] w fun e w' => e = .returned (.bool true) ∧ Below w.heap.size w w' := by
  have HP := Lib.hid hp
  have C0 := P3.start w ga Aa na ca gb Ab nb cb gc Ac nc cc
  have sx : Sz 1048576 (sg ga (val U la)) := by unfold Sz; rw [sg_abs]; exact digs_len_le hla ha.len hna
  have sy : Sz 1048576 (sg gb (val U lb)) := by unfold Sz; rw [sg_abs]; exact digs_len_le hlb hb.len hnb
  have sz : Sz 1048576 (sg gc (val U lc)) := by unfold Sz; rw [sg_abs]; exact digs_len_le hlc hc.len hnc
  have na0 : Nm w ga Aa na ca (sg ga (val U la)) := ⟨⟨la, ha, hla, rfl⟩, by omega⟩
  have nb0 : Nm w gb Ab nb cb (sg gb (val U lb)) := ⟨⟨lb, hb, hlb, rfl⟩, by omega⟩
  have nc0 : Nm w gc Ac nc cc (sg gc (val U lc)) := ⟨⟨lc, hc, hlc, rfl⟩, by omega⟩
  clear ha hb hc hla hlb hlc hp
  generalize sg ga (val U la) = x at *
  generalize sg gb (val U lb) = y at *
  generalize sg gc (val U lc) = z at *
  have q1 := sx.mul sy
  obtain ⟨v1, e1⟩ : ∃ t, x * y = t := ⟨_, rfl⟩
  rw [e1] at q1
  have s1 := q1.up (Nat.le_refl _)
  have S1 : Hid (Sz 8388608 v1) := q1.up (by omega)
  have q2 := sy.add sz
  obtain ⟨v2, e2⟩ : ∃ t, y + z = t := ⟨_, rfl⟩
  rw [e2] at q2
  have s2 := q2.up (Nat.le_refl _)
  have S2 : Hid (Sz 8388608 v2) := q2.up (by omega)
  have q3 := (sx.up (by omega)).add s2
  obtain ⟨v3, e3⟩ : ∃ t, x + v2 = t := ⟨_, rfl⟩
  rw [e3] at q3
  have s3 := q3.up (Nat.le_refl _)
  have S3 : Hid (Sz 8388608 v3) := q3.up (by omega)
  have q4 := sx.add sy
  obtain ⟨v4, e4⟩ : ∃ t, x + y = t := ⟨_, rfl⟩
  rw [e4] at q4
  have s4 := q4.up (Nat.le_refl _)
  have S4 : Hid (Sz 8388608 v4) := q4.up (by omega)
  have q5 := sy.mul sz
  obtain ⟨v5, e5⟩ : ∃ t, y * z = t := ⟨_, rfl⟩
  rw [e5] at q5
  have s5 := q5.up (Nat.le_refl _)
  have S5 : Hid (Sz 8388608 v5) := q5.up (by omega)
  have q6 := sx.mul s5
  obtain ⟨v6, e6⟩ : ∃ t, x * v5 = t := ⟨_, rfl⟩
  rw [e6] at q6
  have s6 := q6.up (Nat.le_refl _)
  have S6 : Hid (Sz 8388608 v6) := q6.up (by omega)
  have q7 := sx.mul s2
  obtain ⟨v7, e7⟩ : ∃ t, x * v2 = t := ⟨_, rfl⟩
  rw [e7] at q7
  have s7 := q7.up (Nat.le_refl _)
  have S7 : Hid (Sz 8388608 v7) := q7.up (by omega)
  have q8 := sx.mul sz
  obtain ⟨v8, e8⟩ : ∃ t, x * z = t := ⟨_, rfl⟩
  rw [e8] at q8
  have s8 := q8.up (Nat.le_refl _)
  have S8 : Hid (Sz 8388608 v8) := q8.up (by omega)
  have q9 := sx.sub sy
  obtain ⟨v9, e9⟩ : ∃ t, x - y = t := ⟨_, rfl⟩
  rw [e9] at q9
  have s9 := q9.up (Nat.le_refl _)
  have S9 : Hid (Sz 8388608 v9) := q9.up (by omega)
  have q10 := sy.neg
  obtain ⟨v10, e10⟩ : ∃ t, -y = t := ⟨_, rfl⟩
  rw [e10] at q10
  have s10 := q10.up (Nat.le_refl _)
  have S10 : Hid (Sz 8388608 v10) := q10.up (by omega)
  have q11 := sx.neg
  obtain ⟨v11, e11⟩ : ∃ t, -x = t := ⟨_, rfl⟩
  rw [e11] at q11
  have s11 := q11.up (Nat.le_refl _)
  have S11 : Hid (Sz 8388608 v11) := q11.up (by omega)
  have q12 := s11.mul sy
  obtain ⟨v12, e12⟩ : ∃ t, v11 * y = t := ⟨_, rfl⟩
  rw [e12] at q12
  have s12 := q12.up (Nat.le_refl _)
  have S12 : Hid (Sz 8388608 v12) := q12.up (by omega)
  have q13 := sx.add sz
  obtain ⟨v13, e13⟩ : ∃ t, x + z = t := ⟨_, rfl⟩
  rw [e13] at q13
  have s13 := q13.up (Nat.le_refl _)
  have S13 : Hid (Sz 8388608 v13) := q13.up (by omega)
  have q14 := sx.sub sx
  obtain ⟨v14, e14⟩ : ∃ t, x - x = t := ⟨_, rfl⟩
  rw [e14] at q14
  have s14 := q14.up (Nat.le_refl _)
  have S14 : Hid (Sz 8388608 v14) := q14.up (by omega)
  have i1 : y * x = v1 := by rw [← e1, Int.mul_comm]
  have i2 : z + y = v2 := by rw [← e2, Int.add_comm]
  have i3 : v4 + z = v3 := by rw [← e3, ← e4, ← e2, Int.add_assoc]
  have i6 : v1 * z = v6 := by rw [← e6, ← e1, ← e5, Int.mul_assoc]
  have i7 : v1 + v8 = v7 := by rw [← e7, ← e1, ← e8, ← e2, Int.mul_add]
  have i9 : x + v10 = v9 := by rw [← e9, ← e10, Int.sub_eq_add_neg]
  have i12 : -v1 = v12 := by rw [← e12, ← e11, ← e1, Int.neg_mul]
  have i0 : v14 = 0 := by rw [← e14, Int.sub_self]
  have i13 : icmp v13 v2 = icmp x y := by
    unfold icmp
    have a1 : (v13 < v2) ↔ (x < y) := by omega
    have a2 : (v2 < v13) ↔ (y < x) := by omega
    simp only [a1, a2]
  obtain ⟨kk, hkk⟩ : ∃ k, icmp x y = k := ⟨_, rfl⟩
  rw [hkk] at i13
  have hHM1 := fun (X : World) (b : Below w.heap.size w X) => n_mul (na0.below b) (nb0.below b) e1
  have hHA1 := fun (X : World) (b : Below w.heap.size w X) => n_add (nb0.below b) (nc0.below b) e2
  have hHM2 := fun (X : World) (b : Below w.heap.size w X) => n_mul (nb0.below b) (na0.below b) i1
  have hHA2 := fun (X : World) (b : Below w.heap.size w X) => n_add (nc0.below b) (nb0.below b) i2
  have hHA3 := fun (X : World) (b : Below w.heap.size w X) (P1 : Option Addr) (p1 q1 : Nat) (h1 : SI X .u64 P1 p1 q1 (digs U v2.natAbs)) => n_add (na0.below b) (nm_of h1 S2.out) e3
  have hHA4 := fun (X : World) (b : Below w.heap.size w X) => n_add (na0.below b) (nb0.below b) e4
  have hHA5 := fun (X : World) (b : Below w.heap.size w X) (P1 : Option Addr) (p1 q1 : Nat) (h1 : SI X .u64 P1 p1 q1 (digs U v4.natAbs)) => n_add (nm_of h1 S4.out) (nc0.below b) i3
  have hHM3 := fun (X : World) (b : Below w.heap.size w X) => n_mul (nb0.below b) (nc0.below b) e5
  have hHM4 := fun (X : World) (b : Below w.heap.size w X) (P1 : Option Addr) (p1 q1 : Nat) (h1 : SI X .u64 P1 p1 q1 (digs U v5.natAbs)) => n_mul (na0.below b) (nm_of h1 S5.out) e6
  have hHM5 := fun (X : World) (b : Below w.heap.size w X) (P1 : Option Addr) (p1 q1 : Nat) (h1 : SI X .u64 P1 p1 q1 (digs U v1.natAbs)) => n_mul (nm_of h1 S1.out) (nc0.below b) i6
  have hHM6 := fun (X : World) (b : Below w.heap.size w X) (P1 : Option Addr) (p1 q1 : Nat) (h1 : SI X .u64 P1 p1 q1 (digs U v2.natAbs)) => n_mul (na0.below b) (nm_of h1 S2.out) e7
  have hHM7 := fun (X : World) (b : Below w.heap.size w X) => n_mul (na0.below b) (nc0.below b) e8
  have hHA6 := fun (X : World) (P1 : Option Addr) (p1 q1 : Nat) (h1 : SI X .u64 P1 p1 q1 (digs U v1.natAbs)) (P2 : Option Addr) (p2 q2 : Nat) (h2 : SI X .u64 P2 p2 q2 (digs U v8.natAbs)) => n_add (nm_of h1 S1.out) (nm_of h2 S8.out) i7
  have hHS1 := fun (X : World) (b : Below w.heap.size w X) => n_sub (na0.below b) (nb0.below b) e9
  have hHN1 := fun (X : World) (b : Below w.heap.size w X) => n_neg (nb0.below b) e10
  have hHA7 := fun (X : World) (b : Below w.heap.size w X) (P1 : Option Addr) (p1 q1 : Nat) (h1 : SI X .u64 P1 p1 q1 (digs U v10.natAbs)) => n_add (na0.below b) (nm_of h1 S10.out) i9
  have hHS2 := fun (X : World) (b : Below w.heap.size w X) => n_sub (na0.below b) (na0.below b) e14
  have hHZ := fun (X : World) (P1 : Option Addr) (p1 q1 : Nat) (h1 : SI X .u64 P1 p1 q1 (digs U v14.natAbs)) => n_same0 i0 h1
  have hHN2 := fun (X : World) (b : Below w.heap.size w X) => n_neg (na0.below b) e11
  have hHM8 := fun (X : World) (b : Below w.heap.size w X) (P1 : Option Addr) (p1 q1 : Nat) (h1 : SI X .u64 P1 p1 q1 (digs U v11.natAbs)) => n_mul (nm_of h1 S11.out) (nb0.below b) e12
  have hHN3 := fun (X : World) (P1 : Option Addr) (p1 q1 : Nat) (h1 : SI X .u64 P1 p1 q1 (digs U v1.natAbs)) => n_neg (nm_of h1 S1.out) i12
  have hHA8 := fun (X : World) (b : Below w.heap.size w X) => n_add (na0.below b) (nc0.below b) e13
  have hHC1 := fun (X : World) (P1 : Option Addr) (p1 q1 : Nat) (h1 : SI X .u64 P1 p1 q1 (digs U v13.natAbs)) (P2 : Option Addr) (p2 q2 : Nat) (h2 : SI X .u64 P2 p2 q2 (digs U v2.natAbs)) => n_cmp (nm_of h1 S13.out) (nm_of h2 S2.out) i13
  have hHC2 := fun (X : World) (b : Below w.heap.size w X) => n_cmp (na0.below b) (nb0.below b) hkk
  have hHMK := fun (X : World) (b : Below w.heap.size w X) => n_make (na0.below b)
  have HM1 := Lib.hid hHM1
  have HA1 := Lib.hid hHA1
  have HM2 := Lib.hid hHM2
  have HA2 := Lib.hid hHA2
  have HA3 := Lib.hid hHA3
  have HA4 := Lib.hid hHA4
  have HA5 := Lib.hid hHA5
  have HM3 := Lib.hid hHM3
  have HM4 := Lib.hid hHM4
  have HM5 := Lib.hid hHM5
  have HM6 := Lib.hid hHM6
  have HM7 := Lib.hid hHM7
  have HA6 := Lib.hid hHA6
  have HS1 := Lib.hid hHS1
  have HN1 := Lib.hid hHN1
  have HA7 := Lib.hid hHA7
  have HS2 := Lib.hid hHS2
  have HZ := Lib.hid hHZ
  have HN2 := Lib.hid hHN2
  have HM8 := Lib.hid hHM8
  have HN3 := Lib.hid hHN3
  have HA8 := Lib.hid hHA8
  have HC1 := Lib.hid hHC1
  have HC2 := Lib.hid hHC2
  have HMK := Lib.hid hHMK
  have NA := Lib.hid na0
  have NB := Lib.hid nb0
  have SX := Lib.hid sx
  have SY := Lib.hid sy
  clear hHM1 hHA1 hHM2 hHA2 hHA3 hHA4 hHA5 hHM3 hHM4 hHM5 hHM6 hHM7 hHA6 hHS1 hHN1 hHA7 hHS2 hHZ hHN2 hHM8 hHN3 hHA8 hHC1 hHC2 hHMK i1 i2 i3 i6 i7 i9 i12 i0 i13 hkk e1 s1 q1 e2 s2 q2 e3 s3 q3 e4 s4 q4 e5 s5 q5 e6 s6 q6 e7 s7 q7 e8 s8 q8 e9 s9 q9 e10 s10 q10 e11 s11 q11 e12 s12 q12 e13 s13 q13 e14 s14 q14 sx sy sz na0 nb0 nc0
  obtain ⟨W, hW⟩ : ∃ W, W = (((w.alloc (.cells #[.bool ga, .slice Aa na ca] 24)).alloc (.cells #[.bool gb, .slice Ab nb cb] 24)).alloc (.cells #[.bool gc, .slice Ac nc cc] 24)) := ⟨_, rfl⟩
  rw [← hW] at C0
  have HW := Lib.hid hW
  have HC0 := Lib.hid C0
  clear hW C0
  go_enter Tryz.func9, Tryz.ntmps9
  go_wp2_with (go_at_call 13; rw [← HW.out]; (with_reducible refine (awake_calls _ (HP.out.below HC0.out.bl)).mono ?_); rintro e w1 ⟨rfl, b1⟩)
  have C1 := HC0.out.below b1
  refine Go.Un.start_key (fun a' w' => ∃ (g7 g8 : Nat) (P1 : Option Addr) (p1 q1 : Nat) (P2 : Option Addr) (p2 q2 : Nat),
      a' = { tmps := #[.agg #[.bool ga, .slice Aa na ca], .agg #[.bool gb, .slice Ab nb cb], .agg #[.bool gc, .slice Ac nc cc], .pointer (some ⟨w.heap.size, 0, none⟩), .pointer (some ⟨w.heap.size + 1, 0, none⟩), .pointer (some ⟨w.heap.size + 1 + 1, 0, none⟩), .bool false, .pointer (some ⟨g7, 0, none⟩), .pointer (some ⟨g8, 0, none⟩),
        undef, undef, undef, .bool true, .bool false, .agg #[.bool ga, .slice Aa na ca], .agg #[.bool gb, .slice Ab nb cb], .agg #[.bool (decide (v1 < 0)), .slice P1 p1 q1], .agg #[.bool gb, .slice Ab nb cb], .agg #[.bool gc, .slice Ac nc cc], .agg #[.bool (decide (v2 < 0)), .slice P2 p2 q2],
        undef, undef, undef, undef, undef, undef, undef, undef, undef, undef, undef, undef, undef, undef, undef, undef, undef, undef, undef, undef, undef, undef, undef, undef, undef, undef, undef, undef, undef, undef, undef, undef, undef, undef, undef, undef, undef, undef, undef, undef, undef, undef, undef, undef, undef, undef, undef, undef, undef, undef, undef, undef, undef, undef, undef, undef, undef, undef, undef, undef, undef, undef, undef, undef, undef, undef, undef, undef, undef, undef, undef, undef, undef, undef, undef, undef, undef, undef, undef, undef, undef, undef, undef, undef, undef, undef, undef, undef, undef, undef, undef, undef, undef, undef, undef, undef, undef, undef, undef, undef, undef, undef, undef, undef, undef, undef, undef, undef, undef, undef, undef, undef, undef, undef, undef, undef, undef, undef, undef, undef, undef, undef, undef, undef, undef, undef, undef, undef, undef], defers := [] } ∧
      RG w w' g7 g8 ga Aa na ca gb Ab nb cb gc Ac nc cc v1 v2 P1 p1 q1 P2 p2 q2)
    (fun w' => C6 w' w.heap.size (.bool ga) (.slice Aa na ca) (.bool gb) (.slice Ab nb cb) (.bool gc) (.slice Ac nc cc)) [9] (by rfl) ?_ ?_
  · rintro a' w' ⟨g7, g8, P1, p1, q1, P2, p2, q2, rfl, Ez⟩
    have E0 := Ez.below (Below.refl w'.heap.size w').drew
    have kp := E0.s10
    unfold C10 at kp
    clear Ez
    go_wp2
    go_region_held3 (fun w' => w'.cell? ⟨w.heap.size, 0, none⟩ = some (.bool ga) ∧ w'.cell? ⟨w.heap.size, 1, none⟩ = some (.slice Aa na ca) ∧ w'.cell? ⟨w.heap.size + 1, 0, none⟩ = some (.bool gb) ∧ w'.cell? ⟨w.heap.size + 1, 1, none⟩ = some (.slice Ab nb cb) ∧ w'.cell? ⟨w.heap.size + 1 + 1, 0, none⟩ = some (.bool gc) ∧ w'.cell? ⟨w.heap.size + 1 + 1, 1, none⟩ = some (.slice Ac nc cc) ∧ w'.cell? ⟨g7, 0, none⟩ = some (.bool (decide (v1 < 0))) ∧ w'.cell? ⟨g7, 1, none⟩ = some (.slice P1 p1 q1) ∧ w'.cell? ⟨g8, 0, none⟩ = some (.bool (decide (v2 < 0))) ∧ w'.cell? ⟨g8, 1, none⟩ = some (.slice P2 p2 q2))
      (first
        | exact kp
        | exact k1
        | exact k2
        | exact k3
        | exact k4
        | exact k5
        | exact k6
        | exact k7
        | exact k8
        | exact k9
        | exact k10
        | exact k11
        | exact k12
        | exact k13
        | exact k14
        | exact k15
        | exact k16)
      (first
        | (go_at_call 21; first
          | ((with_reducible refine (HM2.out _ E0.p.bl).mono ?_); rintro e u1 ⟨Y1, y1, x1, rfl, r1, _, m1⟩; have E1 := E0.below m1; have k1 := E1.s10)
          | ((with_reducible refine (HM3.out _ E8.p.bl).mono ?_); rintro e u9 ⟨Y9, y9, x9, rfl, r9, _, m9⟩; have E9 := E8.below m9; have k9 := E9.s10)
          | ((with_reducible refine (HM4.out _ E9.p.bl Y9 y9 x9 r9).mono ?_); rintro e u10 ⟨Y10, y10, x10, rfl, r10, _, m10⟩; have E10 := E9.below m10; have k10 := E10.s10)
          | ((with_reducible refine (HM5.out _ E10.p.bl P1 p1 q1 E10.r7).mono ?_); rintro e u11 ⟨Y11, y11, x11, rfl, r11, _, m11⟩; have E11 := E10.below m11; have k11 := E11.s10)
          | ((with_reducible refine (HM6.out _ E12.p.bl P2 p2 q2 E12.r8).mono ?_); rintro e u13 ⟨Y13, y13, x13, rfl, r13, _, m13⟩; have E13 := E12.below m13; have k13 := E13.s10)
          | ((with_reducible refine (HM7.out _ E13.p.bl).mono ?_); rintro e u14 ⟨Y14, y14, x14, rfl, r14, _, m14⟩; have E14 := E13.below m14; have k14 := E14.s10))
        | (go_at_call 26; first
          | ((with_reducible refine (n_same v1 E1.r7 r1).mono ?_); rintro e u2 ⟨rfl, m2⟩; have E2 := E1.below m2; have k2 := E2.s10)
          | ((with_reducible refine (n_same v2 E3.r8 r3).mono ?_); rintro e u4 ⟨rfl, m4⟩; have E4 := E3.below m4; have k4 := E4.s10)
          | ((with_reducible refine (n_same v3 ((r5.below m6).below m7) r7).mono ?_); rintro e u8 ⟨rfl, m8⟩; have E8 := E7.below m8; have k8 := E8.s10)
          | ((with_reducible refine (n_same v6 (r10.below m11) r11).mono ?_); rintro e u12 ⟨rfl, m12⟩; have E12 := E11.below m12; have k12 := E12.s10)
          | ((with_reducible refine (n_same v7 ((r13.below m14).below m15) r15).mono ?_); rintro e u16 ⟨rfl, m16⟩; have E16 := E15.below m16; have k16 := E16.s10))
        | (go_at_call 18; first
          | ((with_reducible refine (HA2.out _ E2.p.bl).mono ?_); rintro e u3 ⟨Y3, y3, x3, rfl, r3, _, m3⟩; have E3 := E2.below m3; have k3 := E3.s10)
          | ((with_reducible refine (HA3.out _ E4.p.bl P2 p2 q2 E4.r8).mono ?_); rintro e u5 ⟨Y5, y5, x5, rfl, r5, _, m5⟩; have E5 := E4.below m5; have k5 := E5.s10)
          | ((with_reducible refine (HA4.out _ E5.p.bl).mono ?_); rintro e u6 ⟨Y6, y6, x6, rfl, r6, _, m6⟩; have E6 := E5.below m6; have k6 := E6.s10)
          | ((with_reducible refine (HA5.out _ E6.p.bl Y6 y6 x6 r6).mono ?_); rintro e u7 ⟨Y7, y7, x7, rfl, r7, _, m7⟩; have E7 := E6.below m7; have k7 := E7.s10)
          | ((with_reducible refine (HA6.out _ P1 p1 q1 E14.r7 Y14 y14 x14 r14).mono ?_); rintro e u15 ⟨Y15, y15, x15, rfl, r15, _, m15⟩; have E15 := E14.below m15; have k15 := E15.s10)))
    clear kp k1 k2 k3 k4 k5 k6 k7 k8 k9 k10 k11 k12 k13 k14 k15 m1 m2 m3 m4 m5 m6 m7 m8 m9 m10 m11 m12 m13 m14 m15 m16 E0 E1 E2 E3 E4 E5 E6 E7 E8 E9 E10 E11 E12 E13 E14 E15
    have E20 := E16.below (Below.refl u16.heap.size u16).drew
    have kq := E20.s10
    unfold C10 at kq
    go_wp2
    go_region_held3 (fun w' => w'.cell? ⟨w.heap.size, 0, none⟩ = some (.bool ga) ∧ w'.cell? ⟨w.heap.size, 1, none⟩ = some (.slice Aa na ca) ∧ w'.cell? ⟨w.heap.size + 1, 0, none⟩ = some (.bool gb) ∧ w'.cell? ⟨w.heap.size + 1, 1, none⟩ = some (.slice Ab nb cb) ∧ w'.cell? ⟨w.heap.size + 1 + 1, 0, none⟩ = some (.bool gc) ∧ w'.cell? ⟨w.heap.size + 1 + 1, 1, none⟩ = some (.slice Ac nc cc) ∧ w'.cell? ⟨g7, 0, none⟩ = some (.bool (decide (v1 < 0))) ∧ w'.cell? ⟨g7, 1, none⟩ = some (.slice P1 p1 q1) ∧ w'.cell? ⟨g8, 0, none⟩ = some (.bool (decide (v2 < 0))) ∧ w'.cell? ⟨g8, 1, none⟩ = some (.slice P2 p2 q2))
      (first
        | exact kq
        | exact k21
        | exact k22
        | exact k23
        | exact k24
        | exact k25
        | exact k26
        | exact k27
        | exact k28
        | exact k29
        | exact k30
        | exact k31
        | exact k32
        | exact k33)
      (first
        | (go_at_call 20; first
          | ((with_reducible refine (HS1.out _ E20.p.bl).mono ?_); rintro e u21 ⟨Y21, y21, x21, rfl, r21, _, m21⟩; have E21 := E20.below m21; have k21 := E21.s10)
          | ((with_reducible refine (HS2.out _ E24.p.bl).mono ?_); rintro e u25 ⟨Y25, y25, x25, rfl, r25, _, m25⟩; have E25 := E24.below m25; have k25 := E25.s10))
        | (go_at_call 16; first
          | ((with_reducible refine (HN1.out _ E21.p.bl).mono ?_); rintro e u22 ⟨Y22, y22, x22, rfl, r22, _, m22⟩; have E22 := E21.below m22; have k22 := E22.s10)
          | ((with_reducible refine (HN2.out _ E26.p.bl).mono ?_); rintro e u27 ⟨Y27, y27, x27, rfl, r27, _, m27⟩; have E27 := E26.below m27; have k27 := E27.s10)
          | ((with_reducible refine (HN3.out _ P1 p1 q1 E28.r7).mono ?_); rintro e u29 ⟨Y29, y29, x29, rfl, r29, _, m29⟩; have E29 := E28.below m29; have k29 := E29.s10))
        | (go_at_call 18; first
          | ((with_reducible refine (HA7.out _ E22.p.bl Y22 y22 x22 r22).mono ?_); rintro e u23 ⟨Y23, y23, x23, rfl, r23, _, m23⟩; have E23 := E22.below m23; have k23 := E23.s10)
          | ((with_reducible refine (HA8.out _ E30.p.bl).mono ?_); rintro e u31 ⟨Y31, y31, x31, rfl, r31, _, m31⟩; have E31 := E30.below m31; have k31 := E31.s10))
        | (go_at_call 26; first
          | ((with_reducible refine (n_same v9 ((r21.below m22).below m23) r23).mono ?_); rintro e u24 ⟨rfl, m24⟩; have E24 := E23.below m24; have k24 := E24.s10)
          | ((with_reducible refine (HZ.out _ Y25 y25 x25 r25).mono ?_); rintro e u26 ⟨rfl, m26⟩; have E26 := E25.below m26; have k26 := E26.s10)
          | ((with_reducible refine (n_same v12 (r28.below m29) r29).mono ?_); rintro e u30 ⟨rfl, m30⟩; have E30 := E29.below m30; have k30 := E30.s10))
        | (go_at_call 21; first
          | ((with_reducible refine (HM8.out _ E27.p.bl Y27 y27 x27 r27).mono ?_); rintro e u28 ⟨Y28, y28, x28, rfl, r28, _, m28⟩; have E28 := E27.below m28; have k28 := E28.s10))
        | (go_at_call 23; first
          | ((with_reducible refine (HC1.out _ Y31 y31 x31 r31 P2 p2 q2 E31.r8).mono ?_); rintro e u32 ⟨rfl, m32⟩; have E32 := E31.below m32; have k32 := E32.s10)
          | ((with_reducible refine (HC2.out _ E32.p.bl).mono ?_); rintro e u33 ⟨rfl, m33⟩; have E33 := E32.below m33; have k33 := E33.s10)))
    clear kq k21 k22 k23 k24 k25 k26 k27 k28 k29 k30 k31 k32 m21 m22 m23 m24 m25 m26 m27 m28 m29 m30 m31 m32 m33 E20 E21 E22 E23 E24 E25 E26 E27 E28 E29 E30 E31 E32 E16
    clear HM1 HA1 HM2 HA2 HA3 HA4 HA5 HM3 HM4 HM5 HM6 HM7 HA6 HS1 HN1 HA7 HS2 HZ HN2 HM8 HN3 HA8 HC1 HC2
    clear S1 S2 S3 S4 S5 S6 S7 S8 S9 S10 S11 S12 S13 S14
    by_cases hy : y = 0
    · have hD := fun (X : World) (b : Below w.heap.size w X) => n_div0 (NA.out.below b) (NB.out.below b) hy
      have hC := fun (X : World) (b : Below w.heap.size w X) => n_cmp (NB.out.below b) (n_zero _) (show icmp y 0 = 0 by rw [hy]; rfl)
      have HD := Lib.hid hD
      have HC := Lib.hid hC
      clear hD hC hy
      go_wp2_with (first
        | (go_at_call 25; (with_reducible refine (HD.out _ E33.p.bl).mono ?_); rintro e u34 ⟨rfl, m34⟩; have B34 := box_two u34 (.bool false) (.slice none 0 0) (.bool false) (.slice none 0 0); have E34 := (E33.below m34).below B34; have p0 := E34.p.b.c0; have p1 := E34.p.b.c1)
        | (go_at_call 23; (with_reducible refine (HC.out _ E34.p.bl).mono ?_); rintro e u35 ⟨rfl, m35⟩; have E35 := E34.below m35))
      go_ret
      exact ⟨rfl, E35.p.bl⟩
    · obtain ⟨qz, rz, tz, hq, hr, ht, hs, h0, hl, sq, sr, st⟩ := wholeRing_end x y SX.out SY.out hy
      obtain ⟨k, hk, hk0⟩ : ∃ k, icmp y 0 = k ∧ k ≠ 0 := ⟨_, rfl, by unfold icmp; split <;> (try split) <;> omega⟩
      have hD := fun (X : World) (b : Below w.heap.size w X) => n_div1 (NA.out.below b) (NB.out.below b) hy hq hr
      have hC := fun (X : World) (b : Below w.heap.size w X) => n_cmp (NB.out.below b) (n_zero _) hk
      have hM := fun (X : World) (b : Below w.heap.size w X) (P : Option Addr) (p q : Nat) (h : SI X .u64 P p q (digs U qz.natAbs)) => n_mul (nm_of h sq) (NB.out.below b) ht
      have hA := fun (X : World) (P : Option Addr) (p q : Nat) (h : SI X .u64 P p q (digs U tz.natAbs)) (P' : Option Addr) (p' q' : Nat) (h' : SI X .u64 P' p' q' (digs U rz.natAbs)) => n_add (nm_of h st) (nm_pos h' h0 sr) hs
      have hL := fun (X : World) (b : Below w.heap.size w X) (P : Option Addr) (p q : Nat) (h : SI X .u64 P p q (digs U rz.natAbs)) => n_lt h (NB.out.below b) hl
      have HD := Lib.hid hD
      have HC := Lib.hid hC
      have HM := Lib.hid hM
      have HA := Lib.hid hA
      have HL := Lib.hid hL
      clear hD hC hM hA hL hq hr ht hs h0 hl sq sr st hk hy
      go_wp2_with (first
        | (go_at_call 25; (with_reducible refine (HD.out _ E33.p.bl).mono ?_); rintro e u34 ⟨Aq, nq, cq, Ar, nr, cr, rfl, y1', y2', m34⟩; have B34 := box_two u34 (.bool (decide (qz < 0))) (.slice Aq nq cq) (.bool false) (.slice Ar nr cr); have J := Rw.two12 u34 (.bool (decide (qz < 0))) (.slice Aq nq cq) (.bool false) (.slice Ar nr cr) 24 24; have E34 : RH w _ u34.heap.size (u34.heap.size + 1) ga Aa na ca gb Ab nb cb gc Ac nc cc qz rz Aq nq cq Ar nr cr := ⟨(E33.below m34).p.below B34, J.1, J.2, y1'.below B34, y2'.below B34⟩; have p0 := E34.p.b.c0; have p1 := E34.p.b.c1)
        | (go_at_call 23; (with_reducible refine (HC.out _ E34.p.bl).mono ?_); rintro e u35 ⟨rfl, m35⟩; have E35 := E34.below m35))
      generalize u34.heap.size + 1 = gr at *
      generalize u34.heap.size = gq at *
      have E50 := E35.below (Below.refl u35.heap.size u35).drew
      have kr := E50.s10
      unfold C8 at kr
      clear p0 p1 E34 E35 B34 J m34 m35 y1' y2'
      go_region_held3 (fun w' => w'.cell? ⟨w.heap.size, 0, none⟩ = some (.bool ga) ∧ w'.cell? ⟨w.heap.size, 1, none⟩ = some (.slice Aa na ca) ∧ w'.cell? ⟨w.heap.size + 1, 0, none⟩ = some (.bool gb) ∧ w'.cell? ⟨w.heap.size + 1, 1, none⟩ = some (.slice Ab nb cb) ∧ w'.cell? ⟨gq, 0, none⟩ = some (.bool (decide (qz < 0))) ∧ w'.cell? ⟨gq, 1, none⟩ = some (.slice Aq nq cq) ∧ w'.cell? ⟨gr, 0, none⟩ = some (.bool false) ∧ w'.cell? ⟨gr, 1, none⟩ = some (.slice Ar nr cr))
        (first
          | exact kr
          | exact k51
          | exact k52
          | exact k53
          | exact k54
          | exact k55)
        (first
          | (go_at_call 21; first
            | ((with_reducible refine (HM.out _ E50.p.bl Aq nq cq E50.r7).mono ?_); rintro e u51 ⟨Y51, y51, x51, rfl, r51, _, m51⟩; have E51 := E50.below m51; have k51 := E51.s10))
          | (go_at_call 18; first
            | ((with_reducible refine (HA.out _ Y51 y51 x51 r51 Ar nr cr E51.r8).mono ?_); rintro e u52 ⟨Y52, y52, x52, rfl, r52, _, m52⟩; have E52 := E51.below m52; have k52 := E52.s10))
          | (go_at_call 15; first
            | ((with_reducible refine (HMK.out _ E52.p.bl).mono ?_); rintro e u53 ⟨Y53, y53, x53, rfl, r53, _, m53⟩; have E53 := E52.below m53; have k53 := E53.s10))
          | (go_at_call 26; first
            | ((with_reducible refine (n_same x (r52.below m53) r53).mono ?_); rintro e u54 ⟨rfl, m54⟩; have E54 := E53.below m54; have k54 := E54.s10))
          | (go_at_call 40; first
            | ((with_reducible refine (HL.out _ E54.p.bl Ar nr cr E54.r8).mono ?_); rintro e u55 ⟨rfl, d55⟩; have E55 := E54.below d55.below; have k55 := E55.s10)))
      go_wp2
      go_ret
      exact ⟨rfl, E55.p.bl⟩
  · intro hk
    have D0 := C1.below (Below.refl w1.heap.size w1).drew
    have hS := D0.s6
    clear HM2 HA2 HA3 HA4 HA5 HM3 HM4 HM5 HM6 HM7 HA6 HS1 HN1 HA7 HS2 HZ HN2 HM8 HN3 HA8 HC1 HC2 HMK S1 S2 S3 S4 S5 S6 S7 S8 S9 S10 S11 S12 S13 S14 NA NB SX SY HP HW HC0 C1 b1
    obtain ⟨V0, hv0⟩ : ∃ v0, v0 = w1.drew := ⟨_, rfl⟩
    rw [← hv0] at D0 hS
    change Go.Un.wpAnyU _ _ _ _ _ _ _ _ _ w1.drew
    rw [← hv0]
    clear hv0
    refine Go.Un.take [9] (i := 0) (v := ?_) rfl (by kernel_rfl) (by kernel_rfl) (by kernel_rfl) (by kernel_rfl) (by kernel_rfl) (fun _ _ _ h => h) (Or.inl ⟨by rfl, ?_⟩) hS ?_
    rotate_left
    · intro w hSw
      obtain ⟨s1, s2, s3, s4, s5, s6⟩ := hSw
      go_simp
      try with_reducible rfl
    try simp only [Act.put, List.setIfInBounds_toArray, List.set_cons_zero, List.set_cons_succ]
    refine Go.Un.take [9] (i := 1) (v := ?_) rfl (by kernel_rfl) (by kernel_rfl) (by kernel_rfl) (by kernel_rfl) (by kernel_rfl) (fun _ _ _ h => h) (Or.inl ⟨by rfl, ?_⟩) hS ?_
    rotate_left
    · intro w hSw
      obtain ⟨s1, s2, s3, s4, s5, s6⟩ := hSw
      go_simp
      try with_reducible rfl
    try simp only [Act.put, List.setIfInBounds_toArray, List.set_cons_zero, List.set_cons_succ]
    refine Go.Un.take [9] (i := 3) (v := ?_) rfl (by kernel_rfl) (by kernel_rfl) (by kernel_rfl) (by kernel_rfl) (by kernel_rfl) (fun _ _ _ h => h) (Or.inl ⟨by rfl, ?_⟩) hS ?_
    rotate_left
    · intro w hSw
      obtain ⟨s1, s2, s3, s4, s5, s6⟩ := hSw
      go_simp
      try with_reducible rfl
    try simp only [Act.put, List.setIfInBounds_toArray, List.set_cons_zero, List.set_cons_succ]
    refine Go.Un.take [9] (i := 4) (v := ?_) rfl (by kernel_rfl) (by kernel_rfl) (by kernel_rfl) (by kernel_rfl) (by kernel_rfl) (fun _ _ _ h => h) (Or.inl ⟨by rfl, ?_⟩) hS ?_
    rotate_left
    · intro w hSw
      obtain ⟨s1, s2, s3, s4, s5, s6⟩ := hSw
      go_simp
      try with_reducible rfl
    try simp only [Act.put, List.setIfInBounds_toArray, List.set_cons_zero, List.set_cons_succ]
    refine Go.Un.three (i := 2) (j := 6) (k := 7) rfl rfl rfl (by kernel_rfl) (fun K hK => ?_) (fun K hK => ?_) (fun K hK => ?_)
    · go_simp
      go_at_call 21; (with_reducible refine (HM1.out V0 D0.bl).mono ?_); rintro e V1 ⟨P1, p1, q1, rfl, r1, _, bb⟩
      have D1 := D0.below bb
      refine hK.out _ _ (fun _ => D1.s6) ?_
      clear hK
      clear K
      clear bb
      try simp only [Act.put, List.setIfInBounds_toArray, List.set_cons_zero, List.set_cons_succ]
      refine Go.Un.three (i := 5) (j := 6) (k := 7) rfl rfl rfl (by kernel_rfl) (fun K hK => ?_) (fun K hK => ?_) (fun K hK => ?_)
      · go_simp
        go_at_call 18; (with_reducible refine (HA1.out V1 D1.bl).mono ?_); rintro e V2 ⟨P2, p2, q2, rfl, r2, _, bb⟩
        have D2 := D1.below bb
        have r1_2 := r1.below bb
        refine hK.out _ _ (fun _ => D2.s6) ?_
        clear hK
        clear K
        clear bb
        try simp only [Act.put, List.setIfInBounds_toArray, List.set_cons_zero, List.set_cons_succ]
        refine Go.Un.two (i := 6) (j := 7) rfl rfl (by kernel_rfl) (fun K hK => ?_) (fun K hK => ?_)
        · go_simp
          refine hK.out _ _ (fun _ => (D2.below (alloc_below _ _)).s6) ?_
          clear hK
          clear K
          try simp only [Act.put, List.setIfInBounds_toArray, List.set_cons_zero, List.set_cons_succ]
          have ab := alloc_below V2 (.cells #[.bool false, .slice none 0 0] 24)
          have T6 := Two.start V2 (.bool false) (.slice none 0 0) 24
          have hg6 := D2.lts
          have D3 := D2.below ab
          have r1_3 := r1_2.below ab
          have r2_3 := r2.below ab
          clear ab
          generalize V2.heap.size = g6 at *
          generalize V2.alloc (.cells #[.bool false, .slice none 0 0] 24) = V3 at *
          refine Go.Un.one (i := 7) rfl (by kernel_rfl) (fun K hK => ?_)
          go_simp
          refine hK.out _ _ (fun _ => (D3.below (alloc_below _ _)).s6) ?_
          clear hK
          clear K
          try simp only [Act.put, List.setIfInBounds_toArray, List.set_cons_zero, List.set_cons_succ]
          have ab := alloc_below V3 (.cells #[.bool false, .slice none 0 0] 24)
          have T7 := Two.start V3 (.bool false) (.slice none 0 0) 24
          have hg7 := D3.lts
          have hne := T6.lt
          have D4 := D3.below ab
          have T6_4 := T6.below ab
          have r1_4 := r1_3.below ab
          have r2_4 := r2_3.below ab
          clear ab
          generalize V3.heap.size = g7 at *
          generalize V3.alloc (.cells #[.bool false, .slice none 0 0] 24) = V4 at *
          have f0 := T6_4.f0
          have f1 := T6_4.f1
          have c0 := T6_4.c0
          have c1 := T6_4.c1
          have E1 := D4.store hg6 (.bool (decide (v1 < 0))) (.slice P1 p1 q1)
          have Y7 := Two.far T7 (show g7 ≠ g6 by omega) (.bool (decide (v1 < 0))) (.slice P1 p1 q1)
          have Y6 := T6_4.store (.bool (decide (v1 < 0))) (.slice P1 p1 q1)
          have yx := si_two r1_4 T6_4 (.bool (decide (v1 < 0))) (.slice P1 p1 q1)
          have yy := si_two r2_4 T6_4 (.bool (decide (v1 < 0))) (.slice P1 p1 q1)
          refine Go.Un.one (i := 8) rfl (by kernel_rfl) (fun K hK => ?_)
          go_simp
          refine hK.out _ _ (fun _ => E1.s6) ?_
          clear hK
          clear K
          try simp only [Act.put, List.setIfInBounds_toArray, List.set_cons_zero, List.set_cons_succ]
          clear c0 c1 f0 f1
          generalize ((V4.setCell _ _).setCell _ _) = u1 at *
          have c0 := Y7.c0
          have c1 := Y7.c1
          have f0 := Y7.f0
          have f1 := Y7.f1
          have E2 := E1.store hg7 (.bool (decide (v2 < 0))) (.slice P2 p2 q2)
          have X6 := Two.far Y6 (show g6 ≠ g7 by omega) (.bool (decide (v2 < 0))) (.slice P2 p2 q2)
          have X7 := Y7.store (.bool (decide (v2 < 0))) (.slice P2 p2 q2)
          have xx := si_two yx Y7 (.bool (decide (v2 < 0))) (.slice P2 p2 q2)
          have xy := si_two yy Y7 (.bool (decide (v2 < 0))) (.slice P2 p2 q2)
          refine Go.Un.one (i := 9) rfl (by kernel_rfl) (fun K hK => ?_)
          go_simp
          refine hK.out _ _ (fun h => by exact absurd h (by decide)) ?_
          clear hK
          clear K
          try simp only [Act.put, List.setIfInBounds_toArray, List.set_cons_zero, List.set_cons_succ]
          refine Go.Un.done (by kernel_rfl) ?_ _
          exact hk _ _ ⟨g6, g7, P1, p1, q1, P2, p2, q2, rfl, E2, X6, X7, xx, xy⟩
        · go_simp
          refine hK.out _ _ (fun _ => (D2.below (alloc_below _ _)).s6) ?_
          clear hK
          clear K
          try simp only [Act.put, List.setIfInBounds_toArray, List.set_cons_zero, List.set_cons_succ]
          have ab := alloc_below V2 (.cells #[.bool false, .slice none 0 0] 24)
          have T7 := Two.start V2 (.bool false) (.slice none 0 0) 24
          have hg7 := D2.lts
          have D3 := D2.below ab
          have r1_3 := r1_2.below ab
          have r2_3 := r2.below ab
          clear ab
          generalize V2.heap.size = g7 at *
          generalize V2.alloc (.cells #[.bool false, .slice none 0 0] 24) = V3 at *
          refine Go.Un.one (i := 6) rfl (by kernel_rfl) (fun K hK => ?_)
          go_simp
          refine hK.out _ _ (fun _ => (D3.below (alloc_below _ _)).s6) ?_
          clear hK
          clear K
          try simp only [Act.put, List.setIfInBounds_toArray, List.set_cons_zero, List.set_cons_succ]
          have ab := alloc_below V3 (.cells #[.bool false, .slice none 0 0] 24)
          have T6 := Two.start V3 (.bool false) (.slice none 0 0) 24
          have hg6 := D3.lts
          have hne := T7.lt
          have D4 := D3.below ab
          have T7_4 := T7.below ab
          have r1_4 := r1_3.below ab
          have r2_4 := r2_3.below ab
          clear ab
          generalize V3.heap.size = g6 at *
          generalize V3.alloc (.cells #[.bool false, .slice none 0 0] 24) = V4 at *
          have f0 := T6.f0
          have f1 := T6.f1
          have c0 := T6.c0
          have c1 := T6.c1
          have E1 := D4.store hg6 (.bool (decide (v1 < 0))) (.slice P1 p1 q1)
          have Y7 := Two.far T7_4 (show g7 ≠ g6 by omega) (.bool (decide (v1 < 0))) (.slice P1 p1 q1)
          have Y6 := T6.store (.bool (decide (v1 < 0))) (.slice P1 p1 q1)
          have yx := si_two r1_4 T6 (.bool (decide (v1 < 0))) (.slice P1 p1 q1)
          have yy := si_two r2_4 T6 (.bool (decide (v1 < 0))) (.slice P1 p1 q1)
          refine Go.Un.one (i := 8) rfl (by kernel_rfl) (fun K hK => ?_)
          go_simp
          refine hK.out _ _ (fun _ => E1.s6) ?_
          clear hK
          clear K
          try simp only [Act.put, List.setIfInBounds_toArray, List.set_cons_zero, List.set_cons_succ]
          clear c0 c1 f0 f1
          generalize ((V4.setCell _ _).setCell _ _) = u1 at *
          have c0 := Y7.c0
          have c1 := Y7.c1
          have f0 := Y7.f0
          have f1 := Y7.f1
          have E2 := E1.store hg7 (.bool (decide (v2 < 0))) (.slice P2 p2 q2)
          have X6 := Two.far Y6 (show g6 ≠ g7 by omega) (.bool (decide (v2 < 0))) (.slice P2 p2 q2)
          have X7 := Y7.store (.bool (decide (v2 < 0))) (.slice P2 p2 q2)
          have xx := si_two yx Y7 (.bool (decide (v2 < 0))) (.slice P2 p2 q2)
          have xy := si_two yy Y7 (.bool (decide (v2 < 0))) (.slice P2 p2 q2)
          refine Go.Un.one (i := 9) rfl (by kernel_rfl) (fun K hK => ?_)
          go_simp
          refine hK.out _ _ (fun h => by exact absurd h (by decide)) ?_
          clear hK
          clear K
          try simp only [Act.put, List.setIfInBounds_toArray, List.set_cons_zero, List.set_cons_succ]
          refine Go.Un.done (by kernel_rfl) ?_ _
          exact hk _ _ ⟨g6, g7, P1, p1, q1, P2, p2, q2, rfl, E2, X6, X7, xx, xy⟩
      · go_simp
        refine hK.out _ _ (fun _ => (D1.below (alloc_below _ _)).s6) ?_
        clear hK
        clear K
        try simp only [Act.put, List.setIfInBounds_toArray, List.set_cons_zero, List.set_cons_succ]
        have ab := alloc_below V1 (.cells #[.bool false, .slice none 0 0] 24)
        have T6 := Two.start V1 (.bool false) (.slice none 0 0) 24
        have hg6 := D1.lts
        have D2 := D1.below ab
        have r1_2 := r1.below ab
        clear ab
        generalize V1.heap.size = g6 at *
        generalize V1.alloc (.cells #[.bool false, .slice none 0 0] 24) = V2 at *
        refine Go.Un.two (i := 5) (j := 7) rfl rfl (by kernel_rfl) (fun K hK => ?_) (fun K hK => ?_)
        · go_simp
          go_at_call 18; (with_reducible refine (HA1.out V2 D2.bl).mono ?_); rintro e V3 ⟨P2, p2, q2, rfl, r2, _, bb⟩
          have D3 := D2.below bb
          have T6_3 := T6.below bb
          have r1_3 := r1_2.below bb
          refine hK.out _ _ (fun _ => D3.s6) ?_
          clear hK
          clear K
          clear bb
          try simp only [Act.put, List.setIfInBounds_toArray, List.set_cons_zero, List.set_cons_succ]
          refine Go.Un.one (i := 7) rfl (by kernel_rfl) (fun K hK => ?_)
          go_simp
          refine hK.out _ _ (fun _ => (D3.below (alloc_below _ _)).s6) ?_
          clear hK
          clear K
          try simp only [Act.put, List.setIfInBounds_toArray, List.set_cons_zero, List.set_cons_succ]
          have ab := alloc_below V3 (.cells #[.bool false, .slice none 0 0] 24)
          have T7 := Two.start V3 (.bool false) (.slice none 0 0) 24
          have hg7 := D3.lts
          have hne := T6_3.lt
          have D4 := D3.below ab
          have T6_4 := T6_3.below ab
          have r1_4 := r1_3.below ab
          have r2_4 := r2.below ab
          clear ab
          generalize V3.heap.size = g7 at *
          generalize V3.alloc (.cells #[.bool false, .slice none 0 0] 24) = V4 at *
          have f0 := T6_4.f0
          have f1 := T6_4.f1
          have c0 := T6_4.c0
          have c1 := T6_4.c1
          have E1 := D4.store hg6 (.bool (decide (v1 < 0))) (.slice P1 p1 q1)
          have Y7 := Two.far T7 (show g7 ≠ g6 by omega) (.bool (decide (v1 < 0))) (.slice P1 p1 q1)
          have Y6 := T6_4.store (.bool (decide (v1 < 0))) (.slice P1 p1 q1)
          have yx := si_two r1_4 T6_4 (.bool (decide (v1 < 0))) (.slice P1 p1 q1)
          have yy := si_two r2_4 T6_4 (.bool (decide (v1 < 0))) (.slice P1 p1 q1)
          refine Go.Un.one (i := 8) rfl (by kernel_rfl) (fun K hK => ?_)
          go_simp
          refine hK.out _ _ (fun _ => E1.s6) ?_
          clear hK
          clear K
          try simp only [Act.put, List.setIfInBounds_toArray, List.set_cons_zero, List.set_cons_succ]
          clear c0 c1 f0 f1
          generalize ((V4.setCell _ _).setCell _ _) = u1 at *
          have c0 := Y7.c0
          have c1 := Y7.c1
          have f0 := Y7.f0
          have f1 := Y7.f1
          have E2 := E1.store hg7 (.bool (decide (v2 < 0))) (.slice P2 p2 q2)
          have X6 := Two.far Y6 (show g6 ≠ g7 by omega) (.bool (decide (v2 < 0))) (.slice P2 p2 q2)
          have X7 := Y7.store (.bool (decide (v2 < 0))) (.slice P2 p2 q2)
          have xx := si_two yx Y7 (.bool (decide (v2 < 0))) (.slice P2 p2 q2)
          have xy := si_two yy Y7 (.bool (decide (v2 < 0))) (.slice P2 p2 q2)
          refine Go.Un.one (i := 9) rfl (by kernel_rfl) (fun K hK => ?_)
          go_simp
          refine hK.out _ _ (fun h => by exact absurd h (by decide)) ?_
          clear hK
          clear K
          try simp only [Act.put, List.setIfInBounds_toArray, List.set_cons_zero, List.set_cons_succ]
          refine Go.Un.done (by kernel_rfl) ?_ _
          exact hk _ _ ⟨g6, g7, P1, p1, q1, P2, p2, q2, rfl, E2, X6, X7, xx, xy⟩
        · go_simp
          refine hK.out _ _ (fun _ => (D2.below (alloc_below _ _)).s6) ?_
          clear hK
          clear K
          try simp only [Act.put, List.setIfInBounds_toArray, List.set_cons_zero, List.set_cons_succ]
          have ab := alloc_below V2 (.cells #[.bool false, .slice none 0 0] 24)
          have T7 := Two.start V2 (.bool false) (.slice none 0 0) 24
          have hg7 := D2.lts
          have hne := T6.lt
          have D3 := D2.below ab
          have T6_3 := T6.below ab
          have r1_3 := r1_2.below ab
          clear ab
          generalize V2.heap.size = g7 at *
          generalize V2.alloc (.cells #[.bool false, .slice none 0 0] 24) = V3 at *
          refine Go.Un.one (i := 5) rfl (by kernel_rfl) (fun K hK => ?_)
          go_simp
          go_at_call 18; (with_reducible refine (HA1.out V3 D3.bl).mono ?_); rintro e V4 ⟨P2, p2, q2, rfl, r2, _, bb⟩
          have D4 := D3.below bb
          have T6_4 := T6_3.below bb
          have T7_4 := T7.below bb
          have r1_4 := r1_3.below bb
          refine hK.out _ _ (fun _ => D4.s6) ?_
          clear hK
          clear K
          clear bb
          try simp only [Act.put, List.setIfInBounds_toArray, List.set_cons_zero, List.set_cons_succ]
          have f0 := T6_4.f0
          have f1 := T6_4.f1
          have c0 := T6_4.c0
          have c1 := T6_4.c1
          have E1 := D4.store hg6 (.bool (decide (v1 < 0))) (.slice P1 p1 q1)
          have Y7 := Two.far T7_4 (show g7 ≠ g6 by omega) (.bool (decide (v1 < 0))) (.slice P1 p1 q1)
          have Y6 := T6_4.store (.bool (decide (v1 < 0))) (.slice P1 p1 q1)
          have yx := si_two r1_4 T6_4 (.bool (decide (v1 < 0))) (.slice P1 p1 q1)
          have yy := si_two r2 T6_4 (.bool (decide (v1 < 0))) (.slice P1 p1 q1)
          refine Go.Un.one (i := 8) rfl (by kernel_rfl) (fun K hK => ?_)
          go_simp
          refine hK.out _ _ (fun _ => E1.s6) ?_
          clear hK
          clear K
          try simp only [Act.put, List.setIfInBounds_toArray, List.set_cons_zero, List.set_cons_succ]
          clear c0 c1 f0 f1
          generalize ((V4.setCell _ _).setCell _ _) = u1 at *
          have c0 := Y7.c0
          have c1 := Y7.c1
          have f0 := Y7.f0
          have f1 := Y7.f1
          have E2 := E1.store hg7 (.bool (decide (v2 < 0))) (.slice P2 p2 q2)
          have X6 := Two.far Y6 (show g6 ≠ g7 by omega) (.bool (decide (v2 < 0))) (.slice P2 p2 q2)
          have X7 := Y7.store (.bool (decide (v2 < 0))) (.slice P2 p2 q2)
          have xx := si_two yx Y7 (.bool (decide (v2 < 0))) (.slice P2 p2 q2)
          have xy := si_two yy Y7 (.bool (decide (v2 < 0))) (.slice P2 p2 q2)
          refine Go.Un.one (i := 9) rfl (by kernel_rfl) (fun K hK => ?_)
          go_simp
          refine hK.out _ _ (fun h => by exact absurd h (by decide)) ?_
          clear hK
          clear K
          try simp only [Act.put, List.setIfInBounds_toArray, List.set_cons_zero, List.set_cons_succ]
          refine Go.Un.done (by kernel_rfl) ?_ _
          exact hk _ _ ⟨g6, g7, P1, p1, q1, P2, p2, q2, rfl, E2, X6, X7, xx, xy⟩
      · go_simp
        refine hK.out _ _ (fun _ => (D1.below (alloc_below _ _)).s6) ?_
        clear hK
        clear K
        try simp only [Act.put, List.setIfInBounds_toArray, List.set_cons_zero, List.set_cons_succ]
        have ab := alloc_below V1 (.cells #[.bool false, .slice none 0 0] 24)
        have T7 := Two.start V1 (.bool false) (.slice none 0 0) 24
        have hg7 := D1.lts
        have D2 := D1.below ab
        have r1_2 := r1.below ab
        clear ab
        generalize V1.heap.size = g7 at *
        generalize V1.alloc (.cells #[.bool false, .slice none 0 0] 24) = V2 at *
        refine Go.Un.two (i := 5) (j := 6) rfl rfl (by kernel_rfl) (fun K hK => ?_) (fun K hK => ?_)
        · go_simp
          go_at_call 18; (with_reducible refine (HA1.out V2 D2.bl).mono ?_); rintro e V3 ⟨P2, p2, q2, rfl, r2, _, bb⟩
          have D3 := D2.below bb
          have T7_3 := T7.below bb
          have r1_3 := r1_2.below bb
          refine hK.out _ _ (fun _ => D3.s6) ?_
          clear hK
          clear K
          clear bb
          try simp only [Act.put, List.setIfInBounds_toArray, List.set_cons_zero, List.set_cons_succ]
          refine Go.Un.one (i := 6) rfl (by kernel_rfl) (fun K hK => ?_)
          go_simp
          refine hK.out _ _ (fun _ => (D3.below (alloc_below _ _)).s6) ?_
          clear hK
          clear K
          try simp only [Act.put, List.setIfInBounds_toArray, List.set_cons_zero, List.set_cons_succ]
          have ab := alloc_below V3 (.cells #[.bool false, .slice none 0 0] 24)
          have T6 := Two.start V3 (.bool false) (.slice none 0 0) 24
          have hg6 := D3.lts
          have hne := T7_3.lt
          have D4 := D3.below ab
          have T7_4 := T7_3.below ab
          have r1_4 := r1_3.below ab
          have r2_4 := r2.below ab
          clear ab
          generalize V3.heap.size = g6 at *
          generalize V3.alloc (.cells #[.bool false, .slice none 0 0] 24) = V4 at *
          have f0 := T6.f0
          have f1 := T6.f1
          have c0 := T6.c0
          have c1 := T6.c1
          have E1 := D4.store hg6 (.bool (decide (v1 < 0))) (.slice P1 p1 q1)
          have Y7 := Two.far T7_4 (show g7 ≠ g6 by omega) (.bool (decide (v1 < 0))) (.slice P1 p1 q1)
          have Y6 := T6.store (.bool (decide (v1 < 0))) (.slice P1 p1 q1)
          have yx := si_two r1_4 T6 (.bool (decide (v1 < 0))) (.slice P1 p1 q1)
          have yy := si_two r2_4 T6 (.bool (decide (v1 < 0))) (.slice P1 p1 q1)
          refine Go.Un.one (i := 8) rfl (by kernel_rfl) (fun K hK => ?_)
          go_simp
          refine hK.out _ _ (fun _ => E1.s6) ?_
          clear hK
          clear K
          try simp only [Act.put, List.setIfInBounds_toArray, List.set_cons_zero, List.set_cons_succ]
          clear c0 c1 f0 f1
          generalize ((V4.setCell _ _).setCell _ _) = u1 at *
          have c0 := Y7.c0
          have c1 := Y7.c1
          have f0 := Y7.f0
          have f1 := Y7.f1
          have E2 := E1.store hg7 (.bool (decide (v2 < 0))) (.slice P2 p2 q2)
          have X6 := Two.far Y6 (show g6 ≠ g7 by omega) (.bool (decide (v2 < 0))) (.slice P2 p2 q2)
          have X7 := Y7.store (.bool (decide (v2 < 0))) (.slice P2 p2 q2)
          have xx := si_two yx Y7 (.bool (decide (v2 < 0))) (.slice P2 p2 q2)
          have xy := si_two yy Y7 (.bool (decide (v2 < 0))) (.slice P2 p2 q2)
          refine Go.Un.one (i := 9) rfl (by kernel_rfl) (fun K hK => ?_)
          go_simp
          refine hK.out _ _ (fun h => by exact absurd h (by decide)) ?_
          clear hK
          clear K
          try simp only [Act.put, List.setIfInBounds_toArray, List.set_cons_zero, List.set_cons_succ]
          refine Go.Un.done (by kernel_rfl) ?_ _
          exact hk _ _ ⟨g6, g7, P1, p1, q1, P2, p2, q2, rfl, E2, X6, X7, xx, xy⟩
        · go_simp
          refine hK.out _ _ (fun _ => (D2.below (alloc_below _ _)).s6) ?_
          clear hK
          clear K
          try simp only [Act.put, List.setIfInBounds_toArray, List.set_cons_zero, List.set_cons_succ]
          have ab := alloc_below V2 (.cells #[.bool false, .slice none 0 0] 24)
          have T6 := Two.start V2 (.bool false) (.slice none 0 0) 24
          have hg6 := D2.lts
          have hne := T7.lt
          have D3 := D2.below ab
          have T7_3 := T7.below ab
          have r1_3 := r1_2.below ab
          clear ab
          generalize V2.heap.size = g6 at *
          generalize V2.alloc (.cells #[.bool false, .slice none 0 0] 24) = V3 at *
          refine Go.Un.one (i := 5) rfl (by kernel_rfl) (fun K hK => ?_)
          go_simp
          go_at_call 18; (with_reducible refine (HA1.out V3 D3.bl).mono ?_); rintro e V4 ⟨P2, p2, q2, rfl, r2, _, bb⟩
          have D4 := D3.below bb
          have T6_4 := T6.below bb
          have T7_4 := T7_3.below bb
          have r1_4 := r1_3.below bb
          refine hK.out _ _ (fun _ => D4.s6) ?_
          clear hK
          clear K
          clear bb
          try simp only [Act.put, List.setIfInBounds_toArray, List.set_cons_zero, List.set_cons_succ]
          have f0 := T6_4.f0
          have f1 := T6_4.f1
          have c0 := T6_4.c0
          have c1 := T6_4.c1
          have E1 := D4.store hg6 (.bool (decide (v1 < 0))) (.slice P1 p1 q1)
          have Y7 := Two.far T7_4 (show g7 ≠ g6 by omega) (.bool (decide (v1 < 0))) (.slice P1 p1 q1)
          have Y6 := T6_4.store (.bool (decide (v1 < 0))) (.slice P1 p1 q1)
          have yx := si_two r1_4 T6_4 (.bool (decide (v1 < 0))) (.slice P1 p1 q1)
          have yy := si_two r2 T6_4 (.bool (decide (v1 < 0))) (.slice P1 p1 q1)
          refine Go.Un.one (i := 8) rfl (by kernel_rfl) (fun K hK => ?_)
          go_simp
          refine hK.out _ _ (fun _ => E1.s6) ?_
          clear hK
          clear K
          try simp only [Act.put, List.setIfInBounds_toArray, List.set_cons_zero, List.set_cons_succ]
          clear c0 c1 f0 f1
          generalize ((V4.setCell _ _).setCell _ _) = u1 at *
          have c0 := Y7.c0
          have c1 := Y7.c1
          have f0 := Y7.f0
          have f1 := Y7.f1
          have E2 := E1.store hg7 (.bool (decide (v2 < 0))) (.slice P2 p2 q2)
          have X6 := Two.far Y6 (show g6 ≠ g7 by omega) (.bool (decide (v2 < 0))) (.slice P2 p2 q2)
          have X7 := Y7.store (.bool (decide (v2 < 0))) (.slice P2 p2 q2)
          have xx := si_two yx Y7 (.bool (decide (v2 < 0))) (.slice P2 p2 q2)
          have xy := si_two yy Y7 (.bool (decide (v2 < 0))) (.slice P2 p2 q2)
          refine Go.Un.one (i := 9) rfl (by kernel_rfl) (fun K hK => ?_)
          go_simp
          refine hK.out _ _ (fun h => by exact absurd h (by decide)) ?_
          clear hK
          clear K
          try simp only [Act.put, List.setIfInBounds_toArray, List.set_cons_zero, List.set_cons_succ]
          refine Go.Un.done (by kernel_rfl) ?_ _
          exact hk _ _ ⟨g6, g7, P1, p1, q1, P2, p2, q2, rfl, E2, X6, X7, xx, xy⟩
    · go_simp
      refine hK.out _ _ (fun _ => (D0.below (alloc_below _ _)).s6) ?_
      clear hK
      clear K
      try simp only [Act.put, List.setIfInBounds_toArray, List.set_cons_zero, List.set_cons_succ]
      have ab := alloc_below V0 (.cells #[.bool false, .slice none 0 0] 24)
      have T6 := Two.start V0 (.bool false) (.slice none 0 0) 24
      have hg6 := D0.lts
      have D1 := D0.below ab
      clear ab
      generalize V0.heap.size = g6 at *
      generalize V0.alloc (.cells #[.bool false, .slice none 0 0] 24) = V1 at *
      refine Go.Un.two (i := 2) (j := 7) rfl rfl (by kernel_rfl) (fun K hK => ?_) (fun K hK => ?_)
      · go_simp
        go_at_call 21; (with_reducible refine (HM1.out V1 D1.bl).mono ?_); rintro e V2 ⟨P1, p1, q1, rfl, r1, _, bb⟩
        have D2 := D1.below bb
        have T6_2 := T6.below bb
        refine hK.out _ _ (fun _ => D2.s6) ?_
        clear hK
        clear K
        clear bb
        try simp only [Act.put, List.setIfInBounds_toArray, List.set_cons_zero, List.set_cons_succ]
        refine Go.Un.two (i := 5) (j := 7) rfl rfl (by kernel_rfl) (fun K hK => ?_) (fun K hK => ?_)
        · go_simp
          go_at_call 18; (with_reducible refine (HA1.out V2 D2.bl).mono ?_); rintro e V3 ⟨P2, p2, q2, rfl, r2, _, bb⟩
          have D3 := D2.below bb
          have T6_3 := T6_2.below bb
          have r1_3 := r1.below bb
          refine hK.out _ _ (fun _ => D3.s6) ?_
          clear hK
          clear K
          clear bb
          try simp only [Act.put, List.setIfInBounds_toArray, List.set_cons_zero, List.set_cons_succ]
          refine Go.Un.one (i := 7) rfl (by kernel_rfl) (fun K hK => ?_)
          go_simp
          refine hK.out _ _ (fun _ => (D3.below (alloc_below _ _)).s6) ?_
          clear hK
          clear K
          try simp only [Act.put, List.setIfInBounds_toArray, List.set_cons_zero, List.set_cons_succ]
          have ab := alloc_below V3 (.cells #[.bool false, .slice none 0 0] 24)
          have T7 := Two.start V3 (.bool false) (.slice none 0 0) 24
          have hg7 := D3.lts
          have hne := T6_3.lt
          have D4 := D3.below ab
          have T6_4 := T6_3.below ab
          have r1_4 := r1_3.below ab
          have r2_4 := r2.below ab
          clear ab
          generalize V3.heap.size = g7 at *
          generalize V3.alloc (.cells #[.bool false, .slice none 0 0] 24) = V4 at *
          have f0 := T6_4.f0
          have f1 := T6_4.f1
          have c0 := T6_4.c0
          have c1 := T6_4.c1
          have E1 := D4.store hg6 (.bool (decide (v1 < 0))) (.slice P1 p1 q1)
          have Y7 := Two.far T7 (show g7 ≠ g6 by omega) (.bool (decide (v1 < 0))) (.slice P1 p1 q1)
          have Y6 := T6_4.store (.bool (decide (v1 < 0))) (.slice P1 p1 q1)
          have yx := si_two r1_4 T6_4 (.bool (decide (v1 < 0))) (.slice P1 p1 q1)
          have yy := si_two r2_4 T6_4 (.bool (decide (v1 < 0))) (.slice P1 p1 q1)
          refine Go.Un.one (i := 8) rfl (by kernel_rfl) (fun K hK => ?_)
          go_simp
          refine hK.out _ _ (fun _ => E1.s6) ?_
          clear hK
          clear K
          try simp only [Act.put, List.setIfInBounds_toArray, List.set_cons_zero, List.set_cons_succ]
          clear c0 c1 f0 f1
          generalize ((V4.setCell _ _).setCell _ _) = u1 at *
          have c0 := Y7.c0
          have c1 := Y7.c1
          have f0 := Y7.f0
          have f1 := Y7.f1
          have E2 := E1.store hg7 (.bool (decide (v2 < 0))) (.slice P2 p2 q2)
          have X6 := Two.far Y6 (show g6 ≠ g7 by omega) (.bool (decide (v2 < 0))) (.slice P2 p2 q2)
          have X7 := Y7.store (.bool (decide (v2 < 0))) (.slice P2 p2 q2)
          have xx := si_two yx Y7 (.bool (decide (v2 < 0))) (.slice P2 p2 q2)
          have xy := si_two yy Y7 (.bool (decide (v2 < 0))) (.slice P2 p2 q2)
          refine Go.Un.one (i := 9) rfl (by kernel_rfl) (fun K hK => ?_)
          go_simp
          refine hK.out _ _ (fun h => by exact absurd h (by decide)) ?_
          clear hK
          clear K
          try simp only [Act.put, List.setIfInBounds_toArray, List.set_cons_zero, List.set_cons_succ]
          refine Go.Un.done (by kernel_rfl) ?_ _
          exact hk _ _ ⟨g6, g7, P1, p1, q1, P2, p2, q2, rfl, E2, X6, X7, xx, xy⟩
        · go_simp
          refine hK.out _ _ (fun _ => (D2.below (alloc_below _ _)).s6) ?_
          clear hK
          clear K
          try simp only [Act.put, List.setIfInBounds_toArray, List.set_cons_zero, List.set_cons_succ]
          have ab := alloc_below V2 (.cells #[.bool false, .slice none 0 0] 24)
          have T7 := Two.start V2 (.bool false) (.slice none 0 0) 24
          have hg7 := D2.lts
          have hne := T6_2.lt
          have D3 := D2.below ab
          have T6_3 := T6_2.below ab
          have r1_3 := r1.below ab
          clear ab
          generalize V2.heap.size = g7 at *
          generalize V2.alloc (.cells #[.bool false, .slice none 0 0] 24) = V3 at *
          refine Go.Un.one (i := 5) rfl (by kernel_rfl) (fun K hK => ?_)
          go_simp
          go_at_call 18; (with_reducible refine (HA1.out V3 D3.bl).mono ?_); rintro e V4 ⟨P2, p2, q2, rfl, r2, _, bb⟩
          have D4 := D3.below bb
          have T6_4 := T6_3.below bb
          have T7_4 := T7.below bb
          have r1_4 := r1_3.below bb
          refine hK.out _ _ (fun _ => D4.s6) ?_
          clear hK
          clear K
          clear bb
          try simp only [Act.put, List.setIfInBounds_toArray, List.set_cons_zero, List.set_cons_succ]
          have f0 := T6_4.f0
          have f1 := T6_4.f1
          have c0 := T6_4.c0
          have c1 := T6_4.c1
          have E1 := D4.store hg6 (.bool (decide (v1 < 0))) (.slice P1 p1 q1)
          have Y7 := Two.far T7_4 (show g7 ≠ g6 by omega) (.bool (decide (v1 < 0))) (.slice P1 p1 q1)
          have Y6 := T6_4.store (.bool (decide (v1 < 0))) (.slice P1 p1 q1)
          have yx := si_two r1_4 T6_4 (.bool (decide (v1 < 0))) (.slice P1 p1 q1)
          have yy := si_two r2 T6_4 (.bool (decide (v1 < 0))) (.slice P1 p1 q1)
          refine Go.Un.one (i := 8) rfl (by kernel_rfl) (fun K hK => ?_)
          go_simp
          refine hK.out _ _ (fun _ => E1.s6) ?_
          clear hK
          clear K
          try simp only [Act.put, List.setIfInBounds_toArray, List.set_cons_zero, List.set_cons_succ]
          clear c0 c1 f0 f1
          generalize ((V4.setCell _ _).setCell _ _) = u1 at *
          have c0 := Y7.c0
          have c1 := Y7.c1
          have f0 := Y7.f0
          have f1 := Y7.f1
          have E2 := E1.store hg7 (.bool (decide (v2 < 0))) (.slice P2 p2 q2)
          have X6 := Two.far Y6 (show g6 ≠ g7 by omega) (.bool (decide (v2 < 0))) (.slice P2 p2 q2)
          have X7 := Y7.store (.bool (decide (v2 < 0))) (.slice P2 p2 q2)
          have xx := si_two yx Y7 (.bool (decide (v2 < 0))) (.slice P2 p2 q2)
          have xy := si_two yy Y7 (.bool (decide (v2 < 0))) (.slice P2 p2 q2)
          refine Go.Un.one (i := 9) rfl (by kernel_rfl) (fun K hK => ?_)
          go_simp
          refine hK.out _ _ (fun h => by exact absurd h (by decide)) ?_
          clear hK
          clear K
          try simp only [Act.put, List.setIfInBounds_toArray, List.set_cons_zero, List.set_cons_succ]
          refine Go.Un.done (by kernel_rfl) ?_ _
          exact hk _ _ ⟨g6, g7, P1, p1, q1, P2, p2, q2, rfl, E2, X6, X7, xx, xy⟩
      · go_simp
        refine hK.out _ _ (fun _ => (D1.below (alloc_below _ _)).s6) ?_
        clear hK
        clear K
        try simp only [Act.put, List.setIfInBounds_toArray, List.set_cons_zero, List.set_cons_succ]
        have ab := alloc_below V1 (.cells #[.bool false, .slice none 0 0] 24)
        have T7 := Two.start V1 (.bool false) (.slice none 0 0) 24
        have hg7 := D1.lts
        have hne := T6.lt
        have D2 := D1.below ab
        have T6_2 := T6.below ab
        clear ab
        generalize V1.heap.size = g7 at *
        generalize V1.alloc (.cells #[.bool false, .slice none 0 0] 24) = V2 at *
        refine Go.Un.one (i := 2) rfl (by kernel_rfl) (fun K hK => ?_)
        go_simp
        go_at_call 21; (with_reducible refine (HM1.out V2 D2.bl).mono ?_); rintro e V3 ⟨P1, p1, q1, rfl, r1, _, bb⟩
        have D3 := D2.below bb
        have T6_3 := T6_2.below bb
        have T7_3 := T7.below bb
        refine hK.out _ _ (fun _ => D3.s6) ?_
        clear hK
        clear K
        clear bb
        try simp only [Act.put, List.setIfInBounds_toArray, List.set_cons_zero, List.set_cons_succ]
        refine Go.Un.one (i := 5) rfl (by kernel_rfl) (fun K hK => ?_)
        go_simp
        go_at_call 18; (with_reducible refine (HA1.out V3 D3.bl).mono ?_); rintro e V4 ⟨P2, p2, q2, rfl, r2, _, bb⟩
        have D4 := D3.below bb
        have T6_4 := T6_3.below bb
        have T7_4 := T7_3.below bb
        have r1_4 := r1.below bb
        refine hK.out _ _ (fun _ => D4.s6) ?_
        clear hK
        clear K
        clear bb
        try simp only [Act.put, List.setIfInBounds_toArray, List.set_cons_zero, List.set_cons_succ]
        have f0 := T6_4.f0
        have f1 := T6_4.f1
        have c0 := T6_4.c0
        have c1 := T6_4.c1
        have E1 := D4.store hg6 (.bool (decide (v1 < 0))) (.slice P1 p1 q1)
        have Y7 := Two.far T7_4 (show g7 ≠ g6 by omega) (.bool (decide (v1 < 0))) (.slice P1 p1 q1)
        have Y6 := T6_4.store (.bool (decide (v1 < 0))) (.slice P1 p1 q1)
        have yx := si_two r1_4 T6_4 (.bool (decide (v1 < 0))) (.slice P1 p1 q1)
        have yy := si_two r2 T6_4 (.bool (decide (v1 < 0))) (.slice P1 p1 q1)
        refine Go.Un.one (i := 8) rfl (by kernel_rfl) (fun K hK => ?_)
        go_simp
        refine hK.out _ _ (fun _ => E1.s6) ?_
        clear hK
        clear K
        try simp only [Act.put, List.setIfInBounds_toArray, List.set_cons_zero, List.set_cons_succ]
        clear c0 c1 f0 f1
        generalize ((V4.setCell _ _).setCell _ _) = u1 at *
        have c0 := Y7.c0
        have c1 := Y7.c1
        have f0 := Y7.f0
        have f1 := Y7.f1
        have E2 := E1.store hg7 (.bool (decide (v2 < 0))) (.slice P2 p2 q2)
        have X6 := Two.far Y6 (show g6 ≠ g7 by omega) (.bool (decide (v2 < 0))) (.slice P2 p2 q2)
        have X7 := Y7.store (.bool (decide (v2 < 0))) (.slice P2 p2 q2)
        have xx := si_two yx Y7 (.bool (decide (v2 < 0))) (.slice P2 p2 q2)
        have xy := si_two yy Y7 (.bool (decide (v2 < 0))) (.slice P2 p2 q2)
        refine Go.Un.one (i := 9) rfl (by kernel_rfl) (fun K hK => ?_)
        go_simp
        refine hK.out _ _ (fun h => by exact absurd h (by decide)) ?_
        clear hK
        clear K
        try simp only [Act.put, List.setIfInBounds_toArray, List.set_cons_zero, List.set_cons_succ]
        refine Go.Un.done (by kernel_rfl) ?_ _
        exact hk _ _ ⟨g6, g7, P1, p1, q1, P2, p2, q2, rfl, E2, X6, X7, xx, xy⟩
    · go_simp
      refine hK.out _ _ (fun _ => (D0.below (alloc_below _ _)).s6) ?_
      clear hK
      clear K
      try simp only [Act.put, List.setIfInBounds_toArray, List.set_cons_zero, List.set_cons_succ]
      have ab := alloc_below V0 (.cells #[.bool false, .slice none 0 0] 24)
      have T7 := Two.start V0 (.bool false) (.slice none 0 0) 24
      have hg7 := D0.lts
      have D1 := D0.below ab
      clear ab
      generalize V0.heap.size = g7 at *
      generalize V0.alloc (.cells #[.bool false, .slice none 0 0] 24) = V1 at *
      refine Go.Un.two (i := 2) (j := 6) rfl rfl (by kernel_rfl) (fun K hK => ?_) (fun K hK => ?_)
      · go_simp
        go_at_call 21; (with_reducible refine (HM1.out V1 D1.bl).mono ?_); rintro e V2 ⟨P1, p1, q1, rfl, r1, _, bb⟩
        have D2 := D1.below bb
        have T7_2 := T7.below bb
        refine hK.out _ _ (fun _ => D2.s6) ?_
        clear hK
        clear K
        clear bb
        try simp only [Act.put, List.setIfInBounds_toArray, List.set_cons_zero, List.set_cons_succ]
        refine Go.Un.two (i := 5) (j := 6) rfl rfl (by kernel_rfl) (fun K hK => ?_) (fun K hK => ?_)
        · go_simp
          go_at_call 18; (with_reducible refine (HA1.out V2 D2.bl).mono ?_); rintro e V3 ⟨P2, p2, q2, rfl, r2, _, bb⟩
          have D3 := D2.below bb
          have T7_3 := T7_2.below bb
          have r1_3 := r1.below bb
          refine hK.out _ _ (fun _ => D3.s6) ?_
          clear hK
          clear K
          clear bb
          try simp only [Act.put, List.setIfInBounds_toArray, List.set_cons_zero, List.set_cons_succ]
          refine Go.Un.one (i := 6) rfl (by kernel_rfl) (fun K hK => ?_)
          go_simp
          refine hK.out _ _ (fun _ => (D3.below (alloc_below _ _)).s6) ?_
          clear hK
          clear K
          try simp only [Act.put, List.setIfInBounds_toArray, List.set_cons_zero, List.set_cons_succ]
          have ab := alloc_below V3 (.cells #[.bool false, .slice none 0 0] 24)
          have T6 := Two.start V3 (.bool false) (.slice none 0 0) 24
          have hg6 := D3.lts
          have hne := T7_3.lt
          have D4 := D3.below ab
          have T7_4 := T7_3.below ab
          have r1_4 := r1_3.below ab
          have r2_4 := r2.below ab
          clear ab
          generalize V3.heap.size = g6 at *
          generalize V3.alloc (.cells #[.bool false, .slice none 0 0] 24) = V4 at *
          have f0 := T6.f0
          have f1 := T6.f1
          have c0 := T6.c0
          have c1 := T6.c1
          have E1 := D4.store hg6 (.bool (decide (v1 < 0))) (.slice P1 p1 q1)
          have Y7 := Two.far T7_4 (show g7 ≠ g6 by omega) (.bool (decide (v1 < 0))) (.slice P1 p1 q1)
          have Y6 := T6.store (.bool (decide (v1 < 0))) (.slice P1 p1 q1)
          have yx := si_two r1_4 T6 (.bool (decide (v1 < 0))) (.slice P1 p1 q1)
          have yy := si_two r2_4 T6 (.bool (decide (v1 < 0))) (.slice P1 p1 q1)
          refine Go.Un.one (i := 8) rfl (by kernel_rfl) (fun K hK => ?_)
          go_simp
          refine hK.out _ _ (fun _ => E1.s6) ?_
          clear hK
          clear K
          try simp only [Act.put, List.setIfInBounds_toArray, List.set_cons_zero, List.set_cons_succ]
          clear c0 c1 f0 f1
          generalize ((V4.setCell _ _).setCell _ _) = u1 at *
          have c0 := Y7.c0
          have c1 := Y7.c1
          have f0 := Y7.f0
          have f1 := Y7.f1
          have E2 := E1.store hg7 (.bool (decide (v2 < 0))) (.slice P2 p2 q2)
          have X6 := Two.far Y6 (show g6 ≠ g7 by omega) (.bool (decide (v2 < 0))) (.slice P2 p2 q2)
          have X7 := Y7.store (.bool (decide (v2 < 0))) (.slice P2 p2 q2)
          have xx := si_two yx Y7 (.bool (decide (v2 < 0))) (.slice P2 p2 q2)
          have xy := si_two yy Y7 (.bool (decide (v2 < 0))) (.slice P2 p2 q2)
          refine Go.Un.one (i := 9) rfl (by kernel_rfl) (fun K hK => ?_)
          go_simp
          refine hK.out _ _ (fun h => by exact absurd h (by decide)) ?_
          clear hK
          clear K
          try simp only [Act.put, List.setIfInBounds_toArray, List.set_cons_zero, List.set_cons_succ]
          refine Go.Un.done (by kernel_rfl) ?_ _
          exact hk _ _ ⟨g6, g7, P1, p1, q1, P2, p2, q2, rfl, E2, X6, X7, xx, xy⟩
        · go_simp
          refine hK.out _ _ (fun _ => (D2.below (alloc_below _ _)).s6) ?_
          clear hK
          clear K
          try simp only [Act.put, List.setIfInBounds_toArray, List.set_cons_zero, List.set_cons_succ]
          have ab := alloc_below V2 (.cells #[.bool false, .slice none 0 0] 24)
          have T6 := Two.start V2 (.bool false) (.slice none 0 0) 24
          have hg6 := D2.lts
          have hne := T7_2.lt
          have D3 := D2.below ab
          have T7_3 := T7_2.below ab
          have r1_3 := r1.below ab
          clear ab
          generalize V2.heap.size = g6 at *
          generalize V2.alloc (.cells #[.bool false, .slice none 0 0] 24) = V3 at *
          refine Go.Un.one (i := 5) rfl (by kernel_rfl) (fun K hK => ?_)
          go_simp
          go_at_call 18; (with_reducible refine (HA1.out V3 D3.bl).mono ?_); rintro e V4 ⟨P2, p2, q2, rfl, r2, _, bb⟩
          have D4 := D3.below bb
          have T6_4 := T6.below bb
          have T7_4 := T7_3.below bb
          have r1_4 := r1_3.below bb
          refine hK.out _ _ (fun _ => D4.s6) ?_
          clear hK
          clear K
          clear bb
          try simp only [Act.put, List.setIfInBounds_toArray, List.set_cons_zero, List.set_cons_succ]
          have f0 := T6_4.f0
          have f1 := T6_4.f1
          have c0 := T6_4.c0
          have c1 := T6_4.c1
          have E1 := D4.store hg6 (.bool (decide (v1 < 0))) (.slice P1 p1 q1)
          have Y7 := Two.far T7_4 (show g7 ≠ g6 by omega) (.bool (decide (v1 < 0))) (.slice P1 p1 q1)
          have Y6 := T6_4.store (.bool (decide (v1 < 0))) (.slice P1 p1 q1)
          have yx := si_two r1_4 T6_4 (.bool (decide (v1 < 0))) (.slice P1 p1 q1)
          have yy := si_two r2 T6_4 (.bool (decide (v1 < 0))) (.slice P1 p1 q1)
          refine Go.Un.one (i := 8) rfl (by kernel_rfl) (fun K hK => ?_)
          go_simp
          refine hK.out _ _ (fun _ => E1.s6) ?_
          clear hK
          clear K
          try simp only [Act.put, List.setIfInBounds_toArray, List.set_cons_zero, List.set_cons_succ]
          clear c0 c1 f0 f1
          generalize ((V4.setCell _ _).setCell _ _) = u1 at *
          have c0 := Y7.c0
          have c1 := Y7.c1
          have f0 := Y7.f0
          have f1 := Y7.f1
          have E2 := E1.store hg7 (.bool (decide (v2 < 0))) (.slice P2 p2 q2)
          have X6 := Two.far Y6 (show g6 ≠ g7 by omega) (.bool (decide (v2 < 0))) (.slice P2 p2 q2)
          have X7 := Y7.store (.bool (decide (v2 < 0))) (.slice P2 p2 q2)
          have xx := si_two yx Y7 (.bool (decide (v2 < 0))) (.slice P2 p2 q2)
          have xy := si_two yy Y7 (.bool (decide (v2 < 0))) (.slice P2 p2 q2)
          refine Go.Un.one (i := 9) rfl (by kernel_rfl) (fun K hK => ?_)
          go_simp
          refine hK.out _ _ (fun h => by exact absurd h (by decide)) ?_
          clear hK
          clear K
          try simp only [Act.put, List.setIfInBounds_toArray, List.set_cons_zero, List.set_cons_succ]
          refine Go.Un.done (by kernel_rfl) ?_ _
          exact hk _ _ ⟨g6, g7, P1, p1, q1, P2, p2, q2, rfl, E2, X6, X7, xx, xy⟩
      · go_simp
        refine hK.out _ _ (fun _ => (D1.below (alloc_below _ _)).s6) ?_
        clear hK
        clear K
        try simp only [Act.put, List.setIfInBounds_toArray, List.set_cons_zero, List.set_cons_succ]
        have ab := alloc_below V1 (.cells #[.bool false, .slice none 0 0] 24)
        have T6 := Two.start V1 (.bool false) (.slice none 0 0) 24
        have hg6 := D1.lts
        have hne := T7.lt
        have D2 := D1.below ab
        have T7_2 := T7.below ab
        clear ab
        generalize V1.heap.size = g6 at *
        generalize V1.alloc (.cells #[.bool false, .slice none 0 0] 24) = V2 at *
        refine Go.Un.one (i := 2) rfl (by kernel_rfl) (fun K hK => ?_)
        go_simp
        go_at_call 21; (with_reducible refine (HM1.out V2 D2.bl).mono ?_); rintro e V3 ⟨P1, p1, q1, rfl, r1, _, bb⟩
        have D3 := D2.below bb
        have T6_3 := T6.below bb
        have T7_3 := T7_2.below bb
        refine hK.out _ _ (fun _ => D3.s6) ?_
        clear hK
        clear K
        clear bb
        try simp only [Act.put, List.setIfInBounds_toArray, List.set_cons_zero, List.set_cons_succ]
        refine Go.Un.one (i := 5) rfl (by kernel_rfl) (fun K hK => ?_)
        go_simp
        go_at_call 18; (with_reducible refine (HA1.out V3 D3.bl).mono ?_); rintro e V4 ⟨P2, p2, q2, rfl, r2, _, bb⟩
        have D4 := D3.below bb
        have T6_4 := T6_3.below bb
        have T7_4 := T7_3.below bb
        have r1_4 := r1.below bb
        refine hK.out _ _ (fun _ => D4.s6) ?_
        clear hK
        clear K
        clear bb
        try simp only [Act.put, List.setIfInBounds_toArray, List.set_cons_zero, List.set_cons_succ]
        have f0 := T6_4.f0
        have f1 := T6_4.f1
        have c0 := T6_4.c0
        have c1 := T6_4.c1
        have E1 := D4.store hg6 (.bool (decide (v1 < 0))) (.slice P1 p1 q1)
        have Y7 := Two.far T7_4 (show g7 ≠ g6 by omega) (.bool (decide (v1 < 0))) (.slice P1 p1 q1)
        have Y6 := T6_4.store (.bool (decide (v1 < 0))) (.slice P1 p1 q1)
        have yx := si_two r1_4 T6_4 (.bool (decide (v1 < 0))) (.slice P1 p1 q1)
        have yy := si_two r2 T6_4 (.bool (decide (v1 < 0))) (.slice P1 p1 q1)
        refine Go.Un.one (i := 8) rfl (by kernel_rfl) (fun K hK => ?_)
        go_simp
        refine hK.out _ _ (fun _ => E1.s6) ?_
        clear hK
        clear K
        try simp only [Act.put, List.setIfInBounds_toArray, List.set_cons_zero, List.set_cons_succ]
        clear c0 c1 f0 f1
        generalize ((V4.setCell _ _).setCell _ _) = u1 at *
        have c0 := Y7.c0
        have c1 := Y7.c1
        have f0 := Y7.f0
        have f1 := Y7.f1
        have E2 := E1.store hg7 (.bool (decide (v2 < 0))) (.slice P2 p2 q2)
        have X6 := Two.far Y6 (show g6 ≠ g7 by omega) (.bool (decide (v2 < 0))) (.slice P2 p2 q2)
        have X7 := Y7.store (.bool (decide (v2 < 0))) (.slice P2 p2 q2)
        have xx := si_two yx Y7 (.bool (decide (v2 < 0))) (.slice P2 p2 q2)
        have xy := si_two yy Y7 (.bool (decide (v2 < 0))) (.slice P2 p2 q2)
        refine Go.Un.one (i := 9) rfl (by kernel_rfl) (fun K hK => ?_)
        go_simp
        refine hK.out _ _ (fun h => by exact absurd h (by decide)) ?_
        clear hK
        clear K
        try simp only [Act.put, List.setIfInBounds_toArray, List.set_cons_zero, List.set_cons_succ]
        refine Go.Un.done (by kernel_rfl) ?_ _
        exact hk _ _ ⟨g6, g7, P1, p1, q1, P2, p2, q2, rfl, E2, X6, X7, xx, xy⟩
end Go.Proofs.YtkaajgcjdgjcbaaGreatDoor.Aw
