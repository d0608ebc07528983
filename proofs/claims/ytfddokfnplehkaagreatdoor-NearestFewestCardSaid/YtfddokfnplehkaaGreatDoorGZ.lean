/- Texts of one layer, joined: Fr. -/
import Derived.Test.YtfddokfnplehkaaGreatDoorFC
set_option linter.unusedVariables false
set_option linter.unusedSimpArgs false
set_option linter.unusedSectionVars false
/- Layer 4's laws: NearestFewest. -/
set_option linter.unusedSimpArgs false
set_option linter.unusedVariables false
namespace Go.Proofs.YtfddokfnplehkaaGreatDoor.Nr
open Go.RowKit Go.Proofs.YtfddokfnplehkaaGreatDoor.Dig Go.Proofs.YtfddokfnplehkaaGreatDoor.W Go.Proofs.YtfddokfnplehkaaGreatDoor.Nat Go.Proofs.YtfddokfnplehkaaGreatDoor.Wh Go.Proofs.YtfddokfnplehkaaGreatDoor.Td Go.Proofs.YtfddokfnplehkaaGreatDoor.Bu Go.Proofs.YtfddokfnplehkaaGreatDoor.Tx Go.Proofs.YtfddokfnplehkaaGreatDoor.Sp
open Go.Proofs.YtfddokfnplehkaaGreatDoor.Rf (V V_two V_pos)
open Go.Proofs.YtfddokfnplehkaaGreatDoor.Rd (stand Formed fits mayB)
open Go.Proofs.YtfddokfnplehkaaGreatDoor.Dc (on dec str four frz)

theorem take_list (l : List UInt8) (n : Nat) : ((⟨l.toArray⟩ : ByteArray).extract 0 n).data.toList = l.take n := by
  rw [ByteArray.data_extract, Array.toList_extract]
  simp
theorem take_pos {l : List UInt8} (h : Formed l) {n : Nat} (hn : 0 < n) : 0 < nv 0 (l.take n) := by
  obtain ⟨c, r, e, hc⟩ := h.head
  have hd := h.dig c (by rw [e]; exact List.mem_cons_self)
  obtain ⟨k, rfl⟩ : ∃ k, n = k + 1 := ⟨n - 1, by omega⟩
  rw [e, List.take_succ_cons, nv_cons0]
  have h2 : c.toNat ≠ 48 := fun k => by
    have : c = 48 := UInt8.toNat_inj.mp k
    rw [this] at hc
    exact absurd hc (by decide)
  have h3 : 1 ≤ c.toNat - 48 := by unfold isDig at hd; omega
  have h4 := Nat.mul_le_mul h3 (Nat.le_of_lt_succ (Nat.lt_succ_of_le (p10 (r.take k).length)))
  omega
set_option maxHeartbeats 8000000 in
set_option maxRecDepth 100000 in
theorem cut_calls (g more : Bool) (l : List UInt8) (x : Int) (n : Nat) (w : World) (hd : ∀ c ∈ l, isDig c) (hn : n ≤ l.length) (hl : l.length ≤ 100) (hx : -4000 ≤ x) (hx' : x ≤ 4000) :
    Calls Tryz.prog 33 #[.agg #[.int .i64 0, .bool g, .string ⟨l.toArray⟩, .int .i64 x], .int .i64 (n : Nat), .bool more] w fun e w' =>
      e = .returned (.agg #[.int .i64 0, .bool g, .string ⟨(cd (nv 0 (l.take n) + more.toNat)).toArray⟩, .int .i64 (ce (nv 0 (l.take n) + more.toNat) (x + l.length - n))]) ∧ Below w.heap.size w w' := by
  have hS : (⟨l.toArray⟩ : ByteArray).size = l.length := Dc.size_of l
  have hz : nv 0 (l.take n) < 10 ^ 100 := Nat.lt_of_lt_of_le (nv_lt (fun b hb => hd b (List.mem_of_mem_take hb))) (Nat.pow_le_pow_right (by omega) (by rw [List.length_take]; omega))
  have hOf : ∀ w1, Calls Tryz.prog 24 #[.string ((⟨l.toArray⟩ : ByteArray).extract 0 n)] w1 (Gives w1 .u32 (digs V (nv 0 (l.take n)))) := fun w1 => by
    have e := Rw.rof_calls ((⟨l.toArray⟩ : ByteArray).extract 0 n) (by rw [Lib.size_eq, take_list, List.length_take]; omega) (by rw [take_list]; exact fun b hb => hd b (List.mem_of_mem_take hb)) w1
    rw [take_list] at e
    exact e.mono fun _ _ h => h.gives
  have bz : Bt (nv 0 (l.take n)) 500 := by
    have := (ten_bt (k := 100) (j := 40) (by omega)).le (Nat.le_of_lt hz)
    exact this.mono (by omega)
  have bz1 : Bt (nv 0 (l.take n) + more.toNat) 501 := by
    have h1 : more.toNat ≤ 1 := by cases more <;> decide
    exact (bz.succ).le (by omega)
  have hdl : (Lib.decDigits (nv 0 (l.take n) + more.toNat)).length ≤ 8192 := by
    have h1 : more.toNat ≤ 1 := by cases more <;> decide
    have := dec_len_le (a := nv 0 (l.take n) + more.toNat) (k := 101) (by rw [Nat.pow_succ]; omega) (by omega)
    omega
  have HAd := Lib.hid (fun (A A' : Option Addr) (a c a' c' : Nat) (w1 : World) (h : SI w1 .u32 A a c (digs V (nv 0 (l.take n)))) (h' : SI w1 .u32 A' a' c' (digs V 1)) => Sh.radd_e A A' a c a' c' (nv 0 (l.take n)) 1 w1 h h' (by have := bz.len16; omega) (by have := (Bt.one (a := 1) (by omega)).len16; omega))
  have HDe := Lib.hid (fun (A : Option Addr) (a c : Nat) (w1 : World) (h : SI w1 .u32 A a c (digs V (nv 0 (l.take n) + more.toNat))) (y : Int) (hy : y = x + l.length - n) => (show Calls Tryz.prog 31 #[.bool g, .slice A a c, .int .i64 y] w1 fun e w' => e = .returned (.agg #[.int .i64 0, .bool g, .string ⟨(cd (nv 0 (l.take n) + more.toNat)).toArray⟩, .int .i64 (ce (nv 0 (l.take n) + more.toNat) (x + l.length - n))]) ∧ Below w1.heap.size w1 w' from by
    subst hy
    exact Sh.rdec_f g A a c _ _ w1 h (by have := bz1.len16; omega) hdl (by omega) (by omega)))
  obtain ⟨B1, B2, bl⟩ := Dc.bk_two w #[.int .i64 0, .bool g, .string ⟨l.toArray⟩, .int .i64 x] #[.int .i64 0, .bool false, .string ⟨#[]⟩, .int .i64 0] 23 23
  replace hOf := Lib.hid hOf
  have HB1 := Lib.hid B1
  have HB2 := Lib.hid B2
  have HB := Lib.hid bl
  generalize ce (nv 0 (l.take n) + more.toNat) (x + l.length - n) = z at *
  generalize (⟨(cd (nv 0 (l.take n) + more.toNat)).toArray⟩ : ByteArray) = Z at *
  clear hz bz bz1 hdl hd B1 B2 bl
  cases more
  · simp only [Bool.toNat_false, Nat.add_zero] at HDe
    generalize nv 0 (l.take n) = D at *
    have hsn : (n : Int) ≤ ((⟨l.toArray⟩ : ByteArray).size : Int) := by omega
    have hSz := Lib.hid hS
    generalize hSS : (⟨l.toArray⟩ : ByteArray) = S at *
    clear hSS
    go_enter Tryz.func33, Tryz.ntmps33
    have k0 := four HB1.out
    have k0' := four HB2.out
    go_wp2_with (first
      | (go_at_call 24; (with_reducible refine (hOf.out _).mono ?_); rintro e w1 ⟨A1, n1, c1, rfl, r1, b1⟩; have q1 := HB1.out.below b1; have q2 := HB2.out.below b1; have k1 := four q1; have z1 := on HB.out b1)
      | (go_at_call 31; (with_reducible refine (HDe.out _ _ _ _ r1 _ ?_).mono ?_); (have := hSz.out; omega); rintro e w2 ⟨rfl, b2⟩; have p2 := q2.below b2; have k2 := four p2; have f2 := frz p2; have z2 := on z1 b2))
    refine bodyPost_ret (res_bk rfl _ (Bk.set4 p2 _ _ _ _ rfl) rfl Tryz.underlying23 rfl (by kernel_rfl)) rfl ⟨rfl, ?_⟩
    exact Dc.below_set4 z2 (Nat.le_succ _) _ _ _ _
  · simp only [Bool.toNat_true] at HDe
    generalize nv 0 (l.take n) = D at *
    have hsn : (n : Int) ≤ ((⟨l.toArray⟩ : ByteArray).size : Int) := by omega
    have hSz := Lib.hid hS
    generalize hSS : (⟨l.toArray⟩ : ByteArray) = S at *
    clear hSS
    go_enter Tryz.func33, Tryz.ntmps33
    have k0 := four HB1.out
    have k0' := four HB2.out
    go_wp2_with (first
      | (go_at_call 24; (with_reducible refine (hOf.out _).mono ?_); rintro e w1 ⟨A1, n1, c1, rfl, r1, b1⟩; have a1 := alloc_below w1 (.cells #[.int .u32 1] 34); have o1 := one16 w1; have r11 := r1.below a1; have q1 := (HB1.out.below b1).below a1; have q2 := (HB2.out.below b1).below a1; have k1 := four q1; have z1 := on (on HB.out b1) a1)
      | (go_at_call 30; (with_reducible refine (HAd.out A1 _ n1 c1 _ _ _ r11 o1).mono ?_); rintro e w5 ⟨A5, n5, c5, rfl, r5, b5⟩; have q15 := q1.below b5; have q25 := q2.below b5; have k5 := four q15; have z5 := on z1 b5)
      | (go_at_call 31; (with_reducible refine (HDe.out _ _ _ _ r5 _ ?_).mono ?_); (have := hSz.out; omega); rintro e w2 ⟨rfl, b2⟩; have p2 := q25.below b2; have k2 := four p2; have f2 := frz p2; have z2 := on z5 b2))
    refine bodyPost_ret (res_bk rfl _ (Bk.set4 p2 _ _ _ _ rfl) rfl Tryz.underlying23 rfl (by kernel_rfl)) rfl ⟨rfl, ?_⟩
    exact Dc.below_set4 z2 (Nat.le_succ _) _ _ _ _
set_option maxHeartbeats 8000000 in
set_option maxRecDepth 100000 in
theorem fewest_off (c : Int) (g : Bool) (S : ByteArray) (x z : Int) (w : World) (hp : Pow w) (hc : (c == 0) = false ∧ ¬ c = 0 ∨ (c = 0 ∧ (S.size : Int) < 2))
    (HO : Calls Tryz.prog 32 #[.int .u64 z] w fun e w' => e = .returned (.agg #[.int .i64 c, .bool g, .string S, .int .i64 x]) ∧ Below w.heap.size w w') :
    Calls Tryz.prog 8 #[.int .u64 z] w fun e w' => e = .returned (.bool true) ∧ Below w.heap.size w w' := by
  have HA := Lib.hid (fun w1 (b : Below w.heap.size w w1) => awake_calls w1 (hp.below b))
  replace HO := Lib.hid HO
  clear hp
  rcases hc with ⟨e1, e2⟩ | ⟨rfl, e1⟩
  · go_enter Tryz.func8, Tryz.ntmps8
    go_wp2_with (first
      | (go_at_call 32; (with_reducible refine HO.out.mono ?_); rintro e w1 ⟨rfl, b1⟩; have a1 := alloc_below w1 (.cells #[.int .i64 c, .bool g, .string S, .int .i64 x] 23); have q1 := Bk.start w1 23 #[.int .i64 c, .bool g, .string S, .int .i64 x]; have z1 := on b1 a1; have k1 := four q1)
      | (go_at_call 12; (with_reducible refine (HA.out _ z1).mono ?_); rintro e w2 ⟨rfl, b2⟩; have z2 := on z1 b2; have k2 := four (q1.below b2)))
    go_ret
    exact ⟨rfl, z2⟩
  · go_enter Tryz.func8, Tryz.ntmps8
    go_wp2_with (first
      | (go_at_call 32; (with_reducible refine HO.out.mono ?_); rintro e w1 ⟨rfl, b1⟩; have a1 := alloc_below w1 (.cells #[.int .i64 0, .bool g, .string S, .int .i64 x] 23); have q1 := Bk.start w1 23 #[.int .i64 0, .bool g, .string S, .int .i64 x]; have z1 := on b1 a1; have k1 := four q1)
      | (go_at_call 12; (with_reducible refine (HA.out _ z1).mono ?_); rintro e w2 ⟨rfl, b2⟩; have z2 := on z1 b2; have k2 := four (q1.below b2)))
    go_ret
    exact ⟨rfl, z2⟩
set_option maxHeartbeats 8000000 in
set_option maxRecDepth 100000 in
theorem fewest_on (g : Bool) (S : ByteArray) (x c1 x1 c2 x2 : Int) (g1 g2 : Bool) (S1 S2 : ByteArray) (wide t1 t2 : Nat) (w : World) (hp : Pow w) (hS : 2 ≤ S.size) (hS' : S.size ≤ 1000) (h1 : t1 ≠ wide) (h2 : t2 ≠ wide)
    (HO : Calls Tryz.prog 32 #[.int .u64 (wide : Nat)] w fun e w' => e = .returned (.agg #[.int .i64 0, .bool g, .string S, .int .i64 x]) ∧ Below w.heap.size w w')
    (HC1 : ∀ w1, Calls Tryz.prog 33 #[.agg #[.int .i64 0, .bool g, .string S, .int .i64 x], .int .i64 ((S.size : Int) - 1), .bool false] w1 fun e w' => e = .returned (.agg #[.int .i64 c1, .bool g1, .string S1, .int .i64 x1]) ∧ Below w1.heap.size w1 w')
    (HC2 : ∀ w1, Calls Tryz.prog 33 #[.agg #[.int .i64 0, .bool g, .string S, .int .i64 x], .int .i64 ((S.size : Int) - 1), .bool true] w1 fun e w' => e = .returned (.agg #[.int .i64 c2, .bool g2, .string S2, .int .i64 x2]) ∧ Below w1.heap.size w1 w')
    (HT1 : ∀ w1, Calls Tryz.prog 11 #[.agg #[.int .i64 c1, .bool g1, .string S1, .int .i64 x1]] w1 fun e w' => e = .returned (.tuple #[.int .u64 (t1 : Nat), .int .i64 0]) ∧ Below w1.heap.size w1 w')
    (HT2 : ∀ w1, Calls Tryz.prog 11 #[.agg #[.int .i64 c2, .bool g2, .string S2, .int .i64 x2]] w1 fun e w' => e = .returned (.tuple #[.int .u64 (t2 : Nat), .int .i64 0]) ∧ Below w1.heap.size w1 w') :
    Calls Tryz.prog 8 #[.int .u64 (wide : Nat)] w fun e w' => e = .returned (.bool true) ∧ Below w.heap.size w w' := by
  have HA := Lib.hid (fun w1 (b : Below w.heap.size w w1) => awake_calls w1 (hp.below b))
  have n1 : ((t1 : Int) == (wide : Int)) = false := by simp; omega
  have n2 : ((t2 : Int) == (wide : Int)) = false := by simp; omega
  have m1 : ¬ ((t1 : Int) = (wide : Int)) := by omega
  have m2 : ¬ ((t2 : Int) = (wide : Int)) := by omega
  replace HO := Lib.hid HO
  replace HC1 := Lib.hid HC1
  replace HC2 := Lib.hid HC2
  replace HT1 := Lib.hid HT1
  replace HT2 := Lib.hid HT2
  clear hp h1 h2
  go_enter Tryz.func8, Tryz.ntmps8
  go_wp2_with (first
    | (go_at_call 32; (with_reducible refine HO.out.mono ?_); rintro e w1 ⟨rfl, b1⟩; have a1 := alloc_below w1 (.cells #[.int .i64 0, .bool g, .string S, .int .i64 x] 23); have q1 := Bk.start w1 23 #[.int .i64 0, .bool g, .string S, .int .i64 x]; have z1 := on b1 a1; have k1 := four q1)
    | (go_at_call 12; (with_reducible refine (HA.out _ z1).mono ?_); rintro e w2 ⟨rfl, b2⟩; have z2 := on z1 b2; have q2 := q1.below b2; have k2 := four q2)
    | (go_at_call 33; first
      | ((with_reducible refine (HC1.out _).mono ?_); rintro e w3 ⟨rfl, b3⟩; have a3 := alloc_below w3 (.cells #[.int .i64 c1, .bool g1, .string S1, .int .i64 x1] 23); have d3 := Bk.start w3 23 #[.int .i64 c1, .bool g1, .string S1, .int .i64 x1]; have q3 := (q2.below b3).below a3; have k3 := four q3; have z3 := on (on z2 b3) a3)
      | ((with_reducible refine (HC2.out _).mono ?_); rintro e w4 ⟨rfl, b4⟩; have a4 := alloc_below w4 (.cells #[.int .i64 c2, .bool g2, .string S2, .int .i64 x2] 23); have f4 := Bk.start w4 23 #[.int .i64 c2, .bool g2, .string S2, .int .i64 x2]; have d4 := (d3.below b4).below a4; have k4 := four d4; have j4 := four f4; have z4 := on (on z3 b4) a4))
    | (go_at_call 11; first
      | (have tag := z5; (with_reducible refine (HT2.out _).mono ?_); rintro e w6 ⟨rfl, b6⟩; have z6 := on z5 b6)
      | ((with_reducible refine (HT1.out _).mono ?_); rintro e w5 ⟨rfl, b5⟩; have z5 := on z4 b5; have j5 := four (f4.below b5))))
  go_ret
  exact ⟨by simp [n1, n2, m1, m2], z6⟩
/-- with one digit less, rounded: which number is read -/
theorem cut_read {g : Bool} {b X : Nat} {y : Int} (hX : 0 < X) (hX' : X ≤ 10 ^ 17) (hy : -1100 ≤ y) (hy' : y ≤ 400) (hb : b < 9218868437227405312) (h : ¬ NearD 52 1074 X y b) :
    pM (0, g, cd X, ce X y) = true ∧ pT_w (0, g, cd X, ce X y) ≠ sg_w g ||| b := by
  have hX0 : X ≠ 0 := by omega
  have hc := cd_len (a := X) (k := 0) (D := 17) (by rw [Nat.pow_zero]; exact Nat.one_dvd _) (by omega) hX'
  have htz : tz X ≤ 17 := by
    have := nv_cd X
    have h1 := (Rd.formed_cd hX0).pos
    have h2 : 10 ^ tz X ≤ 10 ^ 17 := by
      have h2 : 10 ^ tz X ≤ nv 0 (cd X) * 10 ^ tz X := Nat.le_mul_of_pos_left _ h1
      exact Nat.le_trans h2 (Nat.le_trans (Nat.le_of_eq this) hX')
    exact (Nat.pow_le_pow_iff_right (by omega)).1 h2
  have he : ce X y = y + (tz X : Int) := by unfold ce; rw [if_neg hX0]
  have hlen := (Rd.formed_cd hX0).len
  have hm : mayB 0 g (cd X) (ce X y) = true := may_of hX0 (by unfold fits; rw [he]; omega)
  refine ⟨hm, ?_⟩
  have hn := nb_spec (M := 52) (by omega) 1074 (nv 0 (cd X)) (ce X y)
  rw [pT_fin_w hm (fun e => hX0 (cd_nil.1 e)) hn]
  intro e
  have hinj : ∀ a c : Nat, a < 9223372036854775808 → c < 9223372036854775808 → sg_w g ||| a = sg_w g ||| c → a = c := by
    intro a c ha hc e
    cases g
    · have e' : 0 ||| a = 0 ||| c := e
      rwa [Nat.zero_or, Nat.zero_or] at e'
    · have e' : 9223372036854775808 ||| a = 9223372036854775808 ||| c := e
      have f1 := Nat.two_pow_add_eq_or_of_lt (i := 63) (b := a) ha 1
      have f2 := Nat.two_pow_add_eq_or_of_lt (i := 63) (b := c) hc 1
      simp only [Nat.reducePow, Nat.mul_one] at f1 f2
      omega
  have e2 := hinj _ _ (by omega) (by omega) e
  have e3 : nb 52 1074 (nv 0 (cd X)) (ce X y) = b := by omega
  rw [e3, nearD_cd hX0] at hn
  exact h hn
set_option exponentiation.threshold 2000 in
theorem nearestFewest_calls {wide : Nat} (hw : wide < 18446744073709551616) (w : World) (hp : Pow w) :
    Calls Tryz.prog 8 #[.int .u64 (wide : Nat)] w fun e w' => e = .returned (.bool true) ∧ Below w.heap.size w w' := by
  have HO := Sh.Of64_calls hw w hp
  rw [oV_p_w] at HO
  have hs := sg_or_w hw
  have hlt : wide % 9223372036854775808 < 9223372036854775808 := Nat.mod_lt _ (by decide)
  unfold oP_w at HO
  generalize hb : wide % 9223372036854775808 = b at *
  generalize decide (wide / 9223372036854775808 = 1) = g at *
  by_cases h1 : b / 4503599627370496 = 2047
  · rw [if_pos h1] at HO
    by_cases h2 : b % 4503599627370496 = 0
    · rw [if_pos h2] at HO
      exact fewest_off 1 g ⟨#[]⟩ 0 wide w hp (.inl ⟨rfl, by decide⟩) HO
    · rw [if_neg h2] at HO
      exact fewest_off 2 false ⟨#[]⟩ 0 wide w hp (.inl ⟨rfl, by decide⟩) HO
  · rw [if_neg h1] at HO
    by_cases h0 : b = 0
    · rw [if_pos h0] at HO
      exact fewest_off 0 g ⟨#[]⟩ 0 wide w hp (.inr ⟨rfl, by decide⟩) HO
    · rw [if_neg h0] at HO
      have hb0 : 0 < b := Nat.pos_of_ne_zero h0
      have hbI : b < 9218868437227405312 := by omega
      have h3 : b / 2 ^ 52 < 2047 := by simp only [Nat.reducePow]; omega
      have hF := Rd.formed_cd (fF_pos (M := 52) (Z := 1076) hb0)
      have hl := fF_len (M := 52) (Z := 1076) (s := 17) hb0 (by omega) (by decide)
      have hx := fF_exp hb0 h3
      have hcut : 2 ≤ (cd (fF 52 1076 b)).length → ∀ X, ¬ NearD 52 1074 X (ce (fF 52 1076 b) ((un 1076 (b / 2 ^ 52 - 1) : Nat) - ((1076 : Nat) : Int)) + 1) b := fun h2 X => few_cut (M := 52) (L := 1074) (by omega) hb0 h2
      change Calls _ _ _ _ (fun e w' => e = .returned (.agg #[.int .i64 0, .bool g, .string ⟨(cd (fF 52 1076 b)).toArray⟩, .int .i64 (ce (fF 52 1076 b) ((un 1076 (b / 2 ^ 52 - 1) : Nat) - ((1076 : Nat) : Int)))]) ∧ Below w.heap.size w w') at HO
      generalize cd (fF 52 1076 b) = l at *
      generalize ce (fF 52 1076 b) ((un 1076 (b / 2 ^ 52 - 1) : Nat) - ((1076 : Nat) : Int)) = x at *
      have hS : (⟨l.toArray⟩ : ByteArray).size = l.length := Dc.size_of l
      by_cases hn : l.length < 2
      · exact fewest_off 0 g ⟨l.toArray⟩ x wide w hp (.inr ⟨rfl, by omega⟩) HO
      · have hn2 : 2 ≤ l.length := by omega
        have hX0 := take_pos hF (n := l.length - 1) (by omega)
        have hXl : nv 0 (l.take (l.length - 1)) < 10 ^ 16 := Nat.lt_of_lt_of_le (nv_lt (fun c hc => hF.dig c (List.mem_of_mem_take hc))) (Nat.pow_le_pow_right (by omega) (by rw [List.length_take]; omega))
        have C1 := fun w1 => cut_calls g false l x (l.length - 1) w1 hF.dig (by omega) (by omega) (by omega) (by omega)
        have C2 := fun w1 => cut_calls g true l x (l.length - 1) w1 hF.dig (by omega) (by omega) (by omega) (by omega)
        simp only [Bool.toNat_false, Bool.toNat_true, Nat.add_zero, show x + (l.length : Int) - ((l.length - 1 : Nat) : Int) = x + 1 by omega] at C1 C2
        have e1 : (((l.length - 1 : Nat) : Int)) = (((⟨l.toArray⟩ : ByteArray).size : Int) - 1) := by omega
        simp only [e1] at C1 C2
        obtain ⟨m1, r1⟩ := cut_read (g := g) (y := x + 1) hX0 (by have : (10 : Nat) ^ 17 = 10 ^ 16 * 10 := rfl; omega) (by omega) (by omega) hbI (hcut hn2 _)
        obtain ⟨m2, r2⟩ := cut_read (g := g) (X := nv 0 (l.take (l.length - 1)) + 1) (y := x + 1) (by omega) (by have : (10 : Nat) ^ 17 = 10 ^ 16 * 10 := rfl; omega) (by omega) (by omega) hbI (hcut hn2 _)
        rw [hs] at r1 r2
        have U1 := fun w1 => To64_calls _ w1 (len_p m1)
        have U2 := fun w1 => To64_calls _ w1 (len_p m2)
        unfold pE at U1 U2
        simp only [m1, m2, if_true] at U1 U2
        exact fewest_on g ⟨l.toArray⟩ x 0 _ 0 _ g g _ _ wide _ _ w hp (by omega) (by omega) r1 r2 HO C1 C2 U1 U2
theorem nearestFewest_row (z : Int) (h0 : 0 ≤ z) (h1 : z < 18446744073709551616) (w : World) (hp : Pow w) :
    Calls Tryz.prog 8 #[.int .u64 z] w fun e w' => e = .returned (.bool true) ∧ Below w.heap.size w w' := by
  obtain ⟨n, rfl⟩ : ∃ n : Nat, z = n := ⟨z.toNat, by omega⟩
  exact nearestFewest_calls (by omega) w hp
end Go.Proofs.YtfddokfnplehkaaGreatDoor.Nr
