/- Texts of one layer, joined: La, Qf, Tb, Tz, Ts, Tr, Lf. -/
import Derived.Test.YtkaajgcjdgjcbaaGreatDoorGF
import Derived.Test.YtkaajgcjdgjcbaaGreatDoorGE
set_option linter.unusedVariables false
set_option linter.unusedSimpArgs false
set_option linter.unusedSectionVars false
/- Layer 2's laws: WholePowers. -/
namespace Go.Proofs.YtkaajgcjdgjcbaaGreatDoor.Aw
open Go.RowKit Go.Proofs.YtkaajgcjdgjcbaaGreatDoor.Dig Go.Proofs.YtkaajgcjdgjcbaaGreatDoor.W Go.Proofs.YtkaajgcjdgjcbaaGreatDoor.Nat Go.Proofs.YtkaajgcjdgjcbaaGreatDoor.Wh Go.Proofs.YtkaajgcjdgjcbaaGreatDoor.Td Go.Proofs.YtkaajgcjdgjcbaaGreatDoor.Bu Go.Proofs.YtkaajgcjdgjcbaaGreatDoor.Tx
open Go.Proofs.YtkaajgcjdgjcbaaGreatDoor.Rf (V V_two V_pos)

theorem on {w W W' : World} (h : Below w.heap.size w W) (b : Below W.heap.size W W') : Below w.heap.size w W' := h.trans (b.mono h.size)
theorem rpow5 (n : Nat) (w : World) (hn : n ≤ 8192) : Calls Tryz.prog 30 #[.int .i64 5, .int .i64 (n : Nat)] w (Gives w .u32 (digs V (5 ^ n))) := rpow_calls 5 n w (by omega) (by omega) (by omega)
theorem rshl_d (A : Option Addr) (n c m k : Nat) (w : World) (h : SI w .u32 A n c (digs V m)) (hn : n ≤ 4398046511104) (hk : k ≤ 65536) :
    Calls Tryz.prog 33 #[.slice A n c, .int .i64 (k : Nat)] w (Rf.GivesF w .u32 (digs V (m * 2 ^ k))) := by
  have e := Rf.shl_calls A n c (digs V m) k w h (digs_lt V_two m) hn hk
  rw [val_digs V_two] at e
  exact e
theorem rpow_len' {a n x M : Nat} (ha : a ≤ 10) (hx : x ≤ a ^ n) (hn : n ≤ M) (hM : M ≠ 0) : (digs V x).length ≤ M := by
  refine (digs_length_le V_two _ _).2 (Nat.lt_of_le_of_lt hx ?_)
  have h1 : a ^ n ≤ 10 ^ n := Nat.pow_le_pow_left ha n
  have h2 : 10 ^ n ≤ 10 ^ M := Nat.pow_le_pow_right (by omega) hn
  have h3 : 10 ^ M < V ^ M := Nat.pow_lt_pow_left (by decide) hM
  exact Nat.lt_of_le_of_lt (Nat.le_trans h1 h2) h3
theorem rpow_len {a n x : Nat} (ha : a ≤ 10) (hx : x ≤ a ^ n) (hn : n ≤ 8192) : (digs V x).length ≤ 8192 := rpow_len' ha hx hn (by decide)
theorem five_ten (k : Nat) : 5 ^ k * 2 ^ k = 10 ^ k := by rw [← Nat.mul_pow]
set_option maxHeartbeats 4000000 in
set_option maxRecDepth 100000 in
theorem wholePowers_calls (z : Int) (w : World) (hp : Pow w) :
    Calls Tryz.prog 5 #[.int .i64 z] w fun e w' => e = .returned (.bool true) ∧ Below w.heap.size w w' := by
  have HP := Lib.hid hp
  clear hp
  by_cases hin : 0 ≤ z ∧ z ≤ 8192
  · obtain ⟨k, rfl⟩ : ∃ k : Nat, z = k := ⟨z.toNat, by omega⟩
    have hk : k ≤ 8192 := by omega
    clear hin
    have hL1 := rpow_len (a := 5) (by omega) (Nat.le_refl _) hk
    have hL2 := rpow_len (a := 10) (by omega) (Nat.le_refl _) hk
    have HL1 := Lib.hid hL1
    have HL2 := Lib.hid hL2
    have h5 := five_ten k
    have H5 := Lib.hid h5
    have HA := Lib.hid (fun w1 => pow5_calls k w1 hk)
    have HB := Lib.hid (fun w1 => Wh.pow10_calls k w1 hk)
    have HC := Lib.hid (fun w1 => rpow5 k w1 hk)
    have HD := Lib.hid (fun (A : Option Addr) (n c : Nat) (w1 : World) (h : SI w1 .u32 A n c (digs V (5 ^ k))) => rshl_d A n c (5 ^ k) k w1 h (by rw [← h.len]; omega) (by omega))
    rw [h5] at HD
    clear hL1 hL2 h5
    generalize 5 ^ k = p at *
    generalize 10 ^ k = t at *
    go_enter Tryz.func5, Tryz.ntmps5
    go_wp2_with (first
      | (go_at_call 28; (with_reducible refine (HA.out w).mono ?_); rintro e w1 ⟨A1, n1, c1, rfl, r1, b1⟩)
      | (go_at_call 29; (with_reducible refine (HB.out w1).mono ?_); rintro e w2 ⟨A2, n2, c2, rfl, r2, b2⟩)
      | (go_at_call 13; (with_reducible refine (awake_calls w2 ((HP.out.below b1).below b2)).mono ?_); rintro e w3 ⟨rfl, b3⟩)
      | (go_at_call 30; (with_reducible refine (HC.out w3).mono ?_); rintro e w4 ⟨A4, n4, c4, rfl, r4, b4⟩)
      | (go_at_call 32; first
        | ((with_reducible refine (Rw.out_d A4 n4 c4 p w4 r4 (by rw [← r4.len]; have := HL1.out; omega)).mono ?_); rintro e w5 ⟨v5, rfl, o5, b5⟩; obtain ⟨A5, n5, c5, rfl, r5⟩ := o5.reads_n)
        | ((with_reducible refine (Rw.out_d A7 n7 c7 t w7 r7 (by rw [← r7.len]; have := HL2.out; omega)).mono ?_); rintro e w8 ⟨v8, rfl, o8, b8⟩; obtain ⟨A8, n8, c8, rfl, r8⟩ := o8.reads_n))
      | (go_at_call 31; first
        | ((with_reducible refine (Rf.same_calls A1 A5 n1 c1 n5 c5 _ w5 ((((r1.below b2).below b3).below b4).below b5) r5).mono ?_); rintro e w6 ⟨rfl, d6⟩)
        | ((with_reducible refine (Rf.same_calls A2 A8 n2 c2 n8 c8 _ w8 ((((((r2.below b3).below b4).below b5).below d6.below).below b7).below b8) r8).mono ?_); rintro e w9 ⟨rfl, d9⟩))
      | (go_at_call 33; (with_reducible refine (HD.out A4 n4 c4 w6 ((r4.below b5).below d6.below)).mono ?_); rintro e w7 ⟨A7, n7, c7, rfl, r7, f7, b7⟩))
    go_ret
    exact ⟨rfl, on (on (on (on (on (on (on (on b1 b2) b3) b4) b5) d6.below) b7) b8) d9.below⟩
  · have hin' : z < 0 ∨ 8192 < z := by omega
    have HA := Lib.hid (fun w1 => pow5_err z w1 hin')
    have HB := Lib.hid (fun w1 => pow10_err z w1 hin')
    rcases Int.lt_or_le z 0 with h0 | h0
    · have hd1 : decide (z < 0) = true := decide_eq_true h0
      clear hin hin' h0
      go_enter Tryz.func5, Tryz.ntmps5
      go_wp2_with (first
        | (go_at_call 28; (with_reducible refine (HA.out w).mono ?_); rintro e w1 ⟨rfl, rfl⟩)
        | (go_at_call 29; (with_reducible refine (HB.out w).mono ?_); rintro e w2 ⟨rfl, rfl⟩)
        | (go_at_call 13; (with_reducible refine (awake_calls w HP.out).mono ?_); rintro e w3 ⟨rfl, b3⟩))
      go_ret
      exact ⟨rfl, b3⟩
    · have hd1 : decide (z < 0) = false := decide_eq_false (by omega)
      have hd2 : decide (8192 < z) = true := decide_eq_true (by omega)
      clear hin hin' h0
      go_enter Tryz.func5, Tryz.ntmps5
      go_wp2_with (first
        | (go_at_call 28; (with_reducible refine (HA.out w).mono ?_); rintro e w1 ⟨rfl, rfl⟩)
        | (go_at_call 29; (with_reducible refine (HB.out w).mono ?_); rintro e w2 ⟨rfl, rfl⟩)
        | (go_at_call 13; (with_reducible refine (awake_calls w HP.out).mono ?_); rintro e w3 ⟨rfl, b3⟩))
      go_ret
      exact ⟨rfl, b3⟩
end Go.Proofs.YtkaajgcjdgjcbaaGreatDoor.Aw

/- The document's answer of layer 2, on: Add of like signs. -/
namespace Go.Proofs.YtkaajgcjdgjcbaaGreatDoor.Rw
open Go.RowKit Go.Proofs.YtkaajgcjdgjcbaaGreatDoor.Dig Go.Proofs.YtkaajgcjdgjcbaaGreatDoor.W Go.Proofs.YtkaajgcjdgjcbaaGreatDoor.Nat Go.Proofs.YtkaajgcjdgjcbaaGreatDoor.Wh
open Go.Proofs.YtkaajgcjdgjcbaaGreatDoor.Rf (V V_two V_pos)

theorem len_addR {l l' : List Nat} {n n' M : Nat} (hl : Lt V l) (hl' : Lt V l') (h : l.length = n) (h' : l'.length = n') (hn : n ≤ M) (hn' : n' ≤ M) : (digs V (val V l + val V l')).length ≤ M + 1 := by
  have h1 := val_lt V_pos hl
  have h2 := val_lt V_pos hl'
  have p1 : V ^ l.length ≤ V ^ M := Nat.pow_le_pow_right V_pos (by omega)
  have p2 : V ^ l'.length ≤ V ^ M := Nat.pow_le_pow_right V_pos (by omega)
  have p3 : V ^ M * 2 ≤ V ^ (M + 1) := by rw [Nat.pow_succ]; exact Nat.mul_le_mul_left _ V_two
  exact (digs_length_le V_two _ _).2 (by omega)
set_option maxHeartbeats 4000000 in
set_option maxRecDepth 100000 in
theorem radd_f (A A' : Option Addr) (n c n' c' : Nat) (l l' : List Nat) (w : World) (h : SI w .u32 A n c l) (h' : SI w .u32 A' n' c' l') (hl : Lt V l) (hl' : Lt V l') (hn : n ≤ 1099511627776) (hn' : n' ≤ 1099511627776) :
    Calls Tryz.prog 19 #[.agg #[.bool false, .slice A n c], .agg #[.bool false, .slice A' n' c']] w (GivesR w (sg false (val V l + val V l'))) := by
  have hB := BoxR.start w (.bool false) (.slice A n c) (.bool false) (.slice A' n' c')
  obtain ⟨W, hW⟩ : ∃ W, W = WR3 w (.bool false) (.slice A n c) (.bool false) (.slice A' n' c') := ⟨_, rfl⟩
  rw [← hW] at hB
  have HW := Lib.hid hW
  unfold WR3 at HW
  have hB2 := hB.below (Below.refl W.heap.size W).drew
  have kp := hB2.rd
  have hA := Rf.add_calls A A' n c n' c' l l' W.drew (h.below hB2.bl) (h'.below hB2.bl) hl hl' (by omega) (by omega)
  have hlen := len_addR hl hl' h.len h'.len hn hn'
  generalize val V l + val V l' = m at *
  have HA := Lib.hid hA
  have HL := Lib.hid hlen
  clear hA hlen hW h h' hB
  unfold Rd4 at kp
  go_enter Tryz.func19, Tryz.ntmps19
  go_wp2
  rw [← HW.out]
  clear HW
  go_region_held3 (fun w' => w'.cell? ⟨w.heap.size, 0, none⟩ = some (.bool false) ∧ w'.cell? ⟨w.heap.size, 1, none⟩ = some (.slice A n c) ∧ w'.cell? ⟨w.heap.size + 1, 0, none⟩ = some (.bool false) ∧ w'.cell? ⟨w.heap.size + 1, 1, none⟩ = some (.slice A' n' c'))
    (first
      | exact kp
      | exact k1
      | exact k2
      | exact k2.far _ _)
    (first
      | (go_at_call 49; (with_reducible refine HA.out.mono ?_); rintro e w1 ⟨A1, n1, c1, rfl, r1, u1, b1⟩; have x1 := hB2.below b1; have k1 := x1.rd)
      | (go_at_call 46; (with_reducible refine (rmake_d false A1 n1 c1 m w1 r1 (by have := r1.len; have := HL.out; omega)).mono ?_); rintro e w2 ⟨A2, n2, c2, rfl, r2, f2, b2⟩; have x2 := x1.below b2; have k2 := x2.rd; have q0 := x2.r.c0; have q1 := x2.r.c1; have g0 := x2.r.f0; have g1 := x2.r.f1))
  go_wp2
  obtain ⟨p1, p2, p3⟩ := put_resR (a := .bool (decide (sg false m < 0))) (b := .slice A2 n2 c2) x1.bl x1.r (by omega) r2 f2 b2
  exact bodyPost_ret (two_resultsR rfl _ (x2.r.store _ _) rfl) rfl ⟨A2, n2, c2, rfl, p1, p2, p3⟩
set_option maxHeartbeats 4000000 in
set_option maxRecDepth 100000 in
theorem radd_t (A A' : Option Addr) (n c n' c' : Nat) (l l' : List Nat) (w : World) (h : SI w .u32 A n c l) (h' : SI w .u32 A' n' c' l') (hl : Lt V l) (hl' : Lt V l') (hn : n ≤ 1099511627776) (hn' : n' ≤ 1099511627776) :
    Calls Tryz.prog 19 #[.agg #[.bool true, .slice A n c], .agg #[.bool true, .slice A' n' c']] w (GivesR w (sg true (val V l + val V l'))) := by
  have hB := BoxR.start w (.bool true) (.slice A n c) (.bool true) (.slice A' n' c')
  obtain ⟨W, hW⟩ : ∃ W, W = WR3 w (.bool true) (.slice A n c) (.bool true) (.slice A' n' c') := ⟨_, rfl⟩
  rw [← hW] at hB
  have HW := Lib.hid hW
  unfold WR3 at HW
  have hB2 := hB.below (Below.refl W.heap.size W).drew
  have kp := hB2.rd
  have hA := Rf.add_calls A A' n c n' c' l l' W.drew (h.below hB2.bl) (h'.below hB2.bl) hl hl' (by omega) (by omega)
  have hlen := len_addR hl hl' h.len h'.len hn hn'
  generalize val V l + val V l' = m at *
  have HA := Lib.hid hA
  have HL := Lib.hid hlen
  clear hA hlen hW h h' hB
  unfold Rd4 at kp
  go_enter Tryz.func19, Tryz.ntmps19
  go_wp2
  rw [← HW.out]
  clear HW
  go_region_held3 (fun w' => w'.cell? ⟨w.heap.size, 0, none⟩ = some (.bool true) ∧ w'.cell? ⟨w.heap.size, 1, none⟩ = some (.slice A n c) ∧ w'.cell? ⟨w.heap.size + 1, 0, none⟩ = some (.bool true) ∧ w'.cell? ⟨w.heap.size + 1, 1, none⟩ = some (.slice A' n' c'))
    (first
      | exact kp
      | exact k1
      | exact k2
      | exact k2.far _ _)
    (first
      | (go_at_call 49; (with_reducible refine HA.out.mono ?_); rintro e w1 ⟨A1, n1, c1, rfl, r1, u1, b1⟩; have x1 := hB2.below b1; have k1 := x1.rd)
      | (go_at_call 46; (with_reducible refine (rmake_d true A1 n1 c1 m w1 r1 (by have := r1.len; have := HL.out; omega)).mono ?_); rintro e w2 ⟨A2, n2, c2, rfl, r2, f2, b2⟩; have x2 := x1.below b2; have k2 := x2.rd; have q0 := x2.r.c0; have q1 := x2.r.c1; have g0 := x2.r.f0; have g1 := x2.r.f1))
  go_wp2
  obtain ⟨p1, p2, p3⟩ := put_resR (a := .bool (decide (sg true m < 0))) (b := .slice A2 n2 c2) x1.bl x1.r (by omega) r2 f2 b2
  exact bodyPost_ret (two_resultsR rfl _ (x2.r.store _ _) rfl) rfl ⟨A2, n2, c2, rfl, p1, p2, p3⟩
end Go.Proofs.YtkaajgcjdgjcbaaGreatDoor.Rw

/- The document's answer of layer 2, on: by. -/
namespace Go.Proofs.YtkaajgcjdgjcbaaGreatDoor.Rw
open Go.RowKit Go.Proofs.YtkaajgcjdgjcbaaGreatDoor.Dig Go.Proofs.YtkaajgcjdgjcbaaGreatDoor.W Go.Proofs.YtkaajgcjdgjcbaaGreatDoor.Nat Go.Proofs.YtkaajgcjdgjcbaaGreatDoor.Wh
open Go.Proofs.YtkaajgcjdgjcbaaGreatDoor.Rf (V V_two V_pos)

/-- the word that is divided -/
def xw (r d : Nat) : Nat := r * 65536 + d
theorem xw_lt {r d : Nat} (hr : r < 10000) (hd : d < 65536) : xw r d < 655360000 := by unfold xw; omega
theorem by_or {r d : Nat} (hr : r < 10000) (hd : d < V) : Go.bits .or .u32 ((r : Int) * 65536) (d : Int) = (xw r d : Nat) := by
  have hd' : d < 2 ^ 16 := hd
  have e := Nat.two_pow_add_eq_or_of_lt hd' r
  have h1 := u32_or_nat (2 ^ 16 * r) d (by omega) (by unfold Rf.V at hd; omega)
  rw [← e] at h1
  rw [show (r : Int) * 65536 = ((2 ^ 16 * r : Nat) : Int) by omega, h1]
  unfold xw
  congr 1
  omega
theorem by_rem (x : Nat) : ((x : Nat) : Int).tmod 10000 = ((x % 10000 : Nat) : Int) := by
  rw [Int.tmod_eq_emod_of_nonneg (by omega)]; omega
theorem by_quo {x : Nat} (h : x < 655360000) : ((x : Nat) : Int).tdiv 10000 % 4294967296 = ((x / 10000 : Nat) : Int) := by
  rw [Int.tdiv_eq_ediv_of_nonneg (by omega)]; omega
/-- where by stands: the digits from i on are divided -/
structure ByI (l O : List Nat) (n i r : Nat) : Prop where
  len : O.length = n
  lt : Lt V O
  zero : O.take i = List.replicate i 0
  inv : V ^ i * (10000 * val V (O.drop i) + r) = V ^ i * val V (l.drop i)
  rlt : r < 10000
theorem ByI.start {l : List Nat} {n : Nat} (h : l.length = n) : ByI l (List.replicate n 0) n n 0 :=
  ⟨by simp, fun x hx => by rw [(List.mem_replicate.1 hx).2]; exact V_pos, by rw [List.take_of_length_le (by simp)], by
    rw [← h, List.drop_length, List.drop_of_length_le (by simp)]; simp [val_nil], by omega⟩
theorem ByI.round {l O : List Nat} {n i r : Nat} (h : ByI l O n (i + 1) r) (hl : Lt V l) (hn : l.length = n) (hi : i < n) :
    ByI l (O.set i (xw r (rd l i) / 10000)) n i (xw r (rd l i) % 10000) := by
  have hd := rd_lt hl V_pos i
  have hx : xw r (rd l i) / 10000 < V := by
    have := h.rlt
    have h1 : xw r (rd l i) < 10000 * 65536 := by unfold xw; unfold Rf.V at hd; omega
    unfold Rf.V
    omega
  have hval : 10000 * val V (O.drop (i + 1)) + r = val V (l.drop (i + 1)) := Nat.eq_of_mul_eq_mul_left (Nat.pow_pos V_pos) h.inv
  refine ⟨by rw [List.length_set, h.len], set_lt h.lt hx, ?_, ?_, Nat.mod_lt _ (by omega)⟩
  · rw [List.take_set_of_le (Nat.le_refl i)]
    have := congrArg (List.take i) h.zero
    rw [List.take_take, Nat.min_eq_left (by omega), List.take_replicate, Nat.min_eq_left (by omega)] at this
    exact this
  · congr 1
    rw [drop_rd (by omega : i < l.length), val_cons, ← hval, drop_rd (by rw [List.length_set, h.len]; exact hi), val_cons, rd_set (by rw [h.len]; exact hi), if_pos rfl, List.drop_set_of_lt (by omega)]
    have e := Nat.mod_add_div (xw r (rd l i)) 10000
    have ev : V = 65536 := rfl
    unfold xw at e ⊢
    rw [ev] at *
    generalize val 65536 (O.drop (i + 1)) = q at *
    omega
theorem ByI.done {l O : List Nat} {n r : Nat} (h : ByI l O n 0 r) : val V O = val V l / 10000 ∧ r = val V l % 10000 := by
  have e := h.inv
  rw [Nat.pow_zero, Nat.one_mul, Nat.one_mul, List.drop_zero, List.drop_zero] at e
  have := h.rlt
  omega
set_option maxHeartbeats 4000000 in
set_option maxRecDepth 100000 in
theorem by_calls (A : Option Addr) (n c : Nat) (l : List Nat) (w : World) (h : SI w .u32 A n c l) (hl : Lt V l) (hn : n ≤ 4398046511104) :
    Calls Tryz.prog 67 #[.slice A n c, .int .u32 10000] w fun e w' => ∃ A1 n1 c1, e = .returned (.tuple #[.slice A1 n1 c1, .int .u32 (val V l % 10000 : Nat)]) ∧ Ow w' w.heap.size 79 .u32 (.slice A1 n1 c1) (digs V (val V l / 10000)) ∧ Below w.heap.size w w' := by
  have hL := Lib.hid h.len
  have hc := Sl.le h
  have hcm := Sl.cap h
  go_enter Tryz.func67, Tryz.ntmps67
  go_wp2_with (at_make; refine wpList_make_nums _ rfl (.tmp 12) (.tmp 12) 26 rfl w.heap.size 79 .u32 4 Tryz.underlying26 Rf.info32 .i64 .i64 _ _ n rfl rfl (by simp) (by simp) (by omega) (by omega) (Nat.le_refl _) ?_; intro w1 hown1 hg1)
  have hb1 := grown_below hg1
  obtain ⟨g, hgw⟩ : ∃ g, w.heap.size = g := ⟨_, rfl⟩
  rw [hgw] at hown1 hb1 ⊢
  go_loopw [7, 8] (fun rv z wr => ∃ (i r : Nat) (y : Int) (O : List Nat), rv = .int .u32 (r : Nat) ∧ z = .int .i64 y ∧ i ≤ n ∧ Hid (y + 1 = i) ∧ ByI l O n i r ∧ Ow wr g 79 .u32 (.slice (some ⟨g, 0, none⟩) n n) O ∧ Below g w wr) (fun _ z _ => (intOf z + 1).toNat)
  case atStart => exact ⟨n, 0, (n : Int) - 1, _, rfl, rfl, Nat.le_refl _, by unfold Hid; omega, ByI.start h.len, hown1, hb1⟩
  case round =>
    obtain ⟨i, r, y, O, rfl, rfl, hi, HY, hI, hown, hb⟩ := hrel
    cases i with
    | zero =>
      obtain rfl : y = -1 := by have := HY.out; omega
      obtain ⟨f1, f2⟩ := hI.done
      have hs0 : SI wr .u32 (some ⟨g, 0, none⟩) n n O := by
        obtain ⟨A', n', c', e, hsi⟩ := hown.reads_n
        injection e with e1 e2 e3
        subst e1; subst e2; subst e3
        exact hsi
      have hs : Ow wr g 79 .u32 (.slice (some ⟨g, 0, none⟩) (trimN O n) n) (digs V (val V l / 10000)) := by
        have h1 := hown.take (trimN_le O n)
        have h2 := trim_digs V_two hI.lt
        rw [hI.len, f1] at h2
        rwa [h2] at h1
      subst f2
      have HS := Lib.hid hs
      have HB := Lib.hid hb
      have hc2 := Sl.cap hs0
      have HS0 := Lib.hid hs0
      clear hs hb hI hs0 hL
      obtain ⟨R, hR⟩ : ∃ R, R = val V l % 10000 := ⟨_, rfl⟩
      have HR := Lib.hid hR
      rw [← hR]
      clear hR
      go_wp2
      go_loop [10] (fun t => ∃ m : Nat, m ≤ n ∧ t = .int .i64 (m : Nat) ∧ Hid (trimN O m = trimN O n)) (fun t => (intOf t).toNat)
      case atStart => exact ⟨n, Nat.le_refl _, rfl, rfl⟩
      case round =>
        obtain ⟨m, hmx, rfl, HT⟩ := hrel
        cases m with
        | zero =>
          go_wp2
          go_ret2
          have e0 : trimN O n = 0 := HT.out.symm
          have hs := HS.out
          rw [e0] at hs
          exact ⟨_, _, _, (by have hR := HR.out; subst hR; rfl), by first | exact hs | (rw [hgw]; exact hs), by first | exact HB.out | (rw [hgw]; exact HB.out)⟩
        | succ m =>
          obtain ⟨b, o, e, h1⟩ := HS0.out.at_ (j := m) (by omega)
          injection e with e
          injection e with e1 e2
          subst e1; subst e2
          rw [Nat.zero_add] at h1
          by_cases h0 : rd O m = 0
          · have hb : (((rd O m : Nat) : Int) == 0) = true := by simp [h0]
            have HE := Lib.hid h0
            clear h0
            go_wp2
            go_round
            case rel => exact ⟨m, by omega, by go_num, by show _ = _; rw [← HT.out]; simp [trimN, HE.out]⟩
            case measure => simp [intOf]
          · have hb : (((rd O m : Nat) : Int) == 0) = false := by simp [h0]
            have HE := Lib.hid h0
            clear h0
            go_wp2
            go_ret2
            have e0 : trimN O n = m + 1 := by rw [← HT.out]; simp [trimN, HE.out]
            have hs := HS.out
            rw [e0] at hs
            exact ⟨_, _, _, (by have hR := HR.out; subst hR; rfl), by first | exact hs | (rw [hgw]; exact hs), by first | exact HB.out | (rw [hgw]; exact HB.out)⟩
    | succ j =>
      obtain rfl : y = (j : Int) := by have := HY.out; omega
      have hbw : Below w.heap.size w wr := by rw [hgw]; exact hb
      obtain ⟨b, o, rfl, hc0⟩ := h.at_ (j := j) (by omega)
      have hc1 := cell_keep hbw hc0
      have hr := hI.rlt
      have hd := rd_lt hl V_pos j
      have hfr := hown.frozenAt j
      have hcq := hown.cellAt (j := j) (by omega)
      have hor := by_or hr hd
      have hx := xw_lt hr hd
      have hnew := hI.round hl h.len (by omega)
      have HN := Lib.hid hnew
      have HO := Lib.hid hown
      have HB := Lib.hid hb
      clear hnew hown hb hI hc0 hbw
      obtain ⟨X, hX⟩ : ∃ X, X = xw r (rd l j) := ⟨_, rfl⟩
      rw [← hX] at hor hx HN
      have hrem := by_rem X
      have hquo := by_quo hx
      clear hX
      go_wp2
      go_roundw
      case rel => exact ⟨j, X % 10000, (j : Int) - 1, _, rfl, rfl, by omega, by unfold Hid; omega, HN.out, HO.out.store _ _, HB.out.setCell (Nat.le_refl _) _⟩
      case measure => simp [intOf]
end Go.Proofs.YtkaajgcjdgjcbaaGreatDoor.Rw

/- The document's answer of layer 2, on: Text. -/
namespace Go.Proofs.YtkaajgcjdgjcbaaGreatDoor.Rw
open Go.RowKit Go.Proofs.YtkaajgcjdgjcbaaGreatDoor.Dig Go.Proofs.YtkaajgcjdgjcbaaGreatDoor.W Go.Proofs.YtkaajgcjdgjcbaaGreatDoor.Nat Go.Proofs.YtkaajgcjdgjcbaaGreatDoor.Wh Go.Proofs.YtkaajgcjdgjcbaaGreatDoor.Td
open Go.Proofs.YtkaajgcjdgjcbaaGreatDoor.Rf (V V_two V_pos)

/-- bytes as numbers -/
def bN (l : List UInt8) : List Nat := l.map UInt8.toNat
theorem bN_len (l : List UInt8) : (bN l).length = l.length := by simp [bN]
theorem bN_app (a b : List UInt8) : bN (a ++ b) = bN a ++ bN b := by simp [bN]
theorem bN_rd {l : List UInt8} {j : Nat} (h : j < l.length) : rd (bN l) j = l[j].toNat := by
  unfold rd bN
  rw [List.getD_eq_getElem?_getD, List.getElem?_map, List.getElem?_eq_getElem h]
  rfl
theorem info8 : (Tryz.prog.info? 5).map (fun i => (i.zero, i.size, i.bytes)) = some (some (.int .u8 0), 1, 1) := by kernel_rfl
theorem own_empty8 (w : World) : Ow (w.alloc (.cells #[] 5)) w.heap.size 5 .u8 (.slice (some ⟨w.heap.size, 0, none⟩) 0 0) [] :=
  ⟨rfl, .inr ⟨w.heap.size, 0, #[], rfl, Nat.le_refl _, heap_alloc_new w _, Nat.le_refl _, by unfold maxLen; omega, rfl, rfl⟩⟩
theorem lit8 (w : World) (x : Nat) {z : Int} (hz : z = x) : SI (w.alloc (.cells #[.int .u8 z] 5)) .u8 (some ⟨w.heap.size, 0, none⟩) 1 1 [x] := by
  subst hz
  exact ⟨rfl, Nat.le_refl _, by omega, fun _ => ⟨w.heap.size, 0, rfl, fun j u hu => by
    rw [World.cell?, show (w.alloc (.cells #[.int .u8 (x : Nat)] 5)).heap[w.heap.size]? = _ from heap_alloc_new w _]
    simpa [nums] using hu⟩⟩
theorem dd_cons (k m : Nat) : dd (k + 1) m = db (m / 10 ^ k % 10) :: dd k m := by
  rw [Nat.add_comm, dd_add]
  rfl
/-- the digits of M without noughts ahead -/
def strip (M : Nat) : List UInt8 := if M = 0 then [] else Lib.decDigits M
theorem strip_row {K M : Nat} (h : M < 10 ^ K) (h0 : M = 0 ∨ 0 < K) : (strip M).length ≤ K ∧ (dd K M).reverse = (strip M).reverse ++ List.replicate (K - (strip M).length) 48 := by
  unfold strip
  by_cases hM : M = 0
  · subst hM
    rw [if_pos rfl, dd_zero]
    simp
  · rw [if_neg hM]
    have h1 := pad_dd K M h (h0.resolve_left hM)
    refine ⟨h1.1, ?_⟩
    rw [← h1.2, List.reverse_append, List.reverse_replicate]
theorem strip_top {M : Nat} (h : 0 < (strip M).length) : ∃ c, (strip M).head? = some c ∧ (c == 48) = false := by
  unfold strip at h ⊢
  by_cases hM : M = 0
  · rw [if_pos hM] at h; simp at h
  · rw [if_neg hM]
    obtain ⟨c, r, e, hc⟩ := dec_head M hM
    exact ⟨c, by rw [e]; rfl, hc⟩
/-- what low reads at a place -/
theorem low_hi {M K j : Nat} {B : List UInt8} (hB : B = (strip M).reverse ++ List.replicate (K - (strip M).length) 48) (h1 : (strip M).length ≤ j) (h2 : j < K) : rd (bN B) j = 48 := by
  subst hB
  rw [bN_app, rd_append_right (by rw [bN_len, List.length_reverse]; exact h1), bN_len, List.length_reverse, bN_rd (by rw [List.length_replicate]; omega), List.getElem_replicate]
  rfl
theorem low_top {M K : Nat} {B : List UInt8} (hB : B = (strip M).reverse ++ List.replicate (K - (strip M).length) 48) {N : Nat} (hN : (strip M).length = N + 1) : rd (bN B) N ≠ 48 := by
  subst hB
  obtain ⟨c, hc, hne⟩ := strip_top (M := M) (by omega)
  rw [bN_app, rd_append_left (by rw [bN_len, List.length_reverse]; omega), bN_rd (by rw [List.length_reverse]; omega), List.getElem_reverse]
  have h0 : (strip M)[(strip M).length - 1 - N]'(by omega) = c := by
    have e : (strip M).length - 1 - N = 0 := by omega
    rw [List.head?_eq_getElem?, List.getElem?_eq_getElem (by omega)] at hc
    injection hc with hc
    simp only [e]
    exact hc
  rw [h0]
  intro e
  rw [beq_eq_false_iff_ne] at hne
  apply hne
  rw [← UInt8.ofNat_toNat (x := c), e]
  rfl
theorem low_at {M K : Nat} {B : List UInt8} (hB : B = (strip M).reverse ++ List.replicate (K - (strip M).length) 48) {j : Nat} (hj : j < (strip M).length) :
    rd (bN B) j = rd (bN (strip M)) ((strip M).length - (j + 1)) := by
  subst hB
  rw [bN_app, rd_append_left (by rw [bN_len, List.length_reverse]; omega), bN_rd (by rw [List.length_reverse]; omega), bN_rd (by omega), List.getElem_reverse]
  congr 2
  omega
theorem take_next {E : List Nat} {N j : Nat} (hN : E.length = N) (hj : j < N) : E.take (N - (j + 1)) ++ [rd E (N - (j + 1))] = E.take (N - j) := by
  rw [show N - j = N - (j + 1) + 1 by omega, take_succ_rd (by omega)]
theorem byte_row {w : World} {A : Option Addr} {n c : Nat} {E : List UInt8} (h : SI w .u8 A n c (bN E)) (hn : 0 < n) :
    (convert 91 9 (.slice A n c)).run Tryz.prog w = .ok (.string ⟨E.toArray⟩) w := by
  obtain ⟨b, o, rfl, hc⟩ := h.all_ hn
  have hl := h.len
  rw [bN_len] at hl
  subst hl
  refine run_convert_bytes_back (P := Tryz.prog) w 91 9 5 ⟨b, o, none⟩ c E Tryz.underlying91 Tryz.underlying5 Tryz.underlying9 (fun j hj => ?_)
  rw [add_at, hc j hj, bN_rd hj]
/-- where Text's first loop stands -/
structure RT (M t m : Nat) (B : List UInt8) : Prop where
  q : m = M / 10 ^ (4 * t)
  row : B = (dd (4 * t) M).reverse
theorem RT.start (M : Nat) : RT M 0 M [] := ⟨by simp, rfl⟩
theorem RT.round {M t m : Nat} {B : List UInt8} (h : RT M t m B) : RT M (t + 1) (m / 10000) (B ++ (dd 4 (m % 10000)).reverse) := by
  refine ⟨?_, ?_⟩
  · rw [h.q, Nat.div_div_eq_div_mul, show 10000 = 10 ^ 4 from rfl, ← Nat.pow_add]
    congr 2
  · rw [h.row, ← List.reverse_append, show 4 * (t + 1) = 4 + 4 * t by omega, dd_add, ← h.q, show 10000 = 10 ^ 4 from rfl, dd_mod]
theorem RT.len {M t m : Nat} {B : List UInt8} (h : RT M t m B) : B.length = 4 * t := by rw [h.row, List.length_reverse, dd_len]
theorem RT.less {M t m n : Nat} {B : List UInt8} (h : RT M t m B) (hM : M < V ^ n) (h0 : m ≠ 0) : t ≤ 2 * n := by
  rcases Nat.lt_or_ge (2 * n) t with z | z
  · exfalso
    have h1 : 10 ^ (4 * t) ≤ M := by
      rcases Nat.lt_or_ge M (10 ^ (4 * t)) with y | y
      · exact absurd (h.q.trans (Nat.div_eq_of_lt y)) h0
      · exact y
    have h2 : (10 ^ 8) ^ n ≤ 10 ^ (4 * t) := by rw [← Nat.pow_mul]; exact Nat.pow_le_pow_right (by omega) (by omega)
    have h3 : V ^ n ≤ (10 ^ 8) ^ n := Nat.pow_le_pow_left (by decide) n
    omega
  · exact z
/-- rows of unlike types lie apart -/
theorem ow_apart {w : World} {b1 b2 : Nat} {e1 e2 : TypeId} {k1 k2 : IntKind} {v1 v2 : Value} {l1 l2 : List Nat} (h1 : Ow w b1 e1 k1 v1 l1) (h2 : Ow w b2 e2 k2 v2 l2) (hne : e1 ≠ e2) : v1.ownBlock = none ∨ v1.ownBlock ≠ v2.ownBlock := by
  rcases h1.2 with ⟨rfl, _⟩ | ⟨g, cap, cur, rfl, _, hg, _⟩
  · exact .inl rfl
  · refine .inr ?_
    rcases h2.2 with ⟨rfl, _⟩ | ⟨g2, cap2, cur2, rfl, _, hg2, _⟩
    · simp [Value.ownBlock]
    · intro he
      simp only [Value.ownBlock, Option.some.injEq] at he
      subst he
      rw [hg] at hg2
      injection hg2 with hg2
      injection hg2 with _ hg2 _
      exact hne hg2
theorem ow_grown {w w' : World} {b1 b2 : Nat} {e1 e2 : TypeId} {k1 k2 : IntKind} {v1 v2 : Value} {l1 l2 : List Nat} (h1 : Ow w b1 e1 k1 v1 l1) (h2 : Ow w b2 e2 k2 v2 l2) (hne : e1 ≠ e2) (hg : w.grownBy w' v2.ownBlock) : Ow w' b1 e1 k1 v1 l1 :=
  World.ownsRow.kept h1 hg (ow_apart h1 h2 hne)
theorem by_d (A : Option Addr) (n c m : Nat) (w : World) (h : SI w .u32 A n c (digs V m)) (hn : n ≤ 4398046511104) :
    Calls Tryz.prog 67 #[.slice A n c, .int .u32 10000] w fun e w' => ∃ A1 n1 c1, e = .returned (.tuple #[.slice A1 n1 c1, .int .u32 (m % 10000 : Nat)]) ∧ Ow w' w.heap.size 79 .u32 (.slice A1 n1 c1) (digs V (m / 10000)) ∧ Below w.heap.size w w' := by
  have e := by_calls A n c (digs V m) w h (dv m) hn
  rw [val_digs V_two] at e
  exact e
end Go.Proofs.YtkaajgcjdgjcbaaGreatDoor.Rw

/- The document's answer of layer 2, on: times. -/
namespace Go.Proofs.YtkaajgcjdgjcbaaGreatDoor.Rw
open Go.RowKit Go.Proofs.YtkaajgcjdgjcbaaGreatDoor.Dig Go.Proofs.YtkaajgcjdgjcbaaGreatDoor.W Go.Proofs.YtkaajgcjdgjcbaaGreatDoor.Nat Go.Proofs.YtkaajgcjdgjcbaaGreatDoor.Wh Go.Proofs.YtkaajgcjdgjcbaaGreatDoor.Td
open Go.Proofs.YtkaajgcjdgjcbaaGreatDoor.Rf (V V_two V_pos)

/-- the word of one digit -/
def tw (x cy : Nat) : Nat := x * 10 + cy
structure TM (l o : List Nat) (d i cy : Nat) : Prop where
  inv : val V o + V ^ o.length * cy = pv V l i * 10 + d
  lt : Lt V o
  len : o.length = i
  cl : cy < 10
theorem TM.start (l : List Nat) {d : Nat} (hd : d < 10) : TM l [] d 0 d := ⟨by simp [val_nil, pv], fun x hx => by simp at hx, rfl, hd⟩
theorem TM.round {l o : List Nat} {d i cy : Nat} (h : TM l o d i cy) (hl : Lt V l) : TM l (o ++ [tw (rd l i) cy % 65536]) d (i + 1) (tw (rd l i) cy / 65536) := by
  have hx := rd_lt hl V_pos i
  have hV : V = 65536 := rfl
  have hc := h.cl
  refine ⟨?_, snoc_lt h.lt (by rw [hV]; omega), by rw [List.length_append, h.len]; rfl, ?_⟩
  · rw [val_snoc, List.length_append, List.length_singleton, Nat.pow_succ, pv, Nat.mul_assoc, Nat.add_assoc, ← Nat.mul_add, hV]
    have e : tw (rd l i) cy % 65536 + 65536 * (tw (rd l i) cy / 65536) = tw (rd l i) cy := Nat.mod_add_div _ _
    rw [e]
    have e2 := h.inv
    rw [hV, h.len] at e2
    rw [h.len]
    unfold tw
    rw [Nat.mul_add, Nat.add_mul, Nat.add_right_comm, ← e2, Nat.mul_comm (65536 ^ i) (rd l i * 10), Nat.mul_assoc, Nat.mul_comm 10, ← Nat.mul_assoc, Nat.mul_comm (rd l i)]
    omega
  · unfold tw; rw [hV] at hx; omega
theorem own_empty32 (w : World) : Ow (w.alloc (.cells #[] 79)) w.heap.size 79 .u32 (.slice (some ⟨w.heap.size, 0, none⟩) 0 0) [] :=
  ⟨rfl, .inr ⟨w.heap.size, 0, #[], rfl, Nat.le_refl _, heap_alloc_new w _, Nat.le_refl _, by unfold maxLen; omega, rfl, rfl⟩⟩
theorem lit32 (w : World) (x : Nat) {z : Int} (hz : z = x) : SI (w.alloc (.cells #[.int .u32 z] 79)) .u32 (some ⟨w.heap.size, 0, none⟩) 1 1 [x] := by
  subst hz
  exact ⟨rfl, Nat.le_refl _, by omega, fun _ => ⟨w.heap.size, 0, rfl, fun j u hu => by
    rw [World.cell?, show (w.alloc (.cells #[.int .u32 (x : Nat)] 79)).heap[w.heap.size]? = _ from heap_alloc_new w _]
    simpa [nums] using hu⟩⟩
set_option maxHeartbeats 4000000 in
set_option maxRecDepth 100000 in
theorem times_calls (A : Option Addr) (n c : Nat) (l : List Nat) (d : Nat) (w : World) (h : SI w .u32 A n c l) (hl : Lt V l) (hn : n ≤ 1099511627776) (hd : d < 10) :
    Calls Tryz.prog 99 #[.slice A n c, .int .u32 10, .int .u32 (d : Nat)] w fun e w' => ∃ A1 n1 c1 L, e = .returned (.slice A1 n1 c1) ∧ SI w' .u32 A1 n1 c1 L ∧ Lt V L ∧ val V L = val V l * 10 + d ∧ n1 ≤ n + 1 ∧ Below w.heap.size w w' := by
  have hL := Lib.hid h.len
  have hc := Sl.le h
  have hcm := Sl.cap h
  go_enter Tryz.func99, Tryz.ntmps99
  go_wp2
  go_loopw [7, 8, 9] (fun p cv z wr => ∃ (i cy : Nat) (o : List Nat) (Ao : Option Addr) (no co : Nat), p = .slice Ao no co ∧ cv = .int .u64 (cy : Nat) ∧ z = .int .i64 (i : Nat) ∧ i ≤ n ∧ TM l o d i cy ∧ Ow wr w.heap.size 79 .u32 (.slice Ao no co) o ∧ Below w.heap.size w wr) (fun _ _ z _ => n - (intOf z).toNat)
  case atStart => exact ⟨0, d, [], _, _, _, rfl, rfl, rfl, Nat.zero_le _, TM.start l hd, own_empty32 w, alloc_below w _⟩
  case round =>
    obtain ⟨i, cy, o, Ao, no, co, rfl, rfl, rfl, hi, hT, how, hb⟩ := hrel
    by_cases hin : i < n
    · obtain ⟨b, a, rfl, hc0⟩ := (h.below hb).at_ hin
      have hx := rd_lt hl V_pos i
      have hnew := hT.round hl
      have hcy := hT.cl
      have htl := hT.len
      have hV : V = 65536 := rfl
      rw [hV] at hx
      obtain ⟨x, hxx⟩ : ∃ x, rd l i = x := ⟨_, rfl⟩
      rw [hxx] at hx hnew hc0
      have hmask := Rf.mask16 (x := tw x cy) (by unfold tw U; omega)
      have htw : ((x : Int) * 10 + (cy : Int)) = ((tw x cy : Nat) : Int) := by unfold tw; omega
      have htl2 : tw x cy < 655370 := by unfold tw; omega
      obtain ⟨T, hTT⟩ : ∃ T, tw x cy = T := ⟨_, rfl⟩
      rw [hTT] at hmask htw hnew htl2
      have HN := Lib.hid hnew
      have HB := Lib.hid hb
      have HTL := Lib.hid htl
      obtain ⟨q, hq⟩ : ∃ q, T / 65536 = q := ⟨_, rfl⟩
      rw [hq] at HN
      have hshr : (T : Int) / 65536 = (q : Int) := by omega
      have hlen := how.len_
      clear hxx hTT hT hb hnew htl hV hq
      go_wp2_with (at_builtin; refine wpList_append_nums _ rfl (.tmp 30) (.tmp 34) 26 rfl w.heap.size 79 .u32 4 Tryz.underlying26 Rf.info32 (.slice Ao no co) _ rfl (how.below (alloc_below _ _)) _ 1 _ [T % 65536] rfl (lit32 wr (T % 65536) (by omega)) (by have := HTL.out; omega) (by omega) (by have := HB.out.size; simp; omega) ?_; intro v2 w2 how2 hg2; obtain ⟨A2, n2, c2, rfl, hs2⟩ := how2.reads_n)
      have hb3 := (HB.out.trans ((alloc_below wr (.cells #[.int .u32 ((T : Int) % 65536)] 79)).mono HB.out.size)).grown hg2 (by have := HB.out.size; have := (alloc_below wr (.cells #[.int .u32 ((T : Int) % 65536)] 79)).size; omega) (fun g hg => how.base_ g hg)
      go_roundw
      case rel => exact ⟨i + 1, q, _, A2, n2, c2, rfl, rfl, rfl, by omega, HN.out, how2, hb3⟩
      case measure => simp [intOf]; omega
    · obtain rfl : i = n := by omega
      have hfin := hT.inv
      rw [pv_take, List.take_of_length_le (by rw [hL.out]; omega)] at hfin
      have hcy := hT.cl
      have hlt := hT.lt
      have hno : no = i := by have := how.len_; have := hT.len; omega
      have HF := Lib.hid hfin
      have HW := Lib.hid hb
      have HLT := Lib.hid hlt
      have HO := Lib.hid how
      clear hfin hT hlt h hc
      obtain ⟨TT, hTT⟩ : ∃ TT, val V l * 10 + d = TT := ⟨_, rfl⟩
      rw [hTT] at HF
      have HTT := Lib.hid hTT
      clear hTT how hb
      go_wp2
      go_loopw [7, 8] (fun p cv wr => ∃ (cy : Nat) (o : List Nat) (Ao : Option Addr) (no co : Nat), p = .slice Ao no co ∧ cv = .int .u64 (cy : Nat) ∧ cy < 10 ∧ Hid (val V o + V ^ o.length * cy = TT) ∧ Hid (Lt V o) ∧ (no ≤ i ∨ (cy = 0 ∧ no ≤ i + 1)) ∧ Ow wr w.heap.size 79 .u32 (.slice Ao no co) o ∧ Below w.heap.size w wr) (fun _ cv _ => (intOf cv).toNat)
      case atStart => exact ⟨cy, o, Ao, no, co, rfl, rfl, hcy, HF.out, HLT.out, .inl (by omega), HO.out, HW.out⟩
      case round =>
        clear HF HLT HO HW hcy hno
        obtain ⟨cy, o, Ao, no, co, rfl, rfl, hcy, HF, HLT, hno, how, hb⟩ := hrel
        rcases Nat.eq_zero_or_pos cy with hz | hz
        · subst hz
          have hs : SI wr .u32 Ao no co o := by
            obtain ⟨A', n', c', e, hsi⟩ := how.reads_n
            injection e with e1 e2 e3
            subst e1; subst e2; subst e3
            exact hsi
          have hv := HF.out
          rw [Nat.mul_zero, Nat.add_zero] at hv
          have HV := Lib.hid hv
          have HSI := Lib.hid hs
          have HB := Lib.hid hb
          have hno2 : no ≤ i + 1 := by omega
          clear hv hs how hb hno
          go_wp2
          go_ret
          exact ⟨Ao, no, co, o, rfl, HSI.out, HLT.out, HV.out.trans HTT.out.symm, hno2, HB.out⟩
        · have hlen := how.len_
          have hno2 : no ≤ i := by omega
          have hmask := Rf.mask16 (x := cy) (by unfold U; omega)
          rw [Nat.mod_eq_of_lt (by omega)] at hmask
          have hshr : (cy : Int) / 65536 = 0 := by omega
          have hmod : (cy : Int) % 65536 = (cy : Int) := by omega
          have hnewv : Hid (val V (o ++ [cy]) + V ^ (o ++ [cy]).length * 0 = TT) := by
            show _ = _
            rw [val_snoc, Nat.mul_zero, Nat.add_zero]; exact HF.out
          have hnewl : Hid (Lt V (o ++ [cy])) := snoc_lt HLT.out (by have hV : V = 65536 := rfl; omega)
          have HB := Lib.hid hb
          have HL2 := Lib.hid hlen
          clear hno hlen
          go_wp2_with (at_builtin; refine wpList_append_nums _ rfl (.tmp 40) (.tmp 44) 26 rfl w.heap.size 79 .u32 4 Tryz.underlying26 Rf.info32 (.slice Ao no co) _ rfl (how.below (alloc_below _ _)) _ 1 _ [cy] rfl (lit32 wr cy rfl) (by have := HL2.out; omega) (by omega) (by have := HB.out.size; simp; omega) ?_; intro v2 w2 how2 hg2; obtain ⟨A2, n2, c2, rfl, hs2⟩ := how2.reads_n)
          have hn2 := how2.len_
          rw [List.length_append, HL2.out, List.length_singleton] at hn2
          have hb3 := (HB.out.trans ((alloc_below wr (.cells #[.int .u32 (cy : Int)] 79)).mono HB.out.size)).grown hg2 (by have := HB.out.size; have := (alloc_below wr (.cells #[.int .u32 (cy : Int)] 79)).size; omega) (fun g hg => how.base_ g hg)
          go_roundw
          case rel => exact ⟨0, _, A2, n2, c2, rfl, rfl, by omega, hnewv, hnewl, .inr ⟨rfl, by omega⟩, how2, hb3⟩
          case measure => simp [intOf]; omega
end Go.Proofs.YtkaajgcjdgjcbaaGreatDoor.Rw

/- The document's answer of layer 2, on: Of, Parse. -/
namespace Go.Proofs.YtkaajgcjdgjcbaaGreatDoor.Rw
open Go.RowKit Go.Proofs.YtkaajgcjdgjcbaaGreatDoor.Dig Go.Proofs.YtkaajgcjdgjcbaaGreatDoor.W Go.Proofs.YtkaajgcjdgjcbaaGreatDoor.Nat Go.Proofs.YtkaajgcjdgjcbaaGreatDoor.Wh Go.Proofs.YtkaajgcjdgjcbaaGreatDoor.Td Go.Proofs.YtkaajgcjdgjcbaaGreatDoor.Tx
open Go.Proofs.YtkaajgcjdgjcbaaGreatDoor.Rf (V V_two V_pos)

theorem byte_at {S : ByteArray} {i : Nat} (h : i < S.size) : ∃ c, S.data.toList[i]? = some c ∧ S[i] = c := by
  have h2 : i < S.data.toList.length := by rw [← Lib.size_eq]; exact h
  refine ⟨S.data.toList[i], List.getElem?_eq_getElem h2, ?_⟩
  show S.data[i] = _
  rw [Array.getElem_toList]
theorem nv_take {l : List UInt8} {i : Nat} {c : UInt8} (h : l[i]? = some c) : nv 0 (l.take (i + 1)) = nv 0 (l.take i) * 10 + (c.toNat - 48) := by
  rw [List.take_add_one, h, nv_append]
  show nv _ [c] = _
  rw [nv_cons, nv_nil]
set_option maxHeartbeats 4000000 in
set_option maxRecDepth 100000 in
theorem rof_calls (S : ByteArray) (hs : S.size ≤ 8192) (hall : ∀ b ∈ S.data.toList, isDig b) (w : World) :
    Calls Tryz.prog 70 #[.string S] w (Rf.GivesF w .u32 (digs V (nv 0 S.data.toList))) := by
  have HA := Lib.hid hall
  clear hall
  go_enter Tryz.func70, Tryz.ntmps70
  go_wp2
  go_loopw [3, 4] (fun p z wr => ∃ (i : Nat) (L : List Nat) (A : Option Addr) (n c : Nat), p = .slice A n c ∧ z = .int .i64 (i : Nat) ∧ i ≤ S.size ∧ SI wr .u32 A n c L ∧ Lt V L ∧ Hid (val V L = nv 0 (S.data.toList.take i)) ∧ n ≤ i ∧ Below w.heap.size w wr) (fun _ z _ => S.size - (intOf z).toNat)
  case atStart => exact ⟨0, [], _, _, _, rfl, rfl, Nat.zero_le _, Ow.si (own_empty32 w), fun x hx => by simp at hx, rfl, Nat.le_refl _, alloc_below w _⟩
  case round =>
    obtain ⟨i, L, A, n, c, rfl, rfl, hi, hr, hL, HV, hn, hb⟩ := hrel
    by_cases hin : i < S.size
    · obtain ⟨ch, hch, hSi⟩ := byte_at hin
      have hdg := HA.out ch (List.mem_of_getElem? hch)
      have hnext := nv_take hch
      unfold isDig at hdg
      obtain ⟨d, hd⟩ : ∃ d, ch.toNat = 48 + d := ⟨ch.toNat - 48, by omega⟩
      have hd9 : d < 10 := by omega
      rw [hd, Nat.add_sub_cancel_left, ← HV.out] at hnext
      have hc : (S[i].toNat : Int) = 48 + (d : Int) := by rw [hSi, hd]; omega
      have hT := times_calls A n c L d wr hr hL (by omega) hd9
      rw [show ((d : Nat) : Int) = 48 + (d : Int) - 48 by omega] at hT
      have HT := Lib.hid hT
      have HN := Lib.hid hnext
      have HB := Lib.hid hb
      clear hch hSi hdg hnext hd hr hL hb hT
      go_wp2_with (go_at_call 99; (with_reducible refine HT.out.mono ?_); rintro e w2 ⟨A2, n2, c2, L2, rfl, r2, l2, v2, k2, b2⟩)
      go_roundw
      case rel => exact ⟨i + 1, L2, A2, n2, c2, rfl, rfl, by omega, r2, l2, by rw [HN.out]; exact v2, by omega, HB.out.trans (b2.mono HB.out.size)⟩
      case measure => simp [intOf]; omega
    · obtain rfl : i = S.size := by omega
      have hfin := HV.out
      rw [List.take_of_length_le (by rw [← Lib.size_eq]; exact Nat.le_refl _)] at hfin
      have hA := Rf.add_calls A (some ⟨wr.heap.size, 0, none⟩) n c 0 0 L [] (wr.alloc (.cells #[] 79)) (hr.alloc _) (Ow.si (own_empty32 wr)) hL (fun x hx => by simp at hx) (by omega) (by omega)
      rw [val_nil, Nat.add_zero, hfin] at hA
      have HAD := Lib.hid hA
      have HB := Lib.hid hb
      clear hfin hA hr hL hb HV
      go_wp2_with (go_at_call 49; (with_reducible refine HAD.out.mono ?_); rintro e w2 ⟨A2, n2, c2, rfl, r2, f2, b2⟩)
      go_ret
      have hb2 := HB.out.trans (((alloc_below wr (.cells #[] 79)).trans (b2.mono (alloc_below wr _).size)).mono HB.out.size)
      exact ⟨A2, n2, c2, rfl, r2, fun b o s e => by have h1 := f2 b o s e; have h2 := HB.out.size; have h3 := (alloc_below wr (.cells #[] 79)).size; omega, hb2⟩
theorem rparse_long (S : ByteArray) (hs : 8192 < S.size) (w : World) :
    Calls Tryz.prog 38 #[.string S] w fun e w' => e = .returned (.tuple #[.slice none 0 0, .int .i64 21]) ∧ Below w.heap.size w w' := by
  have hd : decide ((8192 : Int) < (S.size : Int)) = true := decide_eq_true (by omega)
  go_enter Tryz.func38, Tryz.ntmps38
  go_wp2
  go_ret2
  exact ⟨rfl, Below.refl _ _⟩
def PR (w : World) (S : ByteArray) (e : Ending) (w' : World) : Prop :=
  (Numeral S.data.toList → ∃ A n c, e = .returned (.tuple #[.slice A n c, .int .i64 0]) ∧ SI w' .u32 A n c (digs V (nv 0 S.data.toList)) ∧ Below w.heap.size w w') ∧
  (¬ Numeral S.data.toList → e = .returned (.tuple #[.slice none 0 0, .int .i64 20]) ∧ Below w.heap.size w w')
set_option maxHeartbeats 4000000 in
set_option maxRecDepth 100000 in
theorem rparse_calls (S : ByteArray) (hs : S.size ≤ 8192) (w : World) :
    Calls Tryz.prog 38 #[.string S] w (PR w S) := by
  have hd : decide ((8192 : Int) < (S.size : Int)) = false := decide_eq_false (by omega)
  go_enter Tryz.func38, Tryz.ntmps38
  go_wp2
  go_loop [4] (fun z => ∃ i : Nat, z = .int .i64 (i : Nat) ∧ i ≤ S.size ∧ Hid (∀ b ∈ S.data.toList.take i, isDig b)) (fun z => S.size - (intOf z).toNat)
  case atStart => exact ⟨0, rfl, Nat.zero_le _, fun b hb => by simp at hb⟩
  case round =>
    obtain ⟨i, rfl, hi, HA⟩ := hrel
    by_cases hin : i < S.size
    · obtain ⟨ch, hch, hSi⟩ := byte_at hin
      obtain ⟨b, hb⟩ : ∃ b, (S[i].toNat : Int) = ((b : Nat) : Int) := ⟨_, rfl⟩
      have hbc : ch.toNat = b := by rw [hSi] at hb; omega
      by_cases hdg : 48 ≤ b ∧ b ≤ 57
      · have d1 : decide ((b : Int) < 48) = false := decide_eq_false (by omega)
        have d2 : decide ((57 : Int) < (b : Int)) = false := decide_eq_false (by omega)
        have hnew : Hid (∀ b ∈ S.data.toList.take (i + 1), isDig b) := by
          intro x hx
          rw [List.take_add_one, hch, List.mem_append] at hx
          rcases hx with hx | hx
          · exact HA.out x hx
          · have : x = ch := by simpa using hx
            subst this
            unfold isDig
            omega
        clear hch hSi hbc
        go_wp2
        go_round
        case rel => exact ⟨i + 1, rfl, by omega, hnew⟩
        case measure => simp [intOf]; omega
      · have hnn : ¬ Numeral S.data.toList := fun h => hdg (by
          have := h.1 ch (List.mem_of_getElem? hch)
          unfold isDig at this
          omega)
        have HNN := Lib.hid hnn
        clear hch hSi hbc hnn
        rcases Nat.lt_or_ge b 48 with hlt | hge
        · have d1 : decide ((b : Int) < 48) = true := decide_eq_true (by omega)
          go_wp2
          go_ret2
          exact ⟨fun h => absurd h HNN.out, fun _ => ⟨rfl, Below.refl _ _⟩⟩
        · have d1 : decide ((b : Int) < 48) = false := decide_eq_false (by omega)
          have d2 : decide ((57 : Int) < (b : Int)) = true := decide_eq_true (by omega)
          go_wp2
          go_ret2
          exact ⟨fun h => absurd h HNN.out, fun _ => ⟨rfl, Below.refl _ _⟩⟩
    · obtain rfl : i = S.size := by omega
      have hall := HA.out
      rw [List.take_of_length_le (by rw [← Lib.size_eq]; exact Nat.le_refl _)] at hall
      have HALL := Lib.hid hall
      clear hall HA
      rcases Nat.eq_zero_or_pos S.size with h0 | h0
      · have he := empty_of h0
        have hnn : ¬ Numeral S.data.toList := fun ⟨_, c, r, e, _⟩ => by
          have := Lib.size_eq S
          rw [e, List.length_cons] at this
          omega
        have HNN := Lib.hid hnn
        clear hnn
        go_wp2
        go_ret2
        exact ⟨fun h => absurd h HNN.out, fun _ => ⟨rfl, Below.refl _ _⟩⟩
      · have he := not_empty_of h0
        obtain ⟨c, r, hl⟩ : ∃ c r, S.data.toList = c :: r := by
          cases hl : S.data.toList with
          | nil => have := Lib.size_eq S; rw [hl, List.length_nil] at this; omega
          | cons c r => exact ⟨c, r, rfl⟩
        have hsz : S.size = r.length + 1 := by rw [Lib.size_eq, hl, List.length_cons]
        have hfirst := first_of h0 hl
        by_cases hbad : c = 48 ∧ r ≠ []
        · obtain ⟨rfl, hr⟩ := hbad
          have hnn : ¬ Numeral S.data.toList := by
            rintro ⟨_, c', r', e, h⟩
            rw [hl] at e
            injection e with e1 e2
            subst e1; subst e2
            rcases h with h | h
            · exact h rfl
            · exact hr h
          have HNN := Lib.hid hnn
          have hr2 : 0 < r.length := List.length_pos_iff.2 hr
          have d1 : decide ((1 : Int) < (S.size : Int)) = true := decide_eq_true (by omega)
          have hz : (S[0].toNat : Int) = 48 := by rw [hfirst]; rfl
          clear hnn hl hfirst hsz
          go_wp2
          go_ret2
          exact ⟨fun h => absurd h HNN.out, fun _ => ⟨rfl, Below.refl _ _⟩⟩
        · have hgood : Numeral S.data.toList := ⟨HALL.out, c, r, hl, by
            by_cases hc : c = 48
            · refine .inr (Classical.byContradiction fun hr => hbad ⟨hc, hr⟩)
            · exact .inl hc⟩
          have HG := Lib.hid hgood
          have HOF := Lib.hid (fun w1 => rof_calls S hs HALL.out w1)
          by_cases hc : c = 48
          · have hr : r = [] := Classical.byContradiction fun hr => hbad ⟨hc, hr⟩
            subst hr
            have d1 : decide ((1 : Int) < (S.size : Int)) = false := decide_eq_false (by rw [hsz]; simp)
            clear hgood hl hfirst hsz hbad hc
            go_wp2_with (go_at_call 70; (with_reducible refine (HOF.out w).mono ?_); rintro e w2 ⟨A2, n2, c2, rfl, r2, f2, b2⟩)
            go_ret2
            exact ⟨fun _ => ⟨A2, n2, c2, rfl, r2, b2⟩, fun h => absurd HG.out h⟩
          · have hz : ¬ (S[0].toNat : Int) = 48 := by
              rw [hfirst]
              intro e
              apply hc
              have : c.toNat = 48 := by omega
              rw [← UInt8.ofNat_toNat (x := c), this]
              rfl
            have hz2 : ((S[0].toNat : Int) == 48) = false := beq_eq_false_iff_ne.2 hz
            clear hgood hl hfirst hbad hc hsz
            go_wp2_with (go_at_call 70; (with_reducible refine (HOF.out w).mono ?_); rintro e w2 ⟨A2, n2, c2, rfl, r2, f2, b2⟩)
            all_goals (go_ret2; exact ⟨fun _ => ⟨A2, n2, c2, rfl, r2, b2⟩, fun h => absurd HG.out h⟩)
end Go.Proofs.YtkaajgcjdgjcbaaGreatDoor.Rw

/- Layer 2's laws: WholeReads. -/
namespace Go.Proofs.YtkaajgcjdgjcbaaGreatDoor.Aw
open Go.RowKit Go.Proofs.YtkaajgcjdgjcbaaGreatDoor.Dig Go.Proofs.YtkaajgcjdgjcbaaGreatDoor.W Go.Proofs.YtkaajgcjdgjcbaaGreatDoor.Nat Go.Proofs.YtkaajgcjdgjcbaaGreatDoor.Wh Go.Proofs.YtkaajgcjdgjcbaaGreatDoor.Td Go.Proofs.YtkaajgcjdgjcbaaGreatDoor.Bu Go.Proofs.YtkaajgcjdgjcbaaGreatDoor.Tx
open Go.Proofs.YtkaajgcjdgjcbaaGreatDoor.Rf (V V_two V_pos)

theorem out_nil (w : World) : Calls Tryz.prog 32 #[.slice none 0 0] w (GivesOwn w 65 .u64 []) := by
  have e := Rw.out_d none 0 0 0 w (by rw [digs_zero]; exact SI.nil _ _ _ _ (by omega)) (by omega)
  rw [digs_zero] at e
  exact e
theorem rnv_short {l : List UInt8} (h : Numeral l) (hl : l.length ≤ 8192) : (digs V (nv 0 l)).length ≤ 8192 := rpow_len (a := 10) (Nat.le_refl _) (Nat.le_of_lt (nv_lt h.1)) hl
set_option maxHeartbeats 4000000 in
set_option maxRecDepth 100000 in
theorem reads_good (s : ByteArray) (hs : s.size ≤ 9223372036854775807) (w : World) (hp : Pow w) (h1 : s.size ≤ 8192) (h2 : Numeral s.data.toList) :
    Calls Tryz.prog 7 #[.string s] w fun e w' => e = .returned (.bool true) ∧ Below w.heap.size w w' := by
  have HP := Lib.hid hp
  clear hp
  go_enter Tryz.func7, Tryz.ntmps7
  go_wp2_with (first
    | (go_at_call 37; (with_reducible refine (parse_good s h1 h2 w).mono ?_); rintro e w1 ⟨A1, n1, c1, rfl, r1, b1⟩)
    | (go_at_call 38; (with_reducible refine (Rw.rparse_calls s h1 w1).mono ?_); rintro e w2 ⟨hg, _⟩; obtain ⟨A2, n2, c2, rfl, r2, b2⟩ := hg h2)
    | (go_at_call 13; (with_reducible refine (awake_calls w2 ((HP.out.below b1).below b2)).mono ?_); rintro e w3 ⟨rfl, b3⟩)
    | (go_at_call 32; (with_reducible refine (Rw.out_d A2 n2 c2 _ w3 (r2.below b3) (by rw [← r2.len]; exact Nat.le_trans (rnv_short h2 (by rw [← Lib.size_eq]; exact h1)) (by omega))).mono ?_); rintro e w4 ⟨v4, rfl, o4, b4⟩; obtain ⟨A4, n4, c4, rfl, r4⟩ := o4.reads_n)
    | (go_at_call 31; (with_reducible refine (Rf.same_calls A1 A4 n1 c1 n4 c4 _ w4 (((r1.below b2).below b3).below b4) r4).mono ?_); rintro e w5 ⟨rfl, d5⟩))
  go_ret
  exact ⟨rfl, on (on (on (on b1 b2) b3) b4) d5.below⟩
set_option maxHeartbeats 4000000 in
set_option maxRecDepth 100000 in
theorem reads_bad (s : ByteArray) (hs : s.size ≤ 9223372036854775807) (w : World) (hp : Pow w) (h1 : s.size ≤ 8192) (h2 : ¬ Numeral s.data.toList) :
    Calls Tryz.prog 7 #[.string s] w fun e w' => e = .returned (.bool true) ∧ Below w.heap.size w w' := by
  have HP := Lib.hid hp
  clear hp
  go_enter Tryz.func7, Tryz.ntmps7
  go_wp2_with (first
    | (go_at_call 37; (with_reducible refine (parse_bad s h1 h2 w).mono ?_); rintro e w1 ⟨rfl, b1⟩)
    | (go_at_call 38; (with_reducible refine (Rw.rparse_calls s h1 w1).mono ?_); rintro e w2 ⟨_, hg⟩; obtain ⟨rfl, b2⟩ := hg h2)
    | (go_at_call 13; (with_reducible refine (awake_calls w2 ((HP.out.below b1).below b2)).mono ?_); rintro e w3 ⟨rfl, b3⟩)
    | (go_at_call 32; (with_reducible refine (out_nil w3).mono ?_); rintro e w4 ⟨v4, rfl, o4, b4⟩; obtain ⟨A4, n4, c4, rfl, r4⟩ := o4.reads_n)
    | (go_at_call 31; (with_reducible refine (Rf.same_calls none A4 0 0 n4 c4 [] w4 (SI.nil _ _ _ _ (by omega)) r4).mono ?_); rintro e w5 ⟨rfl, d5⟩))
  go_ret
  exact ⟨rfl, on (on (on (on b1 b2) b3) b4) d5.below⟩
set_option maxHeartbeats 4000000 in
set_option maxRecDepth 100000 in
theorem reads_long (s : ByteArray) (hs : s.size ≤ 9223372036854775807) (w : World) (hp : Pow w) (h1 : 8192 < s.size) :
    Calls Tryz.prog 7 #[.string s] w fun e w' => e = .returned (.bool true) ∧ Below w.heap.size w w' := by
  have HP := Lib.hid hp
  clear hp
  go_enter Tryz.func7, Tryz.ntmps7
  go_wp2_with (first
    | (go_at_call 37; (with_reducible refine (parse_long s h1 hs w).mono ?_); rintro e w1 ⟨rfl, b1⟩)
    | (go_at_call 38; (with_reducible refine (Rw.rparse_long s h1 w1).mono ?_); rintro e w2 ⟨rfl, b2⟩)
    | (go_at_call 13; (with_reducible refine (awake_calls w2 ((HP.out.below b1).below b2)).mono ?_); rintro e w3 ⟨rfl, b3⟩)
    | (go_at_call 32; (with_reducible refine (out_nil w3).mono ?_); rintro e w4 ⟨v4, rfl, o4, b4⟩; obtain ⟨A4, n4, c4, rfl, r4⟩ := o4.reads_n)
    | (go_at_call 31; (with_reducible refine (Rf.same_calls none A4 0 0 n4 c4 [] w4 (SI.nil _ _ _ _ (by omega)) r4).mono ?_); rintro e w5 ⟨rfl, d5⟩))
  go_ret
  exact ⟨rfl, on (on (on (on b1 b2) b3) b4) d5.below⟩
theorem wholeReads_calls (s : ByteArray) (hs : s.size ≤ 9223372036854775807) (w : World) (hp : Pow w) :
    Calls Tryz.prog 7 #[.string s] w fun e w' => e = .returned (.bool true) ∧ Below w.heap.size w w' := by
  by_cases h1 : s.size ≤ 8192
  · by_cases h2 : Numeral s.data.toList
    · exact reads_good s hs w hp h1 h2
    · exact reads_bad s hs w hp h1 h2
  · exact reads_long s hs w hp (by omega)
end Go.Proofs.YtkaajgcjdgjcbaaGreatDoor.Aw
