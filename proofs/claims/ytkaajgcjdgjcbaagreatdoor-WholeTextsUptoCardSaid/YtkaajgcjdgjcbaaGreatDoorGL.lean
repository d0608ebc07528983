/- Texts of one layer, joined: La, Qf, Tb, Tz, Ty, Le. -/
import Derived.Test.YtkaajgcjdgjcbaaGreatDoorGF
import Derived.Test.YtkaajgcjdgjcbaaGreatDoorGE
set_option linter.unusedVariables false
set_option linter.unusedSimpArgs false
set_option linter.unusedSectionVars false
/- Layer 2's laws: WholePowers. -/
namespace Go.Proofs.YtkaajgcjdgjcbaaGreatDoor.Aw
open Go.RowKit Go.Proofs.YtkaajgcjdgjcbaaGreatDoor.Dig Go.Proofs.YtkaajgcjdgjcbaaGreatDoor.W Go.Proofs.YtkaajgcjdgjcbaaGreatDoor.Nat Go.Proofs.YtkaajgcjdgjcbaaGreatDoor.Wh Go.Proofs.YtkaajgcjdgjcbaaGreatDoor.Td Go.Proofs.YtkaajgcjdgjcbaaGreatDoor.Bu Go.Proofs.YtkaajgcjdgjcbaaGreatDoor.Tx
open Go.Proofs.YtkaajgcjdgjcbaaGreatDoor.Rf (V V_two V_pos)

theorem on {w W W' : World} (h : Below w.heap.size w W) (b : Below W.heap.size W W') : Below w.heap.size w W' := h.trans (b.mono h.size)
theorem rpow5 (n : Nat) (w : World) (hn : n ≤ 8192) : Calls Tryz.prog 30 #[.int .i64 5, .int .i64 (n : Nat)] w (Gives w .u32 (digs V (5 ^ n))) := rpow_calls 5 n w (by omega) (by omega) (by omega)
theorem rshl_d (A : Option Addr) (n c m k : Nat) (w : World) (h : SI w .u32 A n c (digs V m)) (hn : n ≤ 4398046511104) (hk : k ≤ 65536) :
    Calls Tryz.prog 33 #[.slice A n c, .int .i64 (k : Nat)] w (Rf.GivesF w .u32 (digs V (m * 2 ^ k))) := by
  have e := Rf.shl_calls A n c (digs V m) k w h (digs_lt V_two m) hn hk
  rw [val_digs V_two] at e
  exact e
theorem rpow_len' {a n x M : Nat} (ha : a ≤ 10) (hx : x ≤ a ^ n) (hn : n ≤ M) (hM : M ≠ 0) : (digs V x).length ≤ M := by
  refine (digs_length_le V_two _ _).2 (Nat.lt_of_le_of_lt hx ?_)
  have h1 : a ^ n ≤ 10 ^ n := Nat.pow_le_pow_left ha n
  have h2 : 10 ^ n ≤ 10 ^ M := Nat.pow_le_pow_right (by omega) hn
  have h3 : 10 ^ M < V ^ M := Nat.pow_lt_pow_left (by decide) hM
  exact Nat.lt_of_le_of_lt (Nat.le_trans h1 h2) h3
theorem rpow_len {a n x : Nat} (ha : a ≤ 10) (hx : x ≤ a ^ n) (hn : n ≤ 8192) : (digs V x).length ≤ 8192 := rpow_len' ha hx hn (by decide)
theorem five_ten (k : Nat) : 5 ^ k * 2 ^ k = 10 ^ k := by rw [← Nat.mul_pow]
set_option maxHeartbeats 4000000 in
set_option maxRecDepth 100000 in
theorem wholePowers_calls (z : Int) (w : World) (hp : Pow w) :
    Calls Tryz.prog 5 #[.int .i64 z] w fun e w' => e = .returned (.bool true) ∧ Below w.heap.size w w' := by
  have HP := Lib.hid hp
  clear hp
  by_cases hin : 0 ≤ z ∧ z ≤ 8192
  · obtain ⟨k, rfl⟩ : ∃ k : Nat, z = k := ⟨z.toNat, by omega⟩
    have hk : k ≤ 8192 := by omega
    clear hin
    have hL1 := rpow_len (a := 5) (by omega) (Nat.le_refl _) hk
    have hL2 := rpow_len (a := 10) (by omega) (Nat.le_refl _) hk
    have HL1 := Lib.hid hL1
    have HL2 := Lib.hid hL2
    have h5 := five_ten k
    have H5 := Lib.hid h5
    have HA := Lib.hid (fun w1 => pow5_calls k w1 hk)
    have HB := Lib.hid (fun w1 => Wh.pow10_calls k w1 hk)
    have HC := Lib.hid (fun w1 => rpow5 k w1 hk)
    have HD := Lib.hid (fun (A : Option Addr) (n c : Nat) (w1 : World) (h : SI w1 .u32 A n c (digs V (5 ^ k))) => rshl_d A n c (5 ^ k) k w1 h (by rw [← h.len]; omega) (by omega))
    rw [h5] at HD
    clear hL1 hL2 h5
    generalize 5 ^ k = p at *
    generalize 10 ^ k = t at *
    go_enter Tryz.func5, Tryz.ntmps5
    go_wp2_with (first
      | (go_at_call 28; (with_reducible refine (HA.out w).mono ?_); rintro e w1 ⟨A1, n1, c1, rfl, r1, b1⟩)
      | (go_at_call 29; (with_reducible refine (HB.out w1).mono ?_); rintro e w2 ⟨A2, n2, c2, rfl, r2, b2⟩)
      | (go_at_call 13; (with_reducible refine (awake_calls w2 ((HP.out.below b1).below b2)).mono ?_); rintro e w3 ⟨rfl, b3⟩)
      | (go_at_call 30; (with_reducible refine (HC.out w3).mono ?_); rintro e w4 ⟨A4, n4, c4, rfl, r4, b4⟩)
      | (go_at_call 32; first
        | ((with_reducible refine (Rw.out_d A4 n4 c4 p w4 r4 (by rw [← r4.len]; have := HL1.out; omega)).mono ?_); rintro e w5 ⟨v5, rfl, o5, b5⟩; obtain ⟨A5, n5, c5, rfl, r5⟩ := o5.reads_n)
        | ((with_reducible refine (Rw.out_d A7 n7 c7 t w7 r7 (by rw [← r7.len]; have := HL2.out; omega)).mono ?_); rintro e w8 ⟨v8, rfl, o8, b8⟩; obtain ⟨A8, n8, c8, rfl, r8⟩ := o8.reads_n))
      | (go_at_call 31; first
        | ((with_reducible refine (Rf.same_calls A1 A5 n1 c1 n5 c5 _ w5 ((((r1.below b2).below b3).below b4).below b5) r5).mono ?_); rintro e w6 ⟨rfl, d6⟩)
        | ((with_reducible refine (Rf.same_calls A2 A8 n2 c2 n8 c8 _ w8 ((((((r2.below b3).below b4).below b5).below d6.below).below b7).below b8) r8).mono ?_); rintro e w9 ⟨rfl, d9⟩))
      | (go_at_call 33; (with_reducible refine (HD.out A4 n4 c4 w6 ((r4.below b5).below d6.below)).mono ?_); rintro e w7 ⟨A7, n7, c7, rfl, r7, f7, b7⟩))
    go_ret
    exact ⟨rfl, on (on (on (on (on (on (on (on b1 b2) b3) b4) b5) d6.below) b7) b8) d9.below⟩
  · have hin' : z < 0 ∨ 8192 < z := by omega
    have HA := Lib.hid (fun w1 => pow5_err z w1 hin')
    have HB := Lib.hid (fun w1 => pow10_err z w1 hin')
    rcases Int.lt_or_le z 0 with h0 | h0
    · have hd1 : decide (z < 0) = true := decide_eq_true h0
      clear hin hin' h0
      go_enter Tryz.func5, Tryz.ntmps5
      go_wp2_with (first
        | (go_at_call 28; (with_reducible refine (HA.out w).mono ?_); rintro e w1 ⟨rfl, rfl⟩)
        | (go_at_call 29; (with_reducible refine (HB.out w).mono ?_); rintro e w2 ⟨rfl, rfl⟩)
        | (go_at_call 13; (with_reducible refine (awake_calls w HP.out).mono ?_); rintro e w3 ⟨rfl, b3⟩))
      go_ret
      exact ⟨rfl, b3⟩
    · have hd1 : decide (z < 0) = false := decide_eq_false (by omega)
      have hd2 : decide (8192 < z) = true := decide_eq_true (by omega)
      clear hin hin' h0
      go_enter Tryz.func5, Tryz.ntmps5
      go_wp2_with (first
        | (go_at_call 28; (with_reducible refine (HA.out w).mono ?_); rintro e w1 ⟨rfl, rfl⟩)
        | (go_at_call 29; (with_reducible refine (HB.out w).mono ?_); rintro e w2 ⟨rfl, rfl⟩)
        | (go_at_call 13; (with_reducible refine (awake_calls w HP.out).mono ?_); rintro e w3 ⟨rfl, b3⟩))
      go_ret
      exact ⟨rfl, b3⟩
end Go.Proofs.YtkaajgcjdgjcbaaGreatDoor.Aw

/- The document's answer of layer 2, on: Add of like signs. -/
namespace Go.Proofs.YtkaajgcjdgjcbaaGreatDoor.Rw
open Go.RowKit Go.Proofs.YtkaajgcjdgjcbaaGreatDoor.Dig Go.Proofs.YtkaajgcjdgjcbaaGreatDoor.W Go.Proofs.YtkaajgcjdgjcbaaGreatDoor.Nat Go.Proofs.YtkaajgcjdgjcbaaGreatDoor.Wh
open Go.Proofs.YtkaajgcjdgjcbaaGreatDoor.Rf (V V_two V_pos)

theorem len_addR {l l' : List Nat} {n n' M : Nat} (hl : Lt V l) (hl' : Lt V l') (h : l.length = n) (h' : l'.length = n') (hn : n ≤ M) (hn' : n' ≤ M) : (digs V (val V l + val V l')).length ≤ M + 1 := by
  have h1 := val_lt V_pos hl
  have h2 := val_lt V_pos hl'
  have p1 : V ^ l.length ≤ V ^ M := Nat.pow_le_pow_right V_pos (by omega)
  have p2 : V ^ l'.length ≤ V ^ M := Nat.pow_le_pow_right V_pos (by omega)
  have p3 : V ^ M * 2 ≤ V ^ (M + 1) := by rw [Nat.pow_succ]; exact Nat.mul_le_mul_left _ V_two
  exact (digs_length_le V_two _ _).2 (by omega)
set_option maxHeartbeats 4000000 in
set_option maxRecDepth 100000 in
theorem radd_f (A A' : Option Addr) (n c n' c' : Nat) (l l' : List Nat) (w : World) (h : SI w .u32 A n c l) (h' : SI w .u32 A' n' c' l') (hl : Lt V l) (hl' : Lt V l') (hn : n ≤ 1099511627776) (hn' : n' ≤ 1099511627776) :
    Calls Tryz.prog 19 #[.agg #[.bool false, .slice A n c], .agg #[.bool false, .slice A' n' c']] w (GivesR w (sg false (val V l + val V l'))) := by
  have hB := BoxR.start w (.bool false) (.slice A n c) (.bool false) (.slice A' n' c')
  obtain ⟨W, hW⟩ : ∃ W, W = WR3 w (.bool false) (.slice A n c) (.bool false) (.slice A' n' c') := ⟨_, rfl⟩
  rw [← hW] at hB
  have HW := Lib.hid hW
  unfold WR3 at HW
  have hB2 := hB.below (Below.refl W.heap.size W).drew
  have kp := hB2.rd
  have hA := Rf.add_calls A A' n c n' c' l l' W.drew (h.below hB2.bl) (h'.below hB2.bl) hl hl' (by omega) (by omega)
  have hlen := len_addR hl hl' h.len h'.len hn hn'
  generalize val V l + val V l' = m at *
  have HA := Lib.hid hA
  have HL := Lib.hid hlen
  clear hA hlen hW h h' hB
  unfold Rd4 at kp
  go_enter Tryz.func19, Tryz.ntmps19
  go_wp2
  rw [← HW.out]
  clear HW
  go_region_held3 (fun w' => w'.cell? ⟨w.heap.size, 0, none⟩ = some (.bool false) ∧ w'.cell? ⟨w.heap.size, 1, none⟩ = some (.slice A n c) ∧ w'.cell? ⟨w.heap.size + 1, 0, none⟩ = some (.bool false) ∧ w'.cell? ⟨w.heap.size + 1, 1, none⟩ = some (.slice A' n' c'))
    (first
      | exact kp
      | exact k1
      | exact k2
      | exact k2.far _ _)
    (first
      | (go_at_call 49; (with_reducible refine HA.out.mono ?_); rintro e w1 ⟨A1, n1, c1, rfl, r1, u1, b1⟩; have x1 := hB2.below b1; have k1 := x1.rd)
      | (go_at_call 46; (with_reducible refine (rmake_d false A1 n1 c1 m w1 r1 (by have := r1.len; have := HL.out; omega)).mono ?_); rintro e w2 ⟨A2, n2, c2, rfl, r2, f2, b2⟩; have x2 := x1.below b2; have k2 := x2.rd; have q0 := x2.r.c0; have q1 := x2.r.c1; have g0 := x2.r.f0; have g1 := x2.r.f1))
  go_wp2
  obtain ⟨p1, p2, p3⟩ := put_resR (a := .bool (decide (sg false m < 0))) (b := .slice A2 n2 c2) x1.bl x1.r (by omega) r2 f2 b2
  exact bodyPost_ret (two_resultsR rfl _ (x2.r.store _ _) rfl) rfl ⟨A2, n2, c2, rfl, p1, p2, p3⟩
set_option maxHeartbeats 4000000 in
set_option maxRecDepth 100000 in
theorem radd_t (A A' : Option Addr) (n c n' c' : Nat) (l l' : List Nat) (w : World) (h : SI w .u32 A n c l) (h' : SI w .u32 A' n' c' l') (hl : Lt V l) (hl' : Lt V l') (hn : n ≤ 1099511627776) (hn' : n' ≤ 1099511627776) :
    Calls Tryz.prog 19 #[.agg #[.bool true, .slice A n c], .agg #[.bool true, .slice A' n' c']] w (GivesR w (sg true (val V l + val V l'))) := by
  have hB := BoxR.start w (.bool true) (.slice A n c) (.bool true) (.slice A' n' c')
  obtain ⟨W, hW⟩ : ∃ W, W = WR3 w (.bool true) (.slice A n c) (.bool true) (.slice A' n' c') := ⟨_, rfl⟩
  rw [← hW] at hB
  have HW := Lib.hid hW
  unfold WR3 at HW
  have hB2 := hB.below (Below.refl W.heap.size W).drew
  have kp := hB2.rd
  have hA := Rf.add_calls A A' n c n' c' l l' W.drew (h.below hB2.bl) (h'.below hB2.bl) hl hl' (by omega) (by omega)
  have hlen := len_addR hl hl' h.len h'.len hn hn'
  generalize val V l + val V l' = m at *
  have HA := Lib.hid hA
  have HL := Lib.hid hlen
  clear hA hlen hW h h' hB
  unfold Rd4 at kp
  go_enter Tryz.func19, Tryz.ntmps19
  go_wp2
  rw [← HW.out]
  clear HW
  go_region_held3 (fun w' => w'.cell? ⟨w.heap.size, 0, none⟩ = some (.bool true) ∧ w'.cell? ⟨w.heap.size, 1, none⟩ = some (.slice A n c) ∧ w'.cell? ⟨w.heap.size + 1, 0, none⟩ = some (.bool true) ∧ w'.cell? ⟨w.heap.size + 1, 1, none⟩ = some (.slice A' n' c'))
    (first
      | exact kp
      | exact k1
      | exact k2
      | exact k2.far _ _)
    (first
      | (go_at_call 49; (with_reducible refine HA.out.mono ?_); rintro e w1 ⟨A1, n1, c1, rfl, r1, u1, b1⟩; have x1 := hB2.below b1; have k1 := x1.rd)
      | (go_at_call 46; (with_reducible refine (rmake_d true A1 n1 c1 m w1 r1 (by have := r1.len; have := HL.out; omega)).mono ?_); rintro e w2 ⟨A2, n2, c2, rfl, r2, f2, b2⟩; have x2 := x1.below b2; have k2 := x2.rd; have q0 := x2.r.c0; have q1 := x2.r.c1; have g0 := x2.r.f0; have g1 := x2.r.f1))
  go_wp2
  obtain ⟨p1, p2, p3⟩ := put_resR (a := .bool (decide (sg true m < 0))) (b := .slice A2 n2 c2) x1.bl x1.r (by omega) r2 f2 b2
  exact bodyPost_ret (two_resultsR rfl _ (x2.r.store _ _) rfl) rfl ⟨A2, n2, c2, rfl, p1, p2, p3⟩
end Go.Proofs.YtkaajgcjdgjcbaaGreatDoor.Rw

/- The document's answer of layer 2, on: by. -/
namespace Go.Proofs.YtkaajgcjdgjcbaaGreatDoor.Rw
open Go.RowKit Go.Proofs.YtkaajgcjdgjcbaaGreatDoor.Dig Go.Proofs.YtkaajgcjdgjcbaaGreatDoor.W Go.Proofs.YtkaajgcjdgjcbaaGreatDoor.Nat Go.Proofs.YtkaajgcjdgjcbaaGreatDoor.Wh
open Go.Proofs.YtkaajgcjdgjcbaaGreatDoor.Rf (V V_two V_pos)

/-- the word that is divided -/
def xw (r d : Nat) : Nat := r * 65536 + d
theorem xw_lt {r d : Nat} (hr : r < 10000) (hd : d < 65536) : xw r d < 655360000 := by unfold xw; omega
theorem by_or {r d : Nat} (hr : r < 10000) (hd : d < V) : Go.bits .or .u32 ((r : Int) * 65536) (d : Int) = (xw r d : Nat) := by
  have hd' : d < 2 ^ 16 := hd
  have e := Nat.two_pow_add_eq_or_of_lt hd' r
  have h1 := u32_or_nat (2 ^ 16 * r) d (by omega) (by unfold Rf.V at hd; omega)
  rw [← e] at h1
  rw [show (r : Int) * 65536 = ((2 ^ 16 * r : Nat) : Int) by omega, h1]
  unfold xw
  congr 1
  omega
theorem by_rem (x : Nat) : ((x : Nat) : Int).tmod 10000 = ((x % 10000 : Nat) : Int) := by
  rw [Int.tmod_eq_emod_of_nonneg (by omega)]; omega
theorem by_quo {x : Nat} (h : x < 655360000) : ((x : Nat) : Int).tdiv 10000 % 4294967296 = ((x / 10000 : Nat) : Int) := by
  rw [Int.tdiv_eq_ediv_of_nonneg (by omega)]; omega
/-- where by stands: the digits from i on are divided -/
structure ByI (l O : List Nat) (n i r : Nat) : Prop where
  len : O.length = n
  lt : Lt V O
  zero : O.take i = List.replicate i 0
  inv : V ^ i * (10000 * val V (O.drop i) + r) = V ^ i * val V (l.drop i)
  rlt : r < 10000
theorem ByI.start {l : List Nat} {n : Nat} (h : l.length = n) : ByI l (List.replicate n 0) n n 0 :=
  ⟨by simp, fun x hx => by rw [(List.mem_replicate.1 hx).2]; exact V_pos, by rw [List.take_of_length_le (by simp)], by
    rw [← h, List.drop_length, List.drop_of_length_le (by simp)]; simp [val_nil], by omega⟩
theorem ByI.round {l O : List Nat} {n i r : Nat} (h : ByI l O n (i + 1) r) (hl : Lt V l) (hn : l.length = n) (hi : i < n) :
    ByI l (O.set i (xw r (rd l i) / 10000)) n i (xw r (rd l i) % 10000) := by
  have hd := rd_lt hl V_pos i
  have hx : xw r (rd l i) / 10000 < V := by
    have := h.rlt
    have h1 : xw r (rd l i) < 10000 * 65536 := by unfold xw; unfold Rf.V at hd; omega
    unfold Rf.V
    omega
  have hval : 10000 * val V (O.drop (i + 1)) + r = val V (l.drop (i + 1)) := Nat.eq_of_mul_eq_mul_left (Nat.pow_pos V_pos) h.inv
  refine ⟨by rw [List.length_set, h.len], set_lt h.lt hx, ?_, ?_, Nat.mod_lt _ (by omega)⟩
  · rw [List.take_set_of_le (Nat.le_refl i)]
    have := congrArg (List.take i) h.zero
    rw [List.take_take, Nat.min_eq_left (by omega), List.take_replicate, Nat.min_eq_left (by omega)] at this
    exact this
  · congr 1
    rw [drop_rd (by omega : i < l.length), val_cons, ← hval, drop_rd (by rw [List.length_set, h.len]; exact hi), val_cons, rd_set (by rw [h.len]; exact hi), if_pos rfl, List.drop_set_of_lt (by omega)]
    have e := Nat.mod_add_div (xw r (rd l i)) 10000
    have ev : V = 65536 := rfl
    unfold xw at e ⊢
    rw [ev] at *
    generalize val 65536 (O.drop (i + 1)) = q at *
    omega
theorem ByI.done {l O : List Nat} {n r : Nat} (h : ByI l O n 0 r) : val V O = val V l / 10000 ∧ r = val V l % 10000 := by
  have e := h.inv
  rw [Nat.pow_zero, Nat.one_mul, Nat.one_mul, List.drop_zero, List.drop_zero] at e
  have := h.rlt
  omega
set_option maxHeartbeats 4000000 in
set_option maxRecDepth 100000 in
theorem by_calls (A : Option Addr) (n c : Nat) (l : List Nat) (w : World) (h : SI w .u32 A n c l) (hl : Lt V l) (hn : n ≤ 4398046511104) :
    Calls Tryz.prog 67 #[.slice A n c, .int .u32 10000] w fun e w' => ∃ A1 n1 c1, e = .returned (.tuple #[.slice A1 n1 c1, .int .u32 (val V l % 10000 : Nat)]) ∧ Ow w' w.heap.size 79 .u32 (.slice A1 n1 c1) (digs V (val V l / 10000)) ∧ Below w.heap.size w w' := by
  have hL := Lib.hid h.len
  have hc := Sl.le h
  have hcm := Sl.cap h
  go_enter Tryz.func67, Tryz.ntmps67
  go_wp2_with (at_make; refine wpList_make_nums _ rfl (.tmp 12) (.tmp 12) 26 rfl w.heap.size 79 .u32 4 Tryz.underlying26 Rf.info32 .i64 .i64 _ _ n rfl rfl (by simp) (by simp) (by omega) (by omega) (Nat.le_refl _) ?_; intro w1 hown1 hg1)
  have hb1 := grown_below hg1
  obtain ⟨g, hgw⟩ : ∃ g, w.heap.size = g := ⟨_, rfl⟩
  rw [hgw] at hown1 hb1 ⊢
  go_loopw [7, 8] (fun rv z wr => ∃ (i r : Nat) (y : Int) (O : List Nat), rv = .int .u32 (r : Nat) ∧ z = .int .i64 y ∧ i ≤ n ∧ Hid (y + 1 = i) ∧ ByI l O n i r ∧ Ow wr g 79 .u32 (.slice (some ⟨g, 0, none⟩) n n) O ∧ Below g w wr) (fun _ z _ => (intOf z + 1).toNat)
  case atStart => exact ⟨n, 0, (n : Int) - 1, _, rfl, rfl, Nat.le_refl _, by unfold Hid; omega, ByI.start h.len, hown1, hb1⟩
  case round =>
    obtain ⟨i, r, y, O, rfl, rfl, hi, HY, hI, hown, hb⟩ := hrel
    cases i with
    | zero =>
      obtain rfl : y = -1 := by have := HY.out; omega
      obtain ⟨f1, f2⟩ := hI.done
      have hs0 : SI wr .u32 (some ⟨g, 0, none⟩) n n O := by
        obtain ⟨A', n', c', e, hsi⟩ := hown.reads_n
        injection e with e1 e2 e3
        subst e1; subst e2; subst e3
        exact hsi
      have hs : Ow wr g 79 .u32 (.slice (some ⟨g, 0, none⟩) (trimN O n) n) (digs V (val V l / 10000)) := by
        have h1 := hown.take (trimN_le O n)
        have h2 := trim_digs V_two hI.lt
        rw [hI.len, f1] at h2
        rwa [h2] at h1
      subst f2
      have HS := Lib.hid hs
      have HB := Lib.hid hb
      have hc2 := Sl.cap hs0
      have HS0 := Lib.hid hs0
      clear hs hb hI hs0 hL
      obtain ⟨R, hR⟩ : ∃ R, R = val V l % 10000 := ⟨_, rfl⟩
      have HR := Lib.hid hR
      rw [← hR]
      clear hR
      go_wp2
      go_loop [10] (fun t => ∃ m : Nat, m ≤ n ∧ t = .int .i64 (m : Nat) ∧ Hid (trimN O m = trimN O n)) (fun t => (intOf t).toNat)
      case atStart => exact ⟨n, Nat.le_refl _, rfl, rfl⟩
      case round =>
        obtain ⟨m, hmx, rfl, HT⟩ := hrel
        cases m with
        | zero =>
          go_wp2
          go_ret2
          have e0 : trimN O n = 0 := HT.out.symm
          have hs := HS.out
          rw [e0] at hs
          exact ⟨_, _, _, (by have hR := HR.out; subst hR; rfl), by first | exact hs | (rw [hgw]; exact hs), by first | exact HB.out | (rw [hgw]; exact HB.out)⟩
        | succ m =>
          obtain ⟨b, o, e, h1⟩ := HS0.out.at_ (j := m) (by omega)
          injection e with e
          injection e with e1 e2
          subst e1; subst e2
          rw [Nat.zero_add] at h1
          by_cases h0 : rd O m = 0
          · have hb : (((rd O m : Nat) : Int) == 0) = true := by simp [h0]
            have HE := Lib.hid h0
            clear h0
            go_wp2
            go_round
            case rel => exact ⟨m, by omega, by go_num, by show _ = _; rw [← HT.out]; simp [trimN, HE.out]⟩
            case measure => simp [intOf]
          · have hb : (((rd O m : Nat) : Int) == 0) = false := by simp [h0]
            have HE := Lib.hid h0
            clear h0
            go_wp2
            go_ret2
            have e0 : trimN O n = m + 1 := by rw [← HT.out]; simp [trimN, HE.out]
            have hs := HS.out
            rw [e0] at hs
            exact ⟨_, _, _, (by have hR := HR.out; subst hR; rfl), by first | exact hs | (rw [hgw]; exact hs), by first | exact HB.out | (rw [hgw]; exact HB.out)⟩
    | succ j =>
      obtain rfl : y = (j : Int) := by have := HY.out; omega
      have hbw : Below w.heap.size w wr := by rw [hgw]; exact hb
      obtain ⟨b, o, rfl, hc0⟩ := h.at_ (j := j) (by omega)
      have hc1 := cell_keep hbw hc0
      have hr := hI.rlt
      have hd := rd_lt hl V_pos j
      have hfr := hown.frozenAt j
      have hcq := hown.cellAt (j := j) (by omega)
      have hor := by_or hr hd
      have hx := xw_lt hr hd
      have hnew := hI.round hl h.len (by omega)
      have HN := Lib.hid hnew
      have HO := Lib.hid hown
      have HB := Lib.hid hb
      clear hnew hown hb hI hc0 hbw
      obtain ⟨X, hX⟩ : ∃ X, X = xw r (rd l j) := ⟨_, rfl⟩
      rw [← hX] at hor hx HN
      have hrem := by_rem X
      have hquo := by_quo hx
      clear hX
      go_wp2
      go_roundw
      case rel => exact ⟨j, X % 10000, (j : Int) - 1, _, rfl, rfl, by omega, by unfold Hid; omega, HN.out, HO.out.store _ _, HB.out.setCell (Nat.le_refl _) _⟩
      case measure => simp [intOf]
end Go.Proofs.YtkaajgcjdgjcbaaGreatDoor.Rw

/- The document's answer of layer 2, on: Text. -/
namespace Go.Proofs.YtkaajgcjdgjcbaaGreatDoor.Rw
open Go.RowKit Go.Proofs.YtkaajgcjdgjcbaaGreatDoor.Dig Go.Proofs.YtkaajgcjdgjcbaaGreatDoor.W Go.Proofs.YtkaajgcjdgjcbaaGreatDoor.Nat Go.Proofs.YtkaajgcjdgjcbaaGreatDoor.Wh Go.Proofs.YtkaajgcjdgjcbaaGreatDoor.Td
open Go.Proofs.YtkaajgcjdgjcbaaGreatDoor.Rf (V V_two V_pos)

/-- bytes as numbers -/
def bN (l : List UInt8) : List Nat := l.map UInt8.toNat
theorem bN_len (l : List UInt8) : (bN l).length = l.length := by simp [bN]
theorem bN_app (a b : List UInt8) : bN (a ++ b) = bN a ++ bN b := by simp [bN]
theorem bN_rd {l : List UInt8} {j : Nat} (h : j < l.length) : rd (bN l) j = l[j].toNat := by
  unfold rd bN
  rw [List.getD_eq_getElem?_getD, List.getElem?_map, List.getElem?_eq_getElem h]
  rfl
theorem info8 : (Tryz.prog.info? 5).map (fun i => (i.zero, i.size, i.bytes)) = some (some (.int .u8 0), 1, 1) := by kernel_rfl
theorem own_empty8 (w : World) : Ow (w.alloc (.cells #[] 5)) w.heap.size 5 .u8 (.slice (some ⟨w.heap.size, 0, none⟩) 0 0) [] :=
  ⟨rfl, .inr ⟨w.heap.size, 0, #[], rfl, Nat.le_refl _, heap_alloc_new w _, Nat.le_refl _, by unfold maxLen; omega, rfl, rfl⟩⟩
theorem lit8 (w : World) (x : Nat) {z : Int} (hz : z = x) : SI (w.alloc (.cells #[.int .u8 z] 5)) .u8 (some ⟨w.heap.size, 0, none⟩) 1 1 [x] := by
  subst hz
  exact ⟨rfl, Nat.le_refl _, by omega, fun _ => ⟨w.heap.size, 0, rfl, fun j u hu => by
    rw [World.cell?, show (w.alloc (.cells #[.int .u8 (x : Nat)] 5)).heap[w.heap.size]? = _ from heap_alloc_new w _]
    simpa [nums] using hu⟩⟩
theorem dd_cons (k m : Nat) : dd (k + 1) m = db (m / 10 ^ k % 10) :: dd k m := by
  rw [Nat.add_comm, dd_add]
  rfl
/-- the digits of M without noughts ahead -/
def strip (M : Nat) : List UInt8 := if M = 0 then [] else Lib.decDigits M
theorem strip_row {K M : Nat} (h : M < 10 ^ K) (h0 : M = 0 ∨ 0 < K) : (strip M).length ≤ K ∧ (dd K M).reverse = (strip M).reverse ++ List.replicate (K - (strip M).length) 48 := by
  unfold strip
  by_cases hM : M = 0
  · subst hM
    rw [if_pos rfl, dd_zero]
    simp
  · rw [if_neg hM]
    have h1 := pad_dd K M h (h0.resolve_left hM)
    refine ⟨h1.1, ?_⟩
    rw [← h1.2, List.reverse_append, List.reverse_replicate]
theorem strip_top {M : Nat} (h : 0 < (strip M).length) : ∃ c, (strip M).head? = some c ∧ (c == 48) = false := by
  unfold strip at h ⊢
  by_cases hM : M = 0
  · rw [if_pos hM] at h; simp at h
  · rw [if_neg hM]
    obtain ⟨c, r, e, hc⟩ := dec_head M hM
    exact ⟨c, by rw [e]; rfl, hc⟩
/-- what low reads at a place -/
theorem low_hi {M K j : Nat} {B : List UInt8} (hB : B = (strip M).reverse ++ List.replicate (K - (strip M).length) 48) (h1 : (strip M).length ≤ j) (h2 : j < K) : rd (bN B) j = 48 := by
  subst hB
  rw [bN_app, rd_append_right (by rw [bN_len, List.length_reverse]; exact h1), bN_len, List.length_reverse, bN_rd (by rw [List.length_replicate]; omega), List.getElem_replicate]
  rfl
theorem low_top {M K : Nat} {B : List UInt8} (hB : B = (strip M).reverse ++ List.replicate (K - (strip M).length) 48) {N : Nat} (hN : (strip M).length = N + 1) : rd (bN B) N ≠ 48 := by
  subst hB
  obtain ⟨c, hc, hne⟩ := strip_top (M := M) (by omega)
  rw [bN_app, rd_append_left (by rw [bN_len, List.length_reverse]; omega), bN_rd (by rw [List.length_reverse]; omega), List.getElem_reverse]
  have h0 : (strip M)[(strip M).length - 1 - N]'(by omega) = c := by
    have e : (strip M).length - 1 - N = 0 := by omega
    rw [List.head?_eq_getElem?, List.getElem?_eq_getElem (by omega)] at hc
    injection hc with hc
    simp only [e]
    exact hc
  rw [h0]
  intro e
  rw [beq_eq_false_iff_ne] at hne
  apply hne
  rw [← UInt8.ofNat_toNat (x := c), e]
  rfl
theorem low_at {M K : Nat} {B : List UInt8} (hB : B = (strip M).reverse ++ List.replicate (K - (strip M).length) 48) {j : Nat} (hj : j < (strip M).length) :
    rd (bN B) j = rd (bN (strip M)) ((strip M).length - (j + 1)) := by
  subst hB
  rw [bN_app, rd_append_left (by rw [bN_len, List.length_reverse]; omega), bN_rd (by rw [List.length_reverse]; omega), bN_rd (by omega), List.getElem_reverse]
  congr 2
  omega
theorem take_next {E : List Nat} {N j : Nat} (hN : E.length = N) (hj : j < N) : E.take (N - (j + 1)) ++ [rd E (N - (j + 1))] = E.take (N - j) := by
  rw [show N - j = N - (j + 1) + 1 by omega, take_succ_rd (by omega)]
theorem byte_row {w : World} {A : Option Addr} {n c : Nat} {E : List UInt8} (h : SI w .u8 A n c (bN E)) (hn : 0 < n) :
    (convert 91 9 (.slice A n c)).run Tryz.prog w = .ok (.string ⟨E.toArray⟩) w := by
  obtain ⟨b, o, rfl, hc⟩ := h.all_ hn
  have hl := h.len
  rw [bN_len] at hl
  subst hl
  refine run_convert_bytes_back (P := Tryz.prog) w 91 9 5 ⟨b, o, none⟩ c E Tryz.underlying91 Tryz.underlying5 Tryz.underlying9 (fun j hj => ?_)
  rw [add_at, hc j hj, bN_rd hj]
/-- where Text's first loop stands -/
structure RT (M t m : Nat) (B : List UInt8) : Prop where
  q : m = M / 10 ^ (4 * t)
  row : B = (dd (4 * t) M).reverse
theorem RT.start (M : Nat) : RT M 0 M [] := ⟨by simp, rfl⟩
theorem RT.round {M t m : Nat} {B : List UInt8} (h : RT M t m B) : RT M (t + 1) (m / 10000) (B ++ (dd 4 (m % 10000)).reverse) := by
  refine ⟨?_, ?_⟩
  · rw [h.q, Nat.div_div_eq_div_mul, show 10000 = 10 ^ 4 from rfl, ← Nat.pow_add]
    congr 2
  · rw [h.row, ← List.reverse_append, show 4 * (t + 1) = 4 + 4 * t by omega, dd_add, ← h.q, show 10000 = 10 ^ 4 from rfl, dd_mod]
theorem RT.len {M t m : Nat} {B : List UInt8} (h : RT M t m B) : B.length = 4 * t := by rw [h.row, List.length_reverse, dd_len]
theorem RT.less {M t m n : Nat} {B : List UInt8} (h : RT M t m B) (hM : M < V ^ n) (h0 : m ≠ 0) : t ≤ 2 * n := by
  rcases Nat.lt_or_ge (2 * n) t with z | z
  · exfalso
    have h1 : 10 ^ (4 * t) ≤ M := by
      rcases Nat.lt_or_ge M (10 ^ (4 * t)) with y | y
      · exact absurd (h.q.trans (Nat.div_eq_of_lt y)) h0
      · exact y
    have h2 : (10 ^ 8) ^ n ≤ 10 ^ (4 * t) := by rw [← Nat.pow_mul]; exact Nat.pow_le_pow_right (by omega) (by omega)
    have h3 : V ^ n ≤ (10 ^ 8) ^ n := Nat.pow_le_pow_left (by decide) n
    omega
  · exact z
/-- rows of unlike types lie apart -/
theorem ow_apart {w : World} {b1 b2 : Nat} {e1 e2 : TypeId} {k1 k2 : IntKind} {v1 v2 : Value} {l1 l2 : List Nat} (h1 : Ow w b1 e1 k1 v1 l1) (h2 : Ow w b2 e2 k2 v2 l2) (hne : e1 ≠ e2) : v1.ownBlock = none ∨ v1.ownBlock ≠ v2.ownBlock := by
  rcases h1.2 with ⟨rfl, _⟩ | ⟨g, cap, cur, rfl, _, hg, _⟩
  · exact .inl rfl
  · refine .inr ?_
    rcases h2.2 with ⟨rfl, _⟩ | ⟨g2, cap2, cur2, rfl, _, hg2, _⟩
    · simp [Value.ownBlock]
    · intro he
      simp only [Value.ownBlock, Option.some.injEq] at he
      subst he
      rw [hg] at hg2
      injection hg2 with hg2
      injection hg2 with _ hg2 _
      exact hne hg2
theorem ow_grown {w w' : World} {b1 b2 : Nat} {e1 e2 : TypeId} {k1 k2 : IntKind} {v1 v2 : Value} {l1 l2 : List Nat} (h1 : Ow w b1 e1 k1 v1 l1) (h2 : Ow w b2 e2 k2 v2 l2) (hne : e1 ≠ e2) (hg : w.grownBy w' v2.ownBlock) : Ow w' b1 e1 k1 v1 l1 :=
  World.ownsRow.kept h1 hg (ow_apart h1 h2 hne)
theorem by_d (A : Option Addr) (n c m : Nat) (w : World) (h : SI w .u32 A n c (digs V m)) (hn : n ≤ 4398046511104) :
    Calls Tryz.prog 67 #[.slice A n c, .int .u32 10000] w fun e w' => ∃ A1 n1 c1, e = .returned (.tuple #[.slice A1 n1 c1, .int .u32 (m % 10000 : Nat)]) ∧ Ow w' w.heap.size 79 .u32 (.slice A1 n1 c1) (digs V (m / 10000)) ∧ Below w.heap.size w w' := by
  have e := by_calls A n c (digs V m) w h (dv m) hn
  rw [val_digs V_two] at e
  exact e
end Go.Proofs.YtkaajgcjdgjcbaaGreatDoor.Rw

/- The document's answer of layer 2, on: Text whole. -/
namespace Go.Proofs.YtkaajgcjdgjcbaaGreatDoor.Rw
open Go.RowKit Go.Proofs.YtkaajgcjdgjcbaaGreatDoor.Dig Go.Proofs.YtkaajgcjdgjcbaaGreatDoor.W Go.Proofs.YtkaajgcjdgjcbaaGreatDoor.Nat Go.Proofs.YtkaajgcjdgjcbaaGreatDoor.Wh Go.Proofs.YtkaajgcjdgjcbaaGreatDoor.Td
open Go.Proofs.YtkaajgcjdgjcbaaGreatDoor.Rf (V V_two V_pos)

set_option maxHeartbeats 8000000 in
set_option maxRecDepth 100000 in
theorem rtext_calls (A : Option Addr) (n c M : Nat) (w : World) (h : SI w .u32 A n c (digs V M)) (hn : n ≤ 1000000000000) :
    Calls Tryz.prog 35 #[.slice A n c] w fun e w' => e = .returned (.string ⟨(Lib.decDigits M).toArray⟩) ∧ Below w.heap.size w w' := by
  have hM : M < V ^ n := by rw [← h.len]; exact lt_pow_length V_two M
  go_enter Tryz.func35, Tryz.ntmps35
  go_wp2
  go_loopw [0, 3] (fun z p wr => ∃ (t m : Nat) (B : List UInt8) (Aa : Option Addr) (na ca : Nat) (Ap : Option Addr) (np cp : Nat), z = .slice Aa na ca ∧ p = .slice Ap np cp ∧ Hid (np = 4 * t) ∧ na ≤ n ∧ Hid (RT M t m B) ∧ t ≤ 2 * n + 1 ∧ SI wr .u32 Aa na ca (digs V m) ∧ Ow wr w.heap.size 5 .u8 (.slice Ap np cp) (bN B) ∧ Below w.heap.size w wr) (fun _ p _ => match p with | .slice _ k _ => 8 * n + 4 - k | _ => 0)
  case atStart => exact ⟨0, M, [], _, _, _, _, 0, _, rfl, rfl, rfl, Nat.le_refl _, RT.start M, by omega, h.alloc _, own_empty8 w, alloc_below w _⟩
  case round =>
    obtain ⟨t, m, B, Aa, na, ca, Ap, np, cp, rfl, rfl, hnp, hna, HI, ht, hr, how, hb⟩ := hrel
    by_cases h0 : m = 0
    · subst h0
      have hna0 : na = 0 := by have := hr.len; rw [digs_zero] at this; exact this.symm
      subst hna0
      have hlt : M < 10 ^ (4 * t) := by
        rcases Nat.lt_or_ge M (10 ^ (4 * t)) with y | y
        · exact y
        · have h1 := Nat.div_pos y (Nat.pow_pos (n := 4 * t) (by omega : 0 < 10))
          have h2 := HI.out.q
          omega
      have hsr := strip_row hlt (by
        rcases Nat.eq_zero_or_pos M with z | z
        · exact .inl z
        · refine .inr ?_
          rcases Nat.eq_zero_or_pos (4 * t) with y | y
          · rw [y] at hlt; simp at hlt; omega
          · exact y)
      have hB := HI.out.row
      rw [hsr.2] at hB
      have hNle := hsr.1
      have hnpt := hnp.out
      have hsi : SI wr .u8 Ap np cp (bN B) := by
        obtain ⟨A', n', c', e, hsi⟩ := how.reads_n
        injection e with e1 e2 e3
        subst e1; subst e2; subst e3
        exact hsi
      obtain ⟨N, hN⟩ : ∃ N, (strip M).length = N := ⟨_, rfl⟩
      rw [hN] at hNle
      have hcap := how.cap_
      have HB := Lib.hid hB
      have HN := Lib.hid hN
      have HSI := Lib.hid hsi
      have HW := Lib.hid hb
      have hNnp : N ≤ np := by omega
      clear hsr hB hsi hN how hr hb h hM HI hlt hNle hnpt
      go_wp2
      go_loop [7] (fun z => ∃ j : Nat, z = .int .i64 (j : Nat) ∧ N ≤ j ∧ j ≤ np) (fun z => (intOf z).toNat)
      case atStart => exact ⟨np, rfl, hNnp, Nat.le_refl _⟩
      case round =>
        obtain ⟨j, rfl, hj1, hj2⟩ := hrel
        rcases Nat.lt_or_ge N j with hjN | hjN
        · obtain ⟨p, rfl⟩ : ∃ p, j = p + 1 := ⟨j - 1, by omega⟩
          obtain ⟨b, o, rfl, hc0⟩ := HSI.out.at_ (j := p) (by omega)
          rw [low_hi HB.out (by rw [HN.out]; omega) (by have := hnp.out; omega)] at hc0
          go_wp2
          go_round
          case rel => exact ⟨p, by go_num, by omega, by omega⟩
          case measure => simp [intOf]
        · obtain rfl : j = N := by omega
          rcases Nat.eq_zero_or_pos j with hz | hz
          · subst hz
            have hM0 : M = 0 := by
              have := HN.out
              unfold strip at this
              by_cases hM : M = 0
              · exact hM
              · rw [if_neg hM] at this
                have := dec_len_pos M
                omega
            have HM0 := Lib.hid hM0
            clear hM0
            go_wp2
            go_ret
            exact ⟨by rw [HM0.out, dec_small (by omega)]; rfl, HW.out⟩
          · obtain ⟨p, rfl⟩ : ∃ p, j = p + 1 := ⟨j - 1, by omega⟩
            obtain ⟨b, o, rfl, hc0⟩ := HSI.out.at_ (j := p) (by omega)
            have hne := low_top HB.out HN.out
            have hne2 : (((rd (bN B) p : Nat) : Int) == 48) = false := by simp; omega
            clear hne hc0
            have hc1 := (HSI.out.at_ (j := p) (by omega))
            obtain ⟨b', o', e', hc0⟩ := hc1
            injection e' with e'
            injection e' with e1 e2
            subst e1; subst e2
            have hMs : strip M = Lib.decDigits M := by
              have := HN.out
              unfold strip at this ⊢
              by_cases hM : M = 0
              · rw [if_pos hM] at this; simp at this
              · rw [if_neg hM]
            have HMS := Lib.hid hMs
            clear hMs
            go_wp2
            generalize wr = wB at *
            go_loopw [8, 9] (fun q z wr => ∃ (i : Nat) (y : Int) (Ao : Option Addr) (no co : Nat), q = .slice Ao no co ∧ z = .int .i64 y ∧ i ≤ p + 1 ∧ Hid (y + 1 = i) ∧ Ow wr wB.heap.size 5 .u8 (.slice Ao no co) ((bN (strip M)).take (p + 1 - i)) ∧ Below wB.heap.size wB wr) (fun _ z _ => (intOf z + 1).toNat)
            case atStart => exact ⟨p + 1, (p : Int), _, _, _, rfl, rfl, Nat.le_refl _, by unfold Hid; omega, by rw [Nat.sub_self, List.take_zero]; exact own_empty8 wB, alloc_below wB _⟩
            case round =>
              obtain ⟨i, y, Ao, no, co, rfl, rfl, hi, HY, hou, hbb⟩ := hrel
              cases i with
              | zero =>
                obtain rfl : y = -1 := by have := HY.out; omega
                rw [Nat.sub_zero, List.take_of_length_le (by rw [bN_len, HN.out]; omega)] at hou
                have hlen := hou.len_
                rw [bN_len, HN.out] at hlen
                obtain ⟨A', n', c', e, hsi⟩ := hou.reads_n
                injection e with e1 e2 e3
                subst e1; subst e2; subst e3
                have hcv := byte_row hsi (by omega)
                clear hou hsi hlen
                go_wp2
                go_ret
                exact ⟨by rw [← HMS.out]; rfl, HW.out.trans (hbb.mono HW.out.size)⟩
              | succ j =>
                obtain rfl : y = (j : Int) := by have := HY.out; omega
                obtain ⟨b2, o2, e2, hc2⟩ := HSI.out.at_ (j := j) (by omega)
                injection e2 with e2
                injection e2 with e3 e4
                subst e3; subst e4
                rw [low_at HB.out (by rw [HN.out]; omega), HN.out] at hc2
                have hc3 := cell_keep hbb hc2
                have hnext := take_next (E := bN (strip M)) (N := p + 1) (j := j) (by rw [bN_len, HN.out]) (by omega)
                have hlen := hou.len_
                rw [List.length_take, bN_len, HN.out] at hlen
                have HNX := Lib.hid hnext
                have HL := Lib.hid hlen
                have HBB := Lib.hid hbb
                clear hnext hlen hc2 hc0
                obtain ⟨X, hX⟩ : ∃ X, rd (bN (strip M)) (p + 1 - (j + 1)) = X := ⟨_, rfl⟩
                rw [hX] at hc3 HNX
                clear hX
                go_wp2_with (at_builtin; refine wpList_append_nums _ rfl (.tmp 56) (.tmp 61) 91 rfl wB.heap.size 5 .u8 1 Tryz.underlying91 info8 (.slice Ao no co) _ rfl (hou.below (alloc_below _ _)) _ 1 _ [X] rfl (lit8 wr X rfl) (by rw [List.length_take, bN_len, HN.out]; have := hnp.out; omega) (by omega) (by have := HBB.out.size; simp; omega) ?_; intro v3 w3 how3 hg3; rw [HNX.out] at how3; obtain ⟨A3, n3, c3, rfl, hs3⟩ := how3.reads_n)
                have hb3 := (HBB.out.trans ((alloc_below wr (.cells #[.int .u8 (X : Int)] 5)).mono HBB.out.size)).grown hg3 (by have := HBB.out.size; have := (alloc_below wr (.cells #[.int .u8 (X : Int)] 5)).size; omega) (fun g hg => hou.base_ g hg)
                go_roundw
                case rel => exact ⟨j, (j : Int) - 1, A3, n3, c3, rfl, rfl, by omega, by unfold Hid; omega, how3, hb3⟩
                case measure => simp [intOf]
    · have hpos : 0 < na := by rw [← hr.len]; exact digs_length_pos V_two h0
      have hlt := HI.out.less hM h0
      have HD := Lib.hid (by_d Aa na ca m wr hr (by omega))
      have HN : Hid (RT M (t + 1) (m / 10000) (B ++ (dd 4 (m % 10000)).reverse)) := HI.out.round
      have hq : (digs V (m / 10000)).length ≤ na := by rw [← hr.len]; exact digs_length_mono V_two (Nat.div_le_self _ _)
      have HQ := Lib.hid hq
      have HO := Lib.hid how
      have HB := Lib.hid hb
      have hk4 : m % 10000 < 10000 := Nat.mod_lt _ (by omega)
      generalize m % 10000 = k at *
      generalize m / 10000 = q at *
      clear hq hr how hb h hM HI
      go_wp2_with (first
        | (go_at_call 67; (with_reducible refine HD.out.mono ?_); rintro e w1 ⟨A1, n1, c1, rfl, r1, b1⟩))
      have how1 := HO.out.below b1
      have o1 := r1.lower HB.out.size
      have hb1 := HB.out.trans (b1.mono HB.out.size)
      generalize hw1 : w1 = W1 at *
      go_loopw [3, 5, 6] (fun p rv kv wr => ∃ (j e : Nat) (Aq : Option Addr) (nq cq : Nat), p = .slice Aq nq cq ∧ rv = .int .u32 (e : Nat) ∧ kv = .int .i64 (j : Nat) ∧ j ≤ 4 ∧ Hid (e = k / 10 ^ j) ∧ e < 10000 ∧ Hid (nq = 4 * t + j) ∧ Ow wr w.heap.size 5 .u8 (.slice Aq nq cq) (bN (B ++ (dd j k).reverse)) ∧ Ow wr w.heap.size 79 .u32 (.slice A1 n1 c1) (digs V q) ∧ Below w.heap.size w wr) (fun _ _ kv _ => 4 - (intOf kv).toNat)
      case atStart => exact ⟨0, k, Ap, np, cp, rfl, rfl, rfl, by omega, by unfold Hid; simp, hk4, hnp, by simpa [dd] using how1, o1, hb1⟩
      case round =>
        clear how1 hb1 o1
        obtain ⟨j, e, Aq, nq, cq, rfl, rfl, rfl, hj, HE, he, HNQ, how, hs, hb⟩ := hrel
        by_cases hj4 : j = 4
        · subst hj4
          obtain ⟨A1', n1', c1', e1, hs⟩ := hs.reads_n
          injection e1 with e1 e2 e3
          subst e1; subst e2; subst e3
          have hs1 : n1 ≤ n := by rw [← hs.len]; exact Nat.le_trans HQ.out hna
          have HO2 := Lib.hid how
          have HB2 := Lib.hid hb
          have HS2 := Lib.hid hs
          have hnq2 := HNQ.out
          have hnp2 := hnp.out
          clear how hb hs
          go_wp2
          go_roundw
          case rel => exact ⟨t + 1, q, B ++ (dd 4 k).reverse, A1, n1, c1, Aq, nq, cq, rfl, rfl, by unfold Hid; omega, hs1, HN, by omega, HS2.out, HO2.out, HB2.out⟩
          case measure => simp; omega
        · have hj3 : j < 4 := by omega
          obtain ⟨d, hd⟩ : ∃ d, d = e % 10 := ⟨_, rfl⟩
          obtain ⟨e2, he2⟩ : ∃ e2, e2 = e / 10 := ⟨_, rfl⟩
          have hd9 : d < 10 := by omega
          have hrem : ((e : Nat) : Int).tmod 10 = (d : Int) := by rw [Int.tmod_eq_emod_of_nonneg (by omega)]; omega
          have hquo : ((e : Nat) : Int).tdiv 10 = (e2 : Int) := by rw [Int.tdiv_eq_ediv_of_nonneg (by omega)]; omega
          have he3 : e2 < 10000 := by omega
          have hnew : bN (B ++ (dd j k).reverse) ++ [48 + d] = bN (B ++ (dd (j + 1) k).reverse) := by
            rw [dd_cons, List.reverse_cons, ← List.append_assoc, bN_app]
            rw [bN_app (B ++ (dd j k).reverse), bN_app]
            have h48 : bN [db (k / 10 ^ j % 10)] = [48 + d] := by
              show [(db (k / 10 ^ j % 10)).toNat] = _
              rw [db_nat (by omega), hd, HE.out]
            rw [h48]
          have hE2 : Hid (e2 = k / 10 ^ (j + 1)) := by
            show _ = _
            rw [he2, HE.out, Nat.div_div_eq_div_mul, Nat.pow_succ]
          have HNEW := Lib.hid hnew
          have hlq := how.len_
          have HLQ := Lib.hid hlq
          have HB2 := Lib.hid hb
          clear hnew hlq hd he2 hb
          have hsz := HB2.out.size
          go_wp2_with (at_builtin; refine wpList_append_nums _ rfl (.tmp 23) (.tmp 28) 91 rfl w.heap.size 5 .u8 1 Tryz.underlying91 info8 (.slice Aq nq cq) _ rfl (how.below (alloc_below _ _)) _ 1 _ [48 + d] rfl (lit8 wr (48 + d) (by omega)) (by rw [HLQ.out]; have := HNQ.out; omega) (by omega) (by simp; omega) ?_; intro v2 w2 how2 hg2; rw [HNEW.out] at how2; obtain ⟨A2, n2, c2, rfl, hs2⟩ := how2.reads_n; obtain rfl : n2 = nq + 1 := (by have h1 := how2.len_; rw [← HNEW.out, List.length_append, HLQ.out] at h1; exact h1.symm))
          have hnq2 := HNQ.out
          have hs3 := ow_grown (hs.below (alloc_below _ _)) (how.below (alloc_below _ _)) (by decide) hg2
          have hb3 := (HB2.out.trans ((alloc_below wr (.cells #[.int .u8 (48 + (d : Int))] 5)).mono HB2.out.size)).grown hg2 (by have := (alloc_below wr (.cells #[.int .u8 (48 + (d : Int))] 5)).size; omega) (fun g hg => how.base_ g hg)
          go_roundw
          case rel => exact ⟨j + 1, e2, A2, _, c2, rfl, rfl, rfl, by omega, hE2, he3, by unfold Hid; omega, how2, hs3, hb3⟩
          case measure => simp [intOf]; omega
end Go.Proofs.YtkaajgcjdgjcbaaGreatDoor.Rw

/- Layer 2's laws: WholeTexts. -/
namespace Go.Proofs.YtkaajgcjdgjcbaaGreatDoor.Aw
open Go.RowKit Go.Proofs.YtkaajgcjdgjcbaaGreatDoor.Dig Go.Proofs.YtkaajgcjdgjcbaaGreatDoor.W Go.Proofs.YtkaajgcjdgjcbaaGreatDoor.Nat Go.Proofs.YtkaajgcjdgjcbaaGreatDoor.Wh Go.Proofs.YtkaajgcjdgjcbaaGreatDoor.Td Go.Proofs.YtkaajgcjdgjcbaaGreatDoor.Bu Go.Proofs.YtkaajgcjdgjcbaaGreatDoor.Tx
open Go.Proofs.YtkaajgcjdgjcbaaGreatDoor.Rf (V V_two V_pos)

set_option maxHeartbeats 4000000 in
set_option maxRecDepth 100000 in
theorem wholeTexts_calls (A : Option Addr) (n c : Nat) (l : List Nat) (w : World) (h : SI w .u64 A n c l) (hl : Lt U l) (hn : n ≤ 1048576) (hp : Pow w) :
    Calls Tryz.prog 6 #[.slice A n c] w fun e w' => e = .returned (.bool true) ∧ Below w.heap.size w w' := by
  have HP := Lib.hid hp
  have HT := Lib.hid (fun (w1 : World) (b : Below w.heap.size w w1) => text_calls A n c l w1 (h.below b) hl (by omega) (hp.below b))
  have HI := Lib.hid (fun (w1 : World) (b : Below w.heap.size w w1) => Rf.in_calls A n c l w1 (h.below b) hl (by omega))
  have hl4 := Rw.len_in hl h.len
  have HL := Lib.hid hl4
  clear hp h hl hl4
  generalize val U l = M at *
  have HX := Lib.hid (fun (A1 : Option Addr) (n1 c1 : Nat) (w1 : World) (r1 : SI w1 .u32 A1 n1 c1 (digs V M)) => Rw.rtext_calls A1 n1 c1 M w1 r1 (by have := r1.len; have := HL.out; omega))
  generalize Lib.decDigits M = D at *
  go_enter Tryz.func6, Tryz.ntmps6
  go_wp2_with (first
    | (go_at_call 13; (with_reducible refine (awake_calls w HP.out).mono ?_); rintro e w1 ⟨rfl, b1⟩)
    | (go_at_call 34; (with_reducible refine (HT.out w1 b1).mono ?_); rintro e w2 ⟨rfl, b2⟩)
    | (go_at_call 36; (with_reducible refine (HI.out w2 (on b1 b2)).mono ?_); rintro e w3 ⟨A3, n3, c3, rfl, r3, _, b3⟩)
    | (go_at_call 35; (with_reducible refine (HX.out A3 n3 c3 w3 r3).mono ?_); rintro e w4 ⟨rfl, b4⟩))
  go_ret
  exact ⟨rfl, on (on (on b1 b2) b3) b4⟩
end Go.Proofs.YtkaajgcjdgjcbaaGreatDoor.Aw
