/- Texts of one layer, joined: Fl, Fm, Fn. -/
import Derived.Test.YtfddokfnplehkaaGreatDoorFB
set_option linter.unusedVariables false
set_option linter.unusedSimpArgs false
set_option linter.unusedSectionVars false
/- Layer 4, the document: To, whole. -/
set_option linter.unusedSimpArgs false
set_option linter.unusedVariables false
namespace Go.Proofs.YtfddokfnplehkaaGreatDoor.Nr
open Go.RowKit Go.Proofs.YtfddokfnplehkaaGreatDoor.Dig Go.Proofs.YtfddokfnplehkaaGreatDoor.W Go.Proofs.YtfddokfnplehkaaGreatDoor.Nat Go.Proofs.YtfddokfnplehkaaGreatDoor.Wh Go.Proofs.YtfddokfnplehkaaGreatDoor.Td Go.Proofs.YtfddokfnplehkaaGreatDoor.Bu Go.Proofs.YtfddokfnplehkaaGreatDoor.Tx Go.Proofs.YtfddokfnplehkaaGreatDoor.Sp
open Go.Proofs.YtfddokfnplehkaaGreatDoor.Rf (V V_two V_pos)
open Go.Proofs.YtfddokfnplehkaaGreatDoor.Rd (stand Formed fits mayB)
open Go.Proofs.YtfddokfnplehkaaGreatDoor.Dc (on bk_two four dec str)

set_option exponentiation.threshold 2000 in
set_option maxHeartbeats 16000000 in
set_option maxRecDepth 100000 in
theorem rto_main_w (g : Bool) (l : List UInt8) (x : Int) (b : Nat) (w : World) (hF : Formed l) (hf : fits l x) (hb : NearD 52 1074 (nv 0 l) x b) :
    Calls Tryz.prog 14 #[.agg #[.int .i64 52, .int .i64 11], .agg #[.int .i64 0, .bool g, .string ⟨l.toArray⟩, .int .i64 x]] w fun e w' => e = .returned (.int .u64 ((sg_w g ||| min b 9218868437227405312 : Nat) : Int)) ∧ Below w.heap.size w w' := by
  have hne : l ≠ [] := hF.ne
  have i1 : (⟨l.toArray⟩ : ByteArray).toList.isEmpty = false := by rw [(emp_iff l).1, decide_eq_false hne]
  have i2 : ((⟨l.toArray⟩ : ByteArray).toList == []) = false := by rw [(emp_iff l).2, decide_eq_false hne]
  have HOf := (fun w1 => rof_d hF.dig (by have := hf.1; omega) w1)
  have bL : Bt (nv 0 l) 8000 := by
    have := num_bt (k := 0) (j := 700) hF (by have := hf.1; omega)
    rw [Nat.pow_zero, Nat.mul_one] at this
    exact this.mono (by omega)
  obtain ⟨N, D, k, hk, bN, bD, hN0, hD0, hNe, hcase⟩ : ∃ N D k : Nat, k ≤ 3000 ∧ Bt N 8000 ∧ Bt D 11000 ∧ 0 < N ∧ 0 < D ∧ Near 52 (N * 2 ^ 1074) D b ∧ ((x = (k : Nat) ∧ N = nv 0 l * 10 ^ k ∧ D = 1) ∨ (x = -(k : Int) ∧ 0 < k ∧ N = nv 0 l ∧ D = 10 ^ k)) := by
    unfold NearD at hb
    by_cases hx : 0 ≤ x
    · refine ⟨nv 0 l * 10 ^ x.toNat, 1, x.toNat, ?_, ?_, (ten_bt (k := 0) (j := 0) (by omega)).mono (by omega), Nat.mul_pos hF.pos (p10 _), by omega, ?_, .inl ⟨by omega, rfl, rfl⟩⟩
      · have := hf.2.2; omega
      · exact (num_bt (j := 700) hF (by have := hf.2.2; omega)).mono (by omega)
      · rw [show (-x).toNat = 0 by omega, Nat.pow_zero] at hb; exact hb
    · refine ⟨nv 0 l, 10 ^ (-x).toNat, (-x).toNat, ?_, bL, (ten_bt (j := 1000) ?_).mono (by omega), hF.pos, p10 _, ?_, .inr ⟨by omega, by omega, rfl, rfl⟩⟩
      · have := hf.2.1; have := hf.1; omega
      · have := hf.2.1; have := hf.1; omega
      · rw [show x.toNat = 0 by omega, Nat.pow_zero, Nat.mul_one] at hb; exact hb
  have bP : Bt (10 ^ k) 11000 := (ten_bt (j := 1000) (by omega)).mono (by omega)
  have HPw := (fun (y : Int) (hy : y = (k : Nat)) w1 => Sh.rpow_f 10 10 k y w1 rfl (by omega) (by omega) hy (by omega))
  have HMu := (fun (A A' : Option Addr) (n c n' c' : Nat) (w1 : World) (h : SI w1 .u32 A n c (digs V (nv 0 l))) (h' : SI w1 .u32 A' n' c' (digs V (10 ^ k))) => Sh.rmul_e A A' n c n' c' (nv 0 l) (10 ^ k) w1 h h' (by have := bL.len16; omega) (by have := bP.len16; omega))
  have HN := (fun (A : Option Addr) (n c : Nat) (V1 : World) (z : SI V1 .u32 A n c (digs V N)) => rbits_calls A n c N 8000 V1 z bN (by omega))
  have HD := (fun (A : Option Addr) (n c : Nat) (V1 : World) (z : SI V1 .u32 A n c (digs V D)) => rbits_calls A n c D 11000 V1 z bD (by omega))
  have HRo := (fun (A A' : Option Addr) (n c n' c' : Nat) (V1 : World) (z : SI V1 .u32 A n c (digs V N)) (z' : SI V1 .u32 A' n' c' (digs V D)) (j : Nat) (y : Int) (hy : y = 1074 - (j : Int)) (hj : j ≤ 9000 + 1074) => (show Calls Tryz.prog 44 #[.slice A n c, .slice A' n' c', .int .i64 y] V1 (Gives V1 .u32 (digs V (rhe (N * 2 ^ 1074) (D * 2 ^ j)))) from by
    have e := rounded_calls A A' n c n' c' N D 11000 y V1 z z' (bN.mono (by omega)) bD (by omega) hD0 (by omega) (by omega)
    have e2 := rhe_at N D 1074 j (-y) (by omega)
    rw [Int.neg_neg] at e2
    rw [e2]
    exact e))
  have hbn := (bits_le N 8000).2 bN
  have hbd := (bits_le D 11000).2 bD
  obtain ⟨k0, hk0, hk1, hk2⟩ : ∃ k0 : Nat, (k0 : Int) - 1074 = (if (nbits N : Int) - nbits D - 52 - 2 < -1074 then (-1074 : Int) else (nbits N : Int) - nbits D - 52 - 2) ∧ k0 ≤ 8000 + 1074 ∧ (k0 = 0 ∨ 2 ^ (52 + 1) ≤ rhe (N * 2 ^ 1074) (D * 2 ^ (k0 - 1))) := by
    obtain ⟨k0, hk0⟩ : ∃ k0 : Nat, (k0 : Int) = max ((nbits N : Int) - nbits D - 52 - 2) (-1074) + 1074 := ⟨(max ((nbits N : Int) - nbits D - 52 - 2) (-1074) + 1074).toNat, by omega⟩
    refine ⟨k0, by split <;> omega, by omega, ?_⟩
    by_cases hz : k0 = 0
    · exact .inl hz
    · right
      have h1 : 2 ^ nbits N ≤ 2 * N := by
        have := pow_bits_le (Nat.ne_of_gt hN0)
        have hp := bits_pos (Nat.ne_of_gt hN0)
        have e : 2 ^ nbits N = 2 ^ (nbits N - 1) * 2 := by rw [← Nat.pow_succ]; congr 1; omega
        omega
      exact start_le (bn := nbits N) (bd := nbits D) (c := 2) hD0 h1 (lt_pow_bits D) (by omega) (by omega) (by omega)
  have hxb : ∀ k : Nat, Bt (rhe (N * 2 ^ 1074) (D * 2 ^ k)) 20000 := fun k => (rhe_bt (bN.shl 1074)).mono (by omega)
  have HST := (fun (k : Nat) (hk : 2 ^ (52 + 1) ≤ rhe (N * 2 ^ 1074) (D * 2 ^ k)) => stop_at (K := 8000) (by omega) hD0 bN hk)
  have HNO := (fun (k : Nat) (h1 : rhe (N * 2 ^ 1074) (D * 2 ^ k) < 2 ^ (52 + 1)) (h2 : k = 0 ∨ 2 ^ (52 + 1) ≤ rhe (N * 2 ^ 1074) (D * 2 ^ (k - 1))) => near_uniq hD0 hNe (near_of (by omega) hD0 h1 h2))
  have HNX := (fun (k : Nat) (h2 : k = 0 ∨ 2 ^ (52 + 1) ≤ rhe (N * 2 ^ 1074) (D * 2 ^ (k - 1))) => (show k = 0 ∨ 2 ^ 52 ≤ rhe (N * 2 ^ 1074) (D * 2 ^ k) from by
    rcases h2 with h2 | h2
    · exact .inl h2
    · by_cases hk0 : k = 0
      · exact .inl hk0
      · have := rhe_next hD0 h2
        rw [show k - 1 + 1 = k by omega] at this
        exact .inr this))
  have HXB := (fun (k : Nat) (V1 : World) (A : Option Addr) (n c : Nat) (z : SI V1 .u32 A n c (digs V (rhe (N * 2 ^ 1074) (D * 2 ^ k)))) => rbits_calls A n c _ 20000 V1 z (hxb k) (by omega))
  have HOu := (fun (k : Nat) (V1 : World) (A : Option Addr) (n c : Nat) (z : SI V1 .u32 A n c (digs V (rhe (N * 2 ^ 1074) (D * 2 ^ k)))) => Rw.out_d A n c _ V1 z (by rw [← z.len]; have := (hxb k).len16; omega))
  clear hb hF hf hne
  rcases hcase with ⟨rfl, hN, hD⟩ | ⟨rfl, hkp, hN, hD⟩
  · rw [← hN] at HMu
    subst hD
    by_cases hlt : (nbits N : Int) - nbits 1 - 52 - 2 < -1074
    · rw [if_pos hlt] at hk0
      cases g
      · exact rto_pf0_w ⟨l.toArray⟩ k (nv 0 l) (10 ^ k) N 1 _ _ k0 b (fun j => rhe (N * 2 ^ 1074) (1 * 2 ^ j)) w hk hbn hbd i1 i2 HOf HPw HMu HN HD HRo HST HNO HNX HXB HOu hlt hk1 hk0 hk2
      · exact rto_pt0_w ⟨l.toArray⟩ k (nv 0 l) (10 ^ k) N 1 _ _ k0 b (fun j => rhe (N * 2 ^ 1074) (1 * 2 ^ j)) w hk hbn hbd i1 i2 HOf HPw HMu HN HD HRo HST HNO HNX HXB HOu hlt hk1 hk0 hk2
    · rw [if_neg hlt] at hk0
      cases g
      · exact rto_pfk_w ⟨l.toArray⟩ k (nv 0 l) (10 ^ k) N 1 _ _ k0 b (fun j => rhe (N * 2 ^ 1074) (1 * 2 ^ j)) w hk hbn hbd i1 i2 HOf HPw HMu HN HD HRo HST HNO HNX HXB HOu hlt hk1 hk0 hk2
      · exact rto_ptk_w ⟨l.toArray⟩ k (nv 0 l) (10 ^ k) N 1 _ _ k0 b (fun j => rhe (N * 2 ^ 1074) (1 * 2 ^ j)) w hk hbn hbd i1 i2 HOf HPw HMu HN HD HRo HST HNO HNX HXB HOu hlt hk1 hk0 hk2
  · rw [← hN] at HOf
    rw [← hD] at HPw
    by_cases hlt : (nbits N : Int) - nbits D - 52 - 2 < -1074
    · rw [if_pos hlt] at hk0
      cases g
      · exact rto_nf0_w ⟨l.toArray⟩ k N D _ _ k0 b (fun j => rhe (N * 2 ^ 1074) (D * 2 ^ j)) w hk hbn hbd i1 i2 hkp HOf HPw HN HD HRo HST HNO HNX HXB HOu hlt hk1 hk0 hk2
      · exact rto_nt0_w ⟨l.toArray⟩ k N D _ _ k0 b (fun j => rhe (N * 2 ^ 1074) (D * 2 ^ j)) w hk hbn hbd i1 i2 hkp HOf HPw HN HD HRo HST HNO HNX HXB HOu hlt hk1 hk0 hk2
    · rw [if_neg hlt] at hk0
      cases g
      · exact rto_nfk_w ⟨l.toArray⟩ k N D _ _ k0 b (fun j => rhe (N * 2 ^ 1074) (D * 2 ^ j)) w hk hbn hbd i1 i2 hkp HOf HPw HN HD HRo HST HNO HNX HXB HOu hlt hk1 hk0 hk2
      · exact rto_ntk_w ⟨l.toArray⟩ k N D _ _ k0 b (fun j => rhe (N * 2 ^ 1074) (D * 2 ^ j)) w hk hbn hbd i1 i2 hkp HOf HPw HN HD HRo HST HNO HNX HXB HOu hlt hk1 hk0 hk2
/-- the document's To, of what may be -/
theorem rto_calls_w (c : Int) (g : Bool) (l : List UInt8) (x : Int) (w : World) (hm : mayB c g l x = true) :
    Calls Tryz.prog 14 #[.agg #[.int .i64 52, .int .i64 11], .agg (dec c g l x)] w fun e w' => e = .returned (.int .u64 ((tV_w c g l x : Nat) : Int)) ∧ Below w.heap.size w w' := by
  unfold tV_w
  rw [if_neg (by rw [hm]; decide)]
  have hmm := (Rd.mayB_iff ..).1 hm
  by_cases h2 : c = 2
  · have e := rto_odd_w c g ⟨l.toArray⟩ x w (.inl h2)
    rw [if_pos h2] at e ⊢
    exact e
  by_cases h1 : c = 1
  · have e := rto_odd_w c g ⟨l.toArray⟩ x w (.inr (.inl h1))
    rw [if_neg h2, if_pos h1] at e ⊢
    exact e
  have hc : c = 0 := by
    rcases hmm with ⟨_, _, h⟩ | ⟨h, _, _⟩
    · omega
    · exact h
  rw [if_neg h2, if_neg h1]
  by_cases h0 : l = []
  · have e := rto_odd_w c g ⟨l.toArray⟩ x w (.inr (.inr ⟨hc, by rw [(emp_iff l).1, decide_eq_true h0], by rw [(emp_iff l).2, decide_eq_true h0]⟩))
    rw [if_neg h2, if_neg h1] at e
    rw [if_pos h0]
    exact e
  · rw [if_neg h0]
    obtain ⟨_, hF, hf⟩ : c = 0 ∧ Formed l ∧ fits l x := by
      rcases hmm with ⟨h, _⟩ | h
      · exact absurd h h0
      · exact h
    subst hc
    exact rto_main_w g l x _ w hF hf (nb_spec (by omega) 1074 (nv 0 l) x)
set_option exponentiation.threshold 2000 in
set_option maxHeartbeats 16000000 in
set_option maxRecDepth 100000 in
theorem rto_main_n (g : Bool) (l : List UInt8) (x : Int) (b : Nat) (w : World) (hF : Formed l) (hf : fits l x) (hb : NearD 23 149 (nv 0 l) x b) :
    Calls Tryz.prog 14 #[.agg #[.int .i64 23, .int .i64 8], .agg #[.int .i64 0, .bool g, .string ⟨l.toArray⟩, .int .i64 x]] w fun e w' => e = .returned (.int .u64 ((sg_n g ||| min b 2139095040 : Nat) : Int)) ∧ Below w.heap.size w w' := by
  have hne : l ≠ [] := hF.ne
  have i1 : (⟨l.toArray⟩ : ByteArray).toList.isEmpty = false := by rw [(emp_iff l).1, decide_eq_false hne]
  have i2 : ((⟨l.toArray⟩ : ByteArray).toList == []) = false := by rw [(emp_iff l).2, decide_eq_false hne]
  have HOf := (fun w1 => rof_d hF.dig (by have := hf.1; omega) w1)
  have bL : Bt (nv 0 l) 8000 := by
    have := num_bt (k := 0) (j := 700) hF (by have := hf.1; omega)
    rw [Nat.pow_zero, Nat.mul_one] at this
    exact this.mono (by omega)
  obtain ⟨N, D, k, hk, bN, bD, hN0, hD0, hNe, hcase⟩ : ∃ N D k : Nat, k ≤ 3000 ∧ Bt N 8000 ∧ Bt D 11000 ∧ 0 < N ∧ 0 < D ∧ Near 23 (N * 2 ^ 149) D b ∧ ((x = (k : Nat) ∧ N = nv 0 l * 10 ^ k ∧ D = 1) ∨ (x = -(k : Int) ∧ 0 < k ∧ N = nv 0 l ∧ D = 10 ^ k)) := by
    unfold NearD at hb
    by_cases hx : 0 ≤ x
    · refine ⟨nv 0 l * 10 ^ x.toNat, 1, x.toNat, ?_, ?_, (ten_bt (k := 0) (j := 0) (by omega)).mono (by omega), Nat.mul_pos hF.pos (p10 _), by omega, ?_, .inl ⟨by omega, rfl, rfl⟩⟩
      · have := hf.2.2; omega
      · exact (num_bt (j := 700) hF (by have := hf.2.2; omega)).mono (by omega)
      · rw [show (-x).toNat = 0 by omega, Nat.pow_zero] at hb; exact hb
    · refine ⟨nv 0 l, 10 ^ (-x).toNat, (-x).toNat, ?_, bL, (ten_bt (j := 1000) ?_).mono (by omega), hF.pos, p10 _, ?_, .inr ⟨by omega, by omega, rfl, rfl⟩⟩
      · have := hf.2.1; have := hf.1; omega
      · have := hf.2.1; have := hf.1; omega
      · rw [show x.toNat = 0 by omega, Nat.pow_zero, Nat.mul_one] at hb; exact hb
  have bP : Bt (10 ^ k) 11000 := (ten_bt (j := 1000) (by omega)).mono (by omega)
  have HPw := (fun (y : Int) (hy : y = (k : Nat)) w1 => Sh.rpow_f 10 10 k y w1 rfl (by omega) (by omega) hy (by omega))
  have HMu := (fun (A A' : Option Addr) (n c n' c' : Nat) (w1 : World) (h : SI w1 .u32 A n c (digs V (nv 0 l))) (h' : SI w1 .u32 A' n' c' (digs V (10 ^ k))) => Sh.rmul_e A A' n c n' c' (nv 0 l) (10 ^ k) w1 h h' (by have := bL.len16; omega) (by have := bP.len16; omega))
  have HN := (fun (A : Option Addr) (n c : Nat) (V1 : World) (z : SI V1 .u32 A n c (digs V N)) => rbits_calls A n c N 8000 V1 z bN (by omega))
  have HD := (fun (A : Option Addr) (n c : Nat) (V1 : World) (z : SI V1 .u32 A n c (digs V D)) => rbits_calls A n c D 11000 V1 z bD (by omega))
  have HRo := (fun (A A' : Option Addr) (n c n' c' : Nat) (V1 : World) (z : SI V1 .u32 A n c (digs V N)) (z' : SI V1 .u32 A' n' c' (digs V D)) (j : Nat) (y : Int) (hy : y = 149 - (j : Int)) (hj : j ≤ 9000 + 149) => (show Calls Tryz.prog 44 #[.slice A n c, .slice A' n' c', .int .i64 y] V1 (Gives V1 .u32 (digs V (rhe (N * 2 ^ 149) (D * 2 ^ j)))) from by
    have e := rounded_calls A A' n c n' c' N D 11000 y V1 z z' (bN.mono (by omega)) bD (by omega) hD0 (by omega) (by omega)
    have e2 := rhe_at N D 149 j (-y) (by omega)
    rw [Int.neg_neg] at e2
    rw [e2]
    exact e))
  have hbn := (bits_le N 8000).2 bN
  have hbd := (bits_le D 11000).2 bD
  obtain ⟨k0, hk0, hk1, hk2⟩ : ∃ k0 : Nat, (k0 : Int) - 149 = (if (nbits N : Int) - nbits D - 23 - 2 < -149 then (-149 : Int) else (nbits N : Int) - nbits D - 23 - 2) ∧ k0 ≤ 8000 + 149 ∧ (k0 = 0 ∨ 2 ^ (23 + 1) ≤ rhe (N * 2 ^ 149) (D * 2 ^ (k0 - 1))) := by
    obtain ⟨k0, hk0⟩ : ∃ k0 : Nat, (k0 : Int) = max ((nbits N : Int) - nbits D - 23 - 2) (-149) + 149 := ⟨(max ((nbits N : Int) - nbits D - 23 - 2) (-149) + 149).toNat, by omega⟩
    refine ⟨k0, by split <;> omega, by omega, ?_⟩
    by_cases hz : k0 = 0
    · exact .inl hz
    · right
      have h1 : 2 ^ nbits N ≤ 2 * N := by
        have := pow_bits_le (Nat.ne_of_gt hN0)
        have hp := bits_pos (Nat.ne_of_gt hN0)
        have e : 2 ^ nbits N = 2 ^ (nbits N - 1) * 2 := by rw [← Nat.pow_succ]; congr 1; omega
        omega
      exact start_le (bn := nbits N) (bd := nbits D) (c := 2) hD0 h1 (lt_pow_bits D) (by omega) (by omega) (by omega)
  have hxb : ∀ k : Nat, Bt (rhe (N * 2 ^ 149) (D * 2 ^ k)) 20000 := fun k => (rhe_bt (bN.shl 149)).mono (by omega)
  have HST := (fun (k : Nat) (hk : 2 ^ (23 + 1) ≤ rhe (N * 2 ^ 149) (D * 2 ^ k)) => stop_at (K := 8000) (by omega) hD0 bN hk)
  have HNO := (fun (k : Nat) (h1 : rhe (N * 2 ^ 149) (D * 2 ^ k) < 2 ^ (23 + 1)) (h2 : k = 0 ∨ 2 ^ (23 + 1) ≤ rhe (N * 2 ^ 149) (D * 2 ^ (k - 1))) => near_uniq hD0 hNe (near_of (by omega) hD0 h1 h2))
  have HNX := (fun (k : Nat) (h2 : k = 0 ∨ 2 ^ (23 + 1) ≤ rhe (N * 2 ^ 149) (D * 2 ^ (k - 1))) => (show k = 0 ∨ 2 ^ 23 ≤ rhe (N * 2 ^ 149) (D * 2 ^ k) from by
    rcases h2 with h2 | h2
    · exact .inl h2
    · by_cases hk0 : k = 0
      · exact .inl hk0
      · have := rhe_next hD0 h2
        rw [show k - 1 + 1 = k by omega] at this
        exact .inr this))
  have HXB := (fun (k : Nat) (V1 : World) (A : Option Addr) (n c : Nat) (z : SI V1 .u32 A n c (digs V (rhe (N * 2 ^ 149) (D * 2 ^ k)))) => rbits_calls A n c _ 20000 V1 z (hxb k) (by omega))
  have HOu := (fun (k : Nat) (V1 : World) (A : Option Addr) (n c : Nat) (z : SI V1 .u32 A n c (digs V (rhe (N * 2 ^ 149) (D * 2 ^ k)))) => Rw.out_d A n c _ V1 z (by rw [← z.len]; have := (hxb k).len16; omega))
  clear hb hF hf hne
  rcases hcase with ⟨rfl, hN, hD⟩ | ⟨rfl, hkp, hN, hD⟩
  · rw [← hN] at HMu
    subst hD
    by_cases hlt : (nbits N : Int) - nbits 1 - 23 - 2 < -149
    · rw [if_pos hlt] at hk0
      cases g
      · exact rto_pf0_n ⟨l.toArray⟩ k (nv 0 l) (10 ^ k) N 1 _ _ k0 b (fun j => rhe (N * 2 ^ 149) (1 * 2 ^ j)) w hk hbn hbd i1 i2 HOf HPw HMu HN HD HRo HST HNO HNX HXB HOu hlt hk1 hk0 hk2
      · exact rto_pt0_n ⟨l.toArray⟩ k (nv 0 l) (10 ^ k) N 1 _ _ k0 b (fun j => rhe (N * 2 ^ 149) (1 * 2 ^ j)) w hk hbn hbd i1 i2 HOf HPw HMu HN HD HRo HST HNO HNX HXB HOu hlt hk1 hk0 hk2
    · rw [if_neg hlt] at hk0
      cases g
      · exact rto_pfk_n ⟨l.toArray⟩ k (nv 0 l) (10 ^ k) N 1 _ _ k0 b (fun j => rhe (N * 2 ^ 149) (1 * 2 ^ j)) w hk hbn hbd i1 i2 HOf HPw HMu HN HD HRo HST HNO HNX HXB HOu hlt hk1 hk0 hk2
      · exact rto_ptk_n ⟨l.toArray⟩ k (nv 0 l) (10 ^ k) N 1 _ _ k0 b (fun j => rhe (N * 2 ^ 149) (1 * 2 ^ j)) w hk hbn hbd i1 i2 HOf HPw HMu HN HD HRo HST HNO HNX HXB HOu hlt hk1 hk0 hk2
  · rw [← hN] at HOf
    rw [← hD] at HPw
    by_cases hlt : (nbits N : Int) - nbits D - 23 - 2 < -149
    · rw [if_pos hlt] at hk0
      cases g
      · exact rto_nf0_n ⟨l.toArray⟩ k N D _ _ k0 b (fun j => rhe (N * 2 ^ 149) (D * 2 ^ j)) w hk hbn hbd i1 i2 hkp HOf HPw HN HD HRo HST HNO HNX HXB HOu hlt hk1 hk0 hk2
      · exact rto_nt0_n ⟨l.toArray⟩ k N D _ _ k0 b (fun j => rhe (N * 2 ^ 149) (D * 2 ^ j)) w hk hbn hbd i1 i2 hkp HOf HPw HN HD HRo HST HNO HNX HXB HOu hlt hk1 hk0 hk2
    · rw [if_neg hlt] at hk0
      cases g
      · exact rto_nfk_n ⟨l.toArray⟩ k N D _ _ k0 b (fun j => rhe (N * 2 ^ 149) (D * 2 ^ j)) w hk hbn hbd i1 i2 hkp HOf HPw HN HD HRo HST HNO HNX HXB HOu hlt hk1 hk0 hk2
      · exact rto_ntk_n ⟨l.toArray⟩ k N D _ _ k0 b (fun j => rhe (N * 2 ^ 149) (D * 2 ^ j)) w hk hbn hbd i1 i2 hkp HOf HPw HN HD HRo HST HNO HNX HXB HOu hlt hk1 hk0 hk2
/-- the document's To, of what may be -/
theorem rto_calls_n (c : Int) (g : Bool) (l : List UInt8) (x : Int) (w : World) (hm : mayB c g l x = true) :
    Calls Tryz.prog 14 #[.agg #[.int .i64 23, .int .i64 8], .agg (dec c g l x)] w fun e w' => e = .returned (.int .u64 ((tV_n c g l x : Nat) : Int)) ∧ Below w.heap.size w w' := by
  unfold tV_n
  rw [if_neg (by rw [hm]; decide)]
  have hmm := (Rd.mayB_iff ..).1 hm
  by_cases h2 : c = 2
  · have e := rto_odd_n c g ⟨l.toArray⟩ x w (.inl h2)
    rw [if_pos h2] at e ⊢
    exact e
  by_cases h1 : c = 1
  · have e := rto_odd_n c g ⟨l.toArray⟩ x w (.inr (.inl h1))
    rw [if_neg h2, if_pos h1] at e ⊢
    exact e
  have hc : c = 0 := by
    rcases hmm with ⟨_, _, h⟩ | ⟨h, _, _⟩
    · omega
    · exact h
  rw [if_neg h2, if_neg h1]
  by_cases h0 : l = []
  · have e := rto_odd_n c g ⟨l.toArray⟩ x w (.inr (.inr ⟨hc, by rw [(emp_iff l).1, decide_eq_true h0], by rw [(emp_iff l).2, decide_eq_true h0]⟩))
    rw [if_neg h2, if_neg h1] at e
    rw [if_pos h0]
    exact e
  · rw [if_neg h0]
    obtain ⟨_, hF, hf⟩ : c = 0 ∧ Formed l ∧ fits l x := by
      rcases hmm with ⟨h, _⟩ | h
      · exact absurd h h0
      · exact h
    subst hc
    exact rto_main_n g l x _ w hF hf (nb_spec (by omega) 149 (nv 0 l) x)
end Go.Proofs.YtfddokfnplehkaaGreatDoor.Nr

/- Layer 4: floats told and read back, plain: what their Decs are, that they may be, and that they are read as they were. -/
set_option linter.unusedSimpArgs false
set_option linter.unusedVariables false
namespace Go.Proofs.YtfddokfnplehkaaGreatDoor.Nr
open Go.RowKit Go.Proofs.YtfddokfnplehkaaGreatDoor.Dig Go.Proofs.YtfddokfnplehkaaGreatDoor.W Go.Proofs.YtfddokfnplehkaaGreatDoor.Nat Go.Proofs.YtfddokfnplehkaaGreatDoor.Wh Go.Proofs.YtfddokfnplehkaaGreatDoor.Td Go.Proofs.YtfddokfnplehkaaGreatDoor.Bu Go.Proofs.YtfddokfnplehkaaGreatDoor.Tx Go.Proofs.YtfddokfnplehkaaGreatDoor.Sp
open Go.Proofs.YtfddokfnplehkaaGreatDoor.Rd (stand Formed fits mayB)
open Go.Proofs.YtfddokfnplehkaaGreatDoor.Dc (on dec str)

/-- a Dec's parts -/
abbrev Pt := Int × Bool × List UInt8 × Int
def pV (p : Pt) : Array Value := dec p.1 p.2.1 p.2.2.1 p.2.2.2
def pM (p : Pt) : Bool := mayB p.1 p.2.1 p.2.2.1 p.2.2.2
theorem xn_small {b : Nat} (h : b / 2 ^ 23 < 255) : xF 23 149 b ≤ 10 ^ 157 := by
  have hl := am_lt 23 b
  have hs : sf 149 (b / 2 ^ 23 - 1) ≤ 10 ^ 149 := by
    unfold sf
    split
    · exact Nat.le_trans (Nat.pow_le_pow_right (by omega) (show b / 2 ^ 23 - 1 - 149 ≤ 149 by omega)) (Nat.pow_le_pow_left (by omega) _)
    · exact Nat.le_trans (Nat.pow_le_pow_right (by omega) (show 149 - (b / 2 ^ 23 - 1) ≤ 149 by omega)) (Nat.pow_le_pow_left (by omega) _)
  unfold xF
  rw [show 157 = 8 + 149 from rfl, Nat.pow_add]
  exact Nat.mul_le_mul (Nat.le_trans (Nat.le_of_lt hl) (by decide)) hs
theorem un_le (Z v : Nat) : un Z v ≤ Z := by unfold un; split <;> omega
theorem pow_lt_ten {a k u T : Nat} (h : a ≤ 10 ^ k) (hu : k + u < T) : a * 10 ^ u < 10 ^ T := by
  refine Nat.lt_of_le_of_lt (Nat.mul_le_mul_right _ h) ?_
  rw [← Nat.pow_add]
  exact Nat.pow_lt_pow_right (by omega) hu
set_option exponentiation.threshold 2000 in
theorem xn_fits {b : Nat} (h0 : 0 < b) (h : b / 2 ^ 23 < 255) : fits (cd (xF 23 149 b)) (ce (xF 23 149 b) ((un 149 (b / 2 ^ 23 - 1) : Nat) - (149 : Nat))) := by
  have hs := xn_small h
  have hl := cd_len (a := xF 23 149 b) (k := 0) (D := 157) (by rw [Nat.pow_zero]; exact Nat.one_dvd _) (by omega) hs
  have hr := ce_range (n := un 149 (b / 2 ^ 23 - 1)) (Z := 149) (T := 307) (xF_pos h0) (pow_lt_ten hs (by have := un_le 149 (b / 2 ^ 23 - 1); omega))
  unfold fits
  omega
set_option exponentiation.threshold 2000 in
theorem fn_fits {b : Nat} (h0 : 0 < b) (h : b / 2 ^ 23 < 255) : fits (cd (fF 23 151 b)) (ce (fF 23 151 b) ((un 151 (b / 2 ^ 23 - 1) : Nat) - (151 : Nat))) := by
  have hl := fF_len (M := 23) (Z := 151) (s := 9) h0 (by omega) (by decide)
  have hm : mF 23 151 b ≤ 10 ^ 160 := by
    have h1 := am_lt 23 b
    have hs : sf 151 (b / 2 ^ 23 - 1) ≤ 10 ^ 151 := by
      unfold sf
      split
      · exact Nat.le_trans (Nat.pow_le_pow_right (by omega) (show b / 2 ^ 23 - 1 - 151 ≤ 151 by omega)) (Nat.pow_le_pow_left (by omega) _)
      · exact Nat.le_trans (Nat.pow_le_pow_right (by omega) (show 151 - (b / 2 ^ 23 - 1) ≤ 151 by omega)) (Nat.pow_le_pow_left (by omega) _)
    unfold mF
    rw [show 160 = 9 + 151 from rfl, Nat.pow_add]
    refine Nat.mul_le_mul (Nat.le_trans (Nat.mul_le_mul_left 4 (Nat.le_of_lt h1)) (by decide)) hs
  have hd : (Lib.decDigits (mF 23 151 b)).length ≤ 161 := dec_len_le (Nat.lt_of_le_of_lt hm (Nat.pow_lt_pow_right (by omega) (by omega))) (by omega)
  have hf : fF 23 151 b ≤ 10 ^ 161 := Nat.le_trans (fF_le h0) (Nat.pow_le_pow_right (by omega) hd)
  have hr := ce_range (n := un 151 (b / 2 ^ 23 - 1)) (Z := 151) (T := 313) (fF_pos h0) (pow_lt_ten hf (by have := un_le 151 (b / 2 ^ 23 - 1); omega))
  unfold fits
  omega
theorem xw_fits {b : Nat} (h0 : 0 < b) (h : b / 2 ^ 52 < 2047) : fits (cd (xF 52 1074 b)) (ce (xF 52 1074 b) ((un 1074 (b / 2 ^ 52 - 1) : Nat) - (1074 : Nat))) := by
  have hl := xF_len h
  have hr := xF_exp h0 h
  unfold fits
  omega
theorem fw_fits {b : Nat} (h0 : 0 < b) (h : b / 2 ^ 52 < 2047) : fits (cd (fF 52 1076 b)) (ce (fF 52 1076 b) ((un 1076 (b / 2 ^ 52 - 1) : Nat) - (1076 : Nat))) := by
  have hl := fF_len (M := 52) (Z := 1076) (s := 17) h0 (by omega) (by decide)
  have hr := fF_exp h0 h
  unfold fits
  omega
theorem may_zero (g : Bool) : mayB 0 g [] 0 = true := (Rd.mayB_iff ..).2 (.inl ⟨rfl, rfl, .inl rfl⟩)
theorem may_inf (g : Bool) : mayB 1 g [] 0 = true := (Rd.mayB_iff ..).2 (.inl ⟨rfl, rfl, .inr (.inl rfl)⟩)
theorem may_nan : mayB 2 false [] 0 = true := (Rd.mayB_iff ..).2 (.inl ⟨rfl, rfl, .inr (.inr ⟨rfl, rfl⟩)⟩)
theorem may_of {g : Bool} {a : Nat} {x : Int} (h : a ≠ 0) (hf : fits (cd a) x) : mayB 0 g (cd a) x = true := (Rd.mayB_iff ..).2 (.inr ⟨rfl, Rd.formed_cd h, hf⟩)
noncomputable def pT_w (p : Pt) : Nat := tV_w p.1 p.2.1 p.2.2.1 p.2.2.2
def oP_w (bits : Nat) : Pt :=
  if bits % 9223372036854775808 / 4503599627370496 = 2047 then (if bits % 9223372036854775808 % 4503599627370496 = 0 then (1, decide (bits / 9223372036854775808 = 1), [], 0) else (2, false, [], 0))
  else if bits % 9223372036854775808 = 0 then (0, decide (bits / 9223372036854775808 = 1), [], 0)
  else (0, decide (bits / 9223372036854775808 = 1), cd (fF 52 1076 (bits % 9223372036854775808)), ce (fF 52 1076 (bits % 9223372036854775808)) ((un 1076 (bits % 9223372036854775808 / 2 ^ 52 - 1) : Nat) - (1076 : Nat)))
def eP_w (bits : Nat) : Pt :=
  if bits % 9223372036854775808 / 4503599627370496 = 2047 then (if bits % 9223372036854775808 % 4503599627370496 = 0 then (1, decide (bits / 9223372036854775808 = 1), [], 0) else (2, false, [], 0))
  else (0, decide (bits / 9223372036854775808 = 1), cd (xF 52 1074 (bits % 9223372036854775808)), ce (xF 52 1074 (bits % 9223372036854775808)) ((un 1074 (bits % 9223372036854775808 / 2 ^ 52 - 1) : Nat) - (1074 : Nat)))
theorem oV_p_w (bits : Nat) : Sh.oV_w bits = pV (oP_w bits) := by
  unfold Sh.oV_w oP_w
  split
  · split <;> rfl
  · split <;> rfl
theorem eV_p_w (bits : Nat) : Sh.eV_w bits = pV (eP_w bits) := by
  unfold Sh.eV_w eP_w
  split
  · split <;> rfl
  · rfl
/-- a float's bits, NaNs all alike -/
def canon_w (bits : Nat) : Nat := if 9218868437227405312 < bits % 9223372036854775808 then 9221120237041090561 else bits
theorem sg_or_w {bits : Nat} (hb : bits < 18446744073709551616) : sg_w (decide (bits / 9223372036854775808 = 1)) ||| bits % 9223372036854775808 = bits := by
  by_cases h : bits / 9223372036854775808 = 1
  · rw [decide_eq_true h]
    show 9223372036854775808 ||| bits % 9223372036854775808 = bits
    have e := Nat.two_pow_add_eq_or_of_lt (i := 63) (b := bits % 9223372036854775808) (Nat.mod_lt _ (by decide)) 1
    simp only [Nat.reducePow, Nat.mul_one] at e
    rw [← e]
    omega
  · rw [decide_eq_false h]
    show 0 ||| bits % 9223372036854775808 = bits
    rw [Nat.zero_or]
    omega
theorem pT_inf_w (g : Bool) : pT_w (1, g, [], 0) = sg_w g ||| 9218868437227405312 := by
  show tV_w 1 g [] 0 = _
  unfold tV_w
  rw [if_neg (by rw [may_inf]; decide), if_neg (by decide), if_pos rfl]
theorem pT_nan_w : pT_w (2, false, [], 0) = 9221120237041090561 := by
  show tV_w 2 false [] 0 = _
  unfold tV_w
  rw [if_neg (by rw [may_nan]; decide), if_pos rfl]
theorem pT_zero_w (g : Bool) : pT_w (0, g, [], 0) = sg_w g := by
  show tV_w 0 g [] 0 = _
  unfold tV_w
  rw [if_neg (by rw [may_zero]; decide), if_neg (by decide), if_neg (by decide), if_pos rfl]
theorem pT_fin_w {g : Bool} {l : List UInt8} {x : Int} {b : Nat} (hm : mayB 0 g l x = true) (hl : l ≠ []) (h : NearD 52 1074 (nv 0 l) x b) : pT_w (0, g, l, x) = sg_w g ||| min b 9218868437227405312 := by
  show tV_w 0 g l x = _
  unfold tV_w
  rw [if_neg (by rw [hm]; decide), if_neg (by decide), if_neg (by decide), if_neg hl, nb_eq (by omega) h]
/-- told in the fewest digits, and read -/
theorem backO_w {bits : Nat} (hb : bits < 18446744073709551616) : pM (oP_w bits) = true ∧ pT_w (oP_w bits) = canon_w bits := by
  have hs := sg_or_w hb
  have hlt : bits % 9223372036854775808 < 9223372036854775808 := Nat.mod_lt _ (by decide)
  unfold oP_w canon_w pM
  generalize bits % 9223372036854775808 = b at *
  generalize decide (bits / 9223372036854775808 = 1) = g at *
  by_cases h1 : b / 4503599627370496 = 2047
  · rw [if_pos h1]
    by_cases h2 : b % 4503599627370496 = 0
    · rw [if_pos h2]
      refine ⟨may_inf g, ?_⟩
      rw [pT_inf_w, if_neg (by omega), ← hs]
      congr 1
      omega
    · rw [if_neg h2]
      refine ⟨may_nan, ?_⟩
      rw [pT_nan_w, if_pos (by omega)]
  · rw [if_neg h1]
    have h3 : b / 4503599627370496 < 2047 := by omega
    by_cases h0 : b = 0
    · rw [if_pos h0]
      refine ⟨may_zero g, ?_⟩
      rw [pT_zero_w, if_neg (by omega), ← hs, h0, Nat.or_zero]
    · rw [if_neg h0]
      have hf := fw_fits (Nat.pos_of_ne_zero h0) (by simp only [Nat.reducePow]; exact h3)
      have hm := may_of (g := g) (fF_pos (M := 52) (Z := 1076) (Nat.pos_of_ne_zero h0)) hf
      refine ⟨hm, ?_⟩
      rw [pT_fin_w hm (fun e => fF_pos (M := 52) (Z := 1076) (Nat.pos_of_ne_zero h0) (cd_nil.1 e)) (near_few (M := 52) (L := 1074) (by omega) (Nat.pos_of_ne_zero h0)), if_neg (by omega), show min b 9218868437227405312 = b by omega]
      exact hs
/-- told in all digits, and read -/
theorem backE_w {bits : Nat} (hb : bits < 18446744073709551616) : pM (eP_w bits) = true ∧ pT_w (eP_w bits) = canon_w bits := by
  have hs := sg_or_w hb
  have hlt : bits % 9223372036854775808 < 9223372036854775808 := Nat.mod_lt _ (by decide)
  unfold eP_w canon_w pM
  generalize bits % 9223372036854775808 = b at *
  generalize decide (bits / 9223372036854775808 = 1) = g at *
  by_cases h1 : b / 4503599627370496 = 2047
  · rw [if_pos h1]
    by_cases h2 : b % 4503599627370496 = 0
    · rw [if_pos h2]
      refine ⟨may_inf g, ?_⟩
      rw [pT_inf_w, if_neg (by omega), ← hs]
      congr 1
      omega
    · rw [if_neg h2]
      refine ⟨may_nan, ?_⟩
      rw [pT_nan_w, if_pos (by omega)]
  · rw [if_neg h1]
    have h3 : b / 4503599627370496 < 2047 := by omega
    by_cases h0 : b = 0
    · subst h0
      rw [Sh.xF_zero_w, cd_zero, ce_zero]
      refine ⟨may_zero g, ?_⟩
      rw [pT_zero_w, if_neg (by omega), ← hs, Nat.or_zero]
    · have hf := xw_fits (Nat.pos_of_ne_zero h0) (by simp only [Nat.reducePow]; exact h3)
      have hm := may_of (g := g) (xF_pos (M := 52) (Z := 1074) (Nat.pos_of_ne_zero h0)) hf
      refine ⟨hm, ?_⟩
      rw [pT_fin_w hm (fun e => xF_pos (M := 52) (Z := 1074) (Nat.pos_of_ne_zero h0) (cd_nil.1 e)) (near_exact (M := 52) (L := 1074)), if_neg (by omega), show min b 9218868437227405312 = b by omega]
      exact hs
noncomputable def pT_n (p : Pt) : Nat := tV_n p.1 p.2.1 p.2.2.1 p.2.2.2
def oP_n (bits : Nat) : Pt :=
  if bits % 2147483648 / 8388608 = 255 then (if bits % 2147483648 % 8388608 = 0 then (1, decide (bits / 2147483648 = 1), [], 0) else (2, false, [], 0))
  else if bits % 2147483648 = 0 then (0, decide (bits / 2147483648 = 1), [], 0)
  else (0, decide (bits / 2147483648 = 1), cd (fF 23 151 (bits % 2147483648)), ce (fF 23 151 (bits % 2147483648)) ((un 151 (bits % 2147483648 / 2 ^ 23 - 1) : Nat) - (151 : Nat)))
def eP_n (bits : Nat) : Pt :=
  if bits % 2147483648 / 8388608 = 255 then (if bits % 2147483648 % 8388608 = 0 then (1, decide (bits / 2147483648 = 1), [], 0) else (2, false, [], 0))
  else (0, decide (bits / 2147483648 = 1), cd (xF 23 149 (bits % 2147483648)), ce (xF 23 149 (bits % 2147483648)) ((un 149 (bits % 2147483648 / 2 ^ 23 - 1) : Nat) - (149 : Nat)))
theorem oV_p_n (bits : Nat) : Sh.oV_n bits = pV (oP_n bits) := by
  unfold Sh.oV_n oP_n
  split
  · split <;> rfl
  · split <;> rfl
theorem eV_p_n (bits : Nat) : Sh.eV_n bits = pV (eP_n bits) := by
  unfold Sh.eV_n eP_n
  split
  · split <;> rfl
  · rfl
/-- a float's bits, NaNs all alike -/
def canon_n (bits : Nat) : Nat := if 2139095040 < bits % 2147483648 then 2143289345 else bits
theorem sg_or_n {bits : Nat} (hb : bits < 4294967296) : sg_n (decide (bits / 2147483648 = 1)) ||| bits % 2147483648 = bits := by
  by_cases h : bits / 2147483648 = 1
  · rw [decide_eq_true h]
    show 2147483648 ||| bits % 2147483648 = bits
    have e := Nat.two_pow_add_eq_or_of_lt (i := 31) (b := bits % 2147483648) (Nat.mod_lt _ (by decide)) 1
    simp only [Nat.reducePow, Nat.mul_one] at e
    rw [← e]
    omega
  · rw [decide_eq_false h]
    show 0 ||| bits % 2147483648 = bits
    rw [Nat.zero_or]
    omega
theorem pT_inf_n (g : Bool) : pT_n (1, g, [], 0) = sg_n g ||| 2139095040 := by
  show tV_n 1 g [] 0 = _
  unfold tV_n
  rw [if_neg (by rw [may_inf]; decide), if_neg (by decide), if_pos rfl]
theorem pT_nan_n : pT_n (2, false, [], 0) = 2143289345 := by
  show tV_n 2 false [] 0 = _
  unfold tV_n
  rw [if_neg (by rw [may_nan]; decide), if_pos rfl]
theorem pT_zero_n (g : Bool) : pT_n (0, g, [], 0) = sg_n g := by
  show tV_n 0 g [] 0 = _
  unfold tV_n
  rw [if_neg (by rw [may_zero]; decide), if_neg (by decide), if_neg (by decide), if_pos rfl]
theorem pT_fin_n {g : Bool} {l : List UInt8} {x : Int} {b : Nat} (hm : mayB 0 g l x = true) (hl : l ≠ []) (h : NearD 23 149 (nv 0 l) x b) : pT_n (0, g, l, x) = sg_n g ||| min b 2139095040 := by
  show tV_n 0 g l x = _
  unfold tV_n
  rw [if_neg (by rw [hm]; decide), if_neg (by decide), if_neg (by decide), if_neg hl, nb_eq (by omega) h]
/-- told in the fewest digits, and read -/
theorem backO_n {bits : Nat} (hb : bits < 4294967296) : pM (oP_n bits) = true ∧ pT_n (oP_n bits) = canon_n bits := by
  have hs := sg_or_n hb
  have hlt : bits % 2147483648 < 2147483648 := Nat.mod_lt _ (by decide)
  unfold oP_n canon_n pM
  generalize bits % 2147483648 = b at *
  generalize decide (bits / 2147483648 = 1) = g at *
  by_cases h1 : b / 8388608 = 255
  · rw [if_pos h1]
    by_cases h2 : b % 8388608 = 0
    · rw [if_pos h2]
      refine ⟨may_inf g, ?_⟩
      rw [pT_inf_n, if_neg (by omega), ← hs]
      congr 1
      omega
    · rw [if_neg h2]
      refine ⟨may_nan, ?_⟩
      rw [pT_nan_n, if_pos (by omega)]
  · rw [if_neg h1]
    have h3 : b / 8388608 < 255 := by omega
    by_cases h0 : b = 0
    · rw [if_pos h0]
      refine ⟨may_zero g, ?_⟩
      rw [pT_zero_n, if_neg (by omega), ← hs, h0, Nat.or_zero]
    · rw [if_neg h0]
      have hf := fn_fits (Nat.pos_of_ne_zero h0) (by simp only [Nat.reducePow]; exact h3)
      have hm := may_of (g := g) (fF_pos (M := 23) (Z := 151) (Nat.pos_of_ne_zero h0)) hf
      refine ⟨hm, ?_⟩
      rw [pT_fin_n hm (fun e => fF_pos (M := 23) (Z := 151) (Nat.pos_of_ne_zero h0) (cd_nil.1 e)) (near_few (M := 23) (L := 149) (by omega) (Nat.pos_of_ne_zero h0)), if_neg (by omega), show min b 2139095040 = b by omega]
      exact hs
/-- told in all digits, and read -/
theorem backE_n {bits : Nat} (hb : bits < 4294967296) : pM (eP_n bits) = true ∧ pT_n (eP_n bits) = canon_n bits := by
  have hs := sg_or_n hb
  have hlt : bits % 2147483648 < 2147483648 := Nat.mod_lt _ (by decide)
  unfold eP_n canon_n pM
  generalize bits % 2147483648 = b at *
  generalize decide (bits / 2147483648 = 1) = g at *
  by_cases h1 : b / 8388608 = 255
  · rw [if_pos h1]
    by_cases h2 : b % 8388608 = 0
    · rw [if_pos h2]
      refine ⟨may_inf g, ?_⟩
      rw [pT_inf_n, if_neg (by omega), ← hs]
      congr 1
      omega
    · rw [if_neg h2]
      refine ⟨may_nan, ?_⟩
      rw [pT_nan_n, if_pos (by omega)]
  · rw [if_neg h1]
    have h3 : b / 8388608 < 255 := by omega
    by_cases h0 : b = 0
    · subst h0
      rw [Sh.xF_zero_n, cd_zero, ce_zero]
      refine ⟨may_zero g, ?_⟩
      rw [pT_zero_n, if_neg (by omega), ← hs, Nat.or_zero]
    · have hf := xn_fits (Nat.pos_of_ne_zero h0) (by simp only [Nat.reducePow]; exact h3)
      have hm := may_of (g := g) (xF_pos (M := 23) (Z := 149) (Nat.pos_of_ne_zero h0)) hf
      refine ⟨hm, ?_⟩
      rw [pT_fin_n hm (fun e => xF_pos (M := 23) (Z := 149) (Nat.pos_of_ne_zero h0) (cd_nil.1 e)) (near_exact (M := 23) (L := 149)), if_neg (by omega), show min b 2139095040 = b by omega]
      exact hs
end Go.Proofs.YtfddokfnplehkaaGreatDoor.Nr

/- Layer 4: To64, To32, Narrow, Widen; the document's; awake. -/
set_option linter.unusedSimpArgs false
set_option linter.unusedVariables false
namespace Go.Proofs.YtfddokfnplehkaaGreatDoor.Nr
open Go.RowKit Go.Proofs.YtfddokfnplehkaaGreatDoor.Dig Go.Proofs.YtfddokfnplehkaaGreatDoor.W Go.Proofs.YtfddokfnplehkaaGreatDoor.Nat Go.Proofs.YtfddokfnplehkaaGreatDoor.Wh Go.Proofs.YtfddokfnplehkaaGreatDoor.Td Go.Proofs.YtfddokfnplehkaaGreatDoor.Bu Go.Proofs.YtfddokfnplehkaaGreatDoor.Tx Go.Proofs.YtfddokfnplehkaaGreatDoor.Sp
open Go.Proofs.YtfddokfnplehkaaGreatDoor.Rd (stand Formed fits mayB)
open Go.Proofs.YtfddokfnplehkaaGreatDoor.Dc (on dec str)

def pE (p : Pt) : Int := if pM p then 0 else 40
theorem pT_lt_w (p : Pt) : pT_w p < 18446744073709551616 := by
  have hs : sg_w p.2.1 < 18446744073709551616 := by cases p.2.1 <;> decide
  unfold pT_w tV_w
  split
  · decide
  · split
    · decide
    · split
      · exact Nat.or_lt_two_pow (n := 64) hs (by decide)
      · split
        · exact hs
        · exact Nat.or_lt_two_pow (n := 64) hs (Nat.lt_of_le_of_lt (Nat.min_le_right _ _) (by decide))
set_option maxHeartbeats 4000000 in
set_option maxRecDepth 100000 in
theorem To64_calls (p : Pt) (w : World) (hl : p.2.2.1.length ≤ 9223372036854775807) :
    Calls Tryz.prog 11 #[.agg (pV p)] w fun e w' => e = .returned (.tuple #[.int .u64 ((pT_w p : Nat) : Int), .int .i64 (pE p)]) ∧ Below w.heap.size w w' := by
  have hlt := pT_lt_w p
  obtain ⟨c, g, l, x⟩ := p
  have HT := Lib.hid (fun w1 => (show Calls Tryz.prog 41 #[.agg #[.int .i64 52, .int .i64 11], .agg #[.int .i64 c, .bool g, .string ⟨l.toArray⟩, .int .i64 x]] w1 fun e w' => e = .returned (.tuple #[.int .u64 ((pT_w (c, g, l, x) : Nat) : Int), .int .i64 (pE (c, g, l, x))]) ∧ Below w1.heap.size w1 w' from to_calls_w c g l x w1 hl))
  show Calls Tryz.prog 11 #[.agg #[.int .i64 c, .bool g, .string ⟨l.toArray⟩, .int .i64 x]] w _
  clear hl
  generalize pT_w (c, g, l, x) = t at *
  generalize pE (c, g, l, x) = er at *
  have HB := Lib.hid (alloc_below w (.cells #[.int .i64 c, .bool g, .string ⟨l.toArray⟩, .int .i64 x] 23))
  go_enter Tryz.func11, Tryz.ntmps11
  go_wp2_with (go_at_call 41; (with_reducible refine (HT.out _).mono ?_); rintro e w1 ⟨rfl, b1⟩)
  go_ret2
  exact ⟨rfl, on HB.out b1⟩
theorem pT_lt_n (p : Pt) : pT_n p < 4294967296 := by
  have hs : sg_n p.2.1 < 4294967296 := by cases p.2.1 <;> decide
  unfold pT_n tV_n
  split
  · decide
  · split
    · decide
    · split
      · exact Nat.or_lt_two_pow (n := 32) hs (by decide)
      · split
        · exact hs
        · exact Nat.or_lt_two_pow (n := 32) hs (Nat.lt_of_le_of_lt (Nat.min_le_right _ _) (by decide))
set_option maxHeartbeats 4000000 in
set_option maxRecDepth 100000 in
theorem To32_calls (p : Pt) (w : World) (hl : p.2.2.1.length ≤ 9223372036854775807) :
    Calls Tryz.prog 16 #[.agg (pV p)] w fun e w' => e = .returned (.tuple #[.int .u32 ((pT_n p : Nat) : Int), .int .i64 (pE p)]) ∧ Below w.heap.size w w' := by
  have hlt := pT_lt_n p
  obtain ⟨c, g, l, x⟩ := p
  have HT := Lib.hid (fun w1 => (show Calls Tryz.prog 41 #[.agg #[.int .i64 23, .int .i64 8], .agg #[.int .i64 c, .bool g, .string ⟨l.toArray⟩, .int .i64 x]] w1 fun e w' => e = .returned (.tuple #[.int .u64 ((pT_n (c, g, l, x) : Nat) : Int), .int .i64 (pE (c, g, l, x))]) ∧ Below w1.heap.size w1 w' from to_calls_n c g l x w1 hl))
  show Calls Tryz.prog 16 #[.agg #[.int .i64 c, .bool g, .string ⟨l.toArray⟩, .int .i64 x]] w _
  clear hl
  generalize pT_n (c, g, l, x) = t at *
  generalize pE (c, g, l, x) = er at *
  have HB := Lib.hid (alloc_below w (.cells #[.int .i64 c, .bool g, .string ⟨l.toArray⟩, .int .i64 x] 23))
  go_enter Tryz.func16, Tryz.ntmps16
  go_wp2_with (go_at_call 41; (with_reducible refine (HT.out _).mono ?_); rintro e w1 ⟨rfl, b1⟩)
  go_ret2
  exact ⟨rfl, on HB.out b1⟩
theorem len_w {bits : Nat} (hm : pM (eP_w bits) = true) : (eP_w bits).2.2.1.length ≤ 9223372036854775807 := by
  rcases (Rd.mayB_iff ..).1 hm with ⟨h, _⟩ | ⟨_, _, h⟩
  · rw [h]; decide
  · have := h.1; omega
theorem len_p {p : Pt} (hm : pM p = true) : p.2.2.1.length ≤ 9223372036854775807 := by
  rcases (Rd.mayB_iff ..).1 hm with ⟨h, _⟩ | ⟨_, _, h⟩
  · rw [h]; decide
  · have := h.1; omega
theorem pV_four (p : Pt) : ∃ c g l x, pV p = #[.int .i64 c, .bool g, .string ⟨l⟩, .int .i64 x] := ⟨_, _, _, _, rfl⟩
set_option maxHeartbeats 4000000 in
set_option maxRecDepth 100000 in
theorem Narrow_calls {bits : Nat} (hb : bits < 18446744073709551616) (w : World) (hp : Pow w) :
    Calls Tryz.prog 18 #[.int .u64 (bits : Nat)] w fun e w' => e = .returned (.int .u32 ((pT_n (eP_w bits) : Nat) : Int)) ∧ Below w.heap.size w w' := by
  have HE := Sh.Exact64_calls hb w hp
  have HT := fun w1 => To32_calls (eP_w bits) w1 (len_p (backE_w hb).1)
  rw [eV_p_w] at HE
  obtain ⟨c, g, l, x, e⟩ := pV_four (eP_w bits)
  rw [e] at HE HT
  generalize pT_n (eP_w bits) = t at *
  generalize pE (eP_w bits) = er at *
  replace HE := Lib.hid HE
  replace HT := Lib.hid HT
  clear e hp
  go_enter Tryz.func18, Tryz.ntmps18
  go_wp2_with (first
    | (go_at_call 26; (with_reducible refine HE.out.mono ?_); rintro e w1 ⟨rfl, b1⟩)
    | (go_at_call 16; (with_reducible refine (HT.out _).mono ?_); rintro e w2 ⟨rfl, b2⟩))
  go_ret
  exact ⟨rfl, on b1 b2⟩
set_option maxHeartbeats 4000000 in
set_option maxRecDepth 100000 in
theorem Widen_calls {bits : Nat} (hb : bits < 4294967296) (w : World) (hp : Pow w) :
    Calls Tryz.prog 20 #[.int .u32 (bits : Nat)] w fun e w' => e = .returned (.int .u64 ((pT_w (eP_n bits) : Nat) : Int)) ∧ Below w.heap.size w w' := by
  have HE := Sh.Exact32_calls hb w hp
  have HT := fun w1 => To64_calls (eP_n bits) w1 (len_p (backE_n hb).1)
  rw [eV_p_n] at HE
  obtain ⟨c, g, l, x, e⟩ := pV_four (eP_n bits)
  rw [e] at HE HT
  generalize pT_w (eP_n bits) = t at *
  generalize pE (eP_n bits) = er at *
  replace HE := Lib.hid HE
  replace HT := Lib.hid HT
  clear e hp
  go_enter Tryz.func20, Tryz.ntmps20
  go_wp2_with (first
    | (go_at_call 35; (with_reducible refine HE.out.mono ?_); rintro e w1 ⟨rfl, b1⟩)
    | (go_at_call 11; (with_reducible refine (HT.out _).mono ?_); rintro e w2 ⟨rfl, b2⟩))
  go_ret
  exact ⟨rfl, on b1 b2⟩
theorem rTo_w (p : Pt) (hm : pM p = true) (w : World) : Calls Tryz.prog 14 #[.agg #[.int .i64 52, .int .i64 11], .agg (pV p)] w fun e w' => e = .returned (.int .u64 ((pT_w p : Nat) : Int)) ∧ Below w.heap.size w w' := rto_calls_w p.1 p.2.1 p.2.2.1 p.2.2.2 w hm
theorem rTo_n (p : Pt) (hm : pM p = true) (w : World) : Calls Tryz.prog 14 #[.agg #[.int .i64 23, .int .i64 8], .agg (pV p)] w fun e w' => e = .returned (.int .u64 ((pT_n p : Nat) : Int)) ∧ Below w.heap.size w w' := rto_calls_n p.1 p.2.1 p.2.2.1 p.2.2.2 w hm
set_option maxHeartbeats 4000000 in
set_option maxRecDepth 100000 in
theorem rNarrow_calls {bits : Nat} (hb : bits < 18446744073709551616) (w : World) :
    Calls Tryz.prog 19 #[.int .u64 (bits : Nat)] w fun e w' => e = .returned (.int .u32 ((pT_n (eP_w bits) : Nat) : Int)) ∧ Below w.heap.size w w' := by
  have HE := fun w1 => Sh.rexact_calls_w hb w1
  have HT := fun w1 => rTo_n (eP_w bits) (backE_w hb).1 w1
  have hlt := pT_lt_n (eP_w bits)
  simp only [eV_p_w] at HE
  obtain ⟨c, g, l, x, e⟩ := pV_four (eP_w bits)
  rw [e] at HT
  simp only [e] at HE
  generalize pT_n (eP_w bits) = t at *
  replace HE := Lib.hid HE
  replace HT := Lib.hid HT
  clear e
  go_enter Tryz.func19, Tryz.ntmps19
  go_wp2_with (first
    | (go_at_call 17; (with_reducible refine (Sh.narrow_calls _).mono ?_); rintro e w1 ⟨rfl, b1⟩)
    | (go_at_call 15; (with_reducible refine (Sh.wide_calls _).mono ?_); rintro e w2 ⟨rfl, b2⟩)
    | (go_at_call 46; (with_reducible refine (HE.out _).mono ?_); rintro e w3 ⟨rfl, b3⟩)
    | (go_at_call 14; (with_reducible refine (HT.out _).mono ?_); rintro e w4 ⟨rfl, b4⟩))
  go_ret
  exact ⟨rfl, on (on (on b1 b2) b3) b4⟩
set_option maxHeartbeats 4000000 in
set_option maxRecDepth 100000 in
theorem rWiden_calls {bits : Nat} (hb : bits < 4294967296) (w : World) :
    Calls Tryz.prog 21 #[.int .u32 (bits : Nat)] w fun e w' => e = .returned (.int .u64 ((pT_w (eP_n bits) : Nat) : Int)) ∧ Below w.heap.size w w' := by
  have HE := fun w1 => Sh.rexact_calls_n hb w1
  have HT := fun w1 => rTo_w (eP_n bits) (backE_n hb).1 w1
  simp only [eV_p_n] at HE
  obtain ⟨c, g, l, x, e⟩ := pV_four (eP_n bits)
  rw [e] at HT
  simp only [e] at HE
  generalize pT_w (eP_n bits) = t at *
  replace HE := Lib.hid HE
  replace HT := Lib.hid HT
  clear e
  go_enter Tryz.func21, Tryz.ntmps21
  go_wp2_with (first
    | (go_at_call 17; (with_reducible refine (Sh.narrow_calls _).mono ?_); rintro e w1 ⟨rfl, b1⟩)
    | (go_at_call 15; (with_reducible refine (Sh.wide_calls _).mono ?_); rintro e w2 ⟨rfl, b2⟩)
    | (go_at_call 46; (with_reducible refine (HE.out _).mono ?_); rintro e w3 ⟨rfl, b3⟩)
    | (go_at_call 14; (with_reducible refine (HT.out _).mono ?_); rintro e w4 ⟨rfl, b4⟩))
  go_ret
  exact ⟨rfl, on (on (on b2 b1) b3) b4⟩
theorem may_one (x : Int) (h : -1 ≤ x) (h' : x ≤ 0) : mayB 0 false [49] x = true := by
  obtain rfl | rfl : x = -1 ∨ x = 0 := by omega
  · decide
  · decide
theorem aw_w1 : pT_w (0, false, [49], -1) = 4591870180066957722 := by
  have h := near_few (M := 52) (L := 1074) (b := 0x3fb999999999999a) (by omega) (by omega)
  have e := awake1
  rw [show (1074 + 2 : Nat) = 1076 from rfl, e.1, e.2] at h
  rw [pT_fin_w (may_one _ (by omega) (by omega)) (by decide) h]
  decide
theorem aw_n1 : pT_n (0, false, [49], -1) = 1036831949 := by
  have h := near_few (M := 23) (L := 149) (b := 0x3dcccccd) (by omega) (by omega)
  have e := awake3
  rw [show (149 + 2 : Nat) = 151 from rfl, e.1, e.2] at h
  rw [pT_fin_n (may_one _ (by omega) (by omega)) (by decide) h]
  decide
theorem ew_one : eP_w 4607182418800017408 = (0, false, [49], 0) := by
  have h : cd (xF 52 1074 0x3ff0000000000000) = [49] ∧ ce (xF 52 1074 0x3ff0000000000000) ((un 1074 (0x3ff0000000000000 / 2 ^ 52 - 1) : Nat) - (1074 : Nat)) = 0 := form_at (b := 1) (k := 52) (by decide +kernel) (by decide) (dec_small (by omega)) (by decide +kernel)
  unfold eP_w
  rw [if_neg (by decide), show decide (4607182418800017408 / 9223372036854775808 = 1) = false from by decide, show 4607182418800017408 % 9223372036854775808 = 0x3ff0000000000000 by decide, h.1, h.2]
theorem en_one : eP_n 1065353216 = (0, false, [49], 0) := by
  have h : cd (xF 23 149 0x3f800000) = [49] ∧ ce (xF 23 149 0x3f800000) ((un 149 (0x3f800000 / 2 ^ 23 - 1) : Nat) - (149 : Nat)) = 0 := form_at (b := 1) (k := 23) (by decide +kernel) (by decide) (dec_small (by omega)) (by decide +kernel)
  unfold eP_n
  rw [if_neg (by decide), show decide (1065353216 / 2147483648 = 1) = false from by decide, show 1065353216 % 2147483648 = 0x3f800000 by decide, h.1, h.2]
theorem aw_narrow : pT_n (eP_w 4607182418800017408) = 1065353216 := by
  rw [ew_one, ← en_one, (backE_n (by decide)).2]
  decide
theorem aw_widen : pT_w (eP_n 1065353216) = 4607182418800017408 := by
  rw [en_one, ← ew_one, (backE_w (by decide)).2]
  decide
set_option maxHeartbeats 4000000 in
set_option maxRecDepth 100000 in
theorem awake_calls (w : World) (hp : Pow w) : Calls Tryz.prog 12 #[] w fun e w' => e = .returned (.bool true) ∧ Below w.heap.size w w' := by
  have H1 := Lib.hid (fun w1 => (show Calls Tryz.prog 11 #[.agg #[.int .i64 0, .bool false, .string ⟨#[49]⟩, .int .i64 (-1)]] w1 fun e w' => e = .returned (.tuple #[.int .u64 4591870180066957722, .int .i64 0]) ∧ Below w1.heap.size w1 w' from by
    have e := To64_calls (0, false, [49], -1) w1 (by decide)
    rw [aw_w1] at e
    exact e))
  have H2 := Lib.hid (fun w1 => (show Calls Tryz.prog 16 #[.agg #[.int .i64 0, .bool false, .string ⟨#[49]⟩, .int .i64 (-1)]] w1 fun e w' => e = .returned (.tuple #[.int .u32 1036831949, .int .i64 0]) ∧ Below w1.heap.size w1 w' from by
    have e := To32_calls (0, false, [49], -1) w1 (by decide)
    rw [aw_n1] at e
    exact e))
  have H3 := Lib.hid (fun w1 => (show Calls Tryz.prog 11 #[.agg #[.int .i64 0, .bool false, .string ⟨#[48, 49]⟩, .int .i64 0]] w1 fun e w' => e = .returned (.tuple #[.int .u64 0, .int .i64 40]) ∧ Below w1.heap.size w1 w' from by
    have e := To64_calls (0, false, [48, 49], 0) w1 (by decide)
    exact e))
  have H4 := Lib.hid (fun w1 => (show Calls Tryz.prog 16 #[.agg #[.int .i64 2, .bool true, .string ⟨#[]⟩, .int .i64 0]] w1 fun e w' => e = .returned (.tuple #[.int .u32 0, .int .i64 40]) ∧ Below w1.heap.size w1 w' from by
    have e := To32_calls (2, true, [], 0) w1 (by decide)
    exact e))
  have H5 := Lib.hid (fun w1 (b : Below w.heap.size w w1) => (show Calls Tryz.prog 18 #[.int .u64 4607182418800017408] w1 fun e w' => e = .returned (.int .u32 1065353216) ∧ Below w1.heap.size w1 w' from by
    have e := Narrow_calls (bits := 4607182418800017408) (by decide) w1 (hp.below b)
    rw [aw_narrow] at e
    exact e))
  have H6 := Lib.hid (fun w1 (b : Below w.heap.size w w1) => (show Calls Tryz.prog 20 #[.int .u32 1065353216] w1 fun e w' => e = .returned (.int .u64 4607182418800017408) ∧ Below w1.heap.size w1 w' from by
    have e := Widen_calls (bits := 1065353216) (by decide) w1 (hp.below b)
    rw [aw_widen] at e
    exact e))
  clear hp
  go_enter Tryz.func12, Tryz.ntmps12
  go_wp2_with (first
    | (go_at_call 11; first
      | ((with_reducible refine (H1.out _).mono ?_); rintro e w1 ⟨rfl, b1⟩)
      | ((with_reducible refine (H3.out _).mono ?_); rintro e w3 ⟨rfl, b3⟩))
    | (go_at_call 16; first
      | ((with_reducible refine (H2.out _).mono ?_); rintro e w2 ⟨rfl, b2⟩)
      | ((with_reducible refine (H4.out _).mono ?_); rintro e w4 ⟨rfl, b4⟩; have z4 := on (on (on b1 b2) b3) b4))
    | (go_at_call 18; (with_reducible refine (H5.out _ z4).mono ?_); rintro e w5 ⟨rfl, b5⟩; have z5 := on z4 b5)
    | (go_at_call 20; (with_reducible refine (H6.out _ z5).mono ?_); rintro e w6 ⟨rfl, b6⟩))
  go_ret
  exact ⟨rfl, on z5 b6⟩
end Go.Proofs.YtfddokfnplehkaaGreatDoor.Nr
