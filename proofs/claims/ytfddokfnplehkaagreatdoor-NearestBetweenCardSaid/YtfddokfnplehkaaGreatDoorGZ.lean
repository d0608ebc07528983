/- Texts of one layer, joined: Fs, Ft. -/
import Derived.Test.YtfddokfnplehkaaGreatDoorFC
set_option linter.unusedVariables false
set_option linter.unusedSimpArgs false
set_option linter.unusedSectionVars false
/- Layer 4's laws: NearestBetween, plain: what lies between two neighbours, and what it is read as. -/
set_option linter.unusedSimpArgs false
set_option linter.unusedVariables false
namespace Go.Proofs.YtfddokfnplehkaaGreatDoor.Nr
open Go.RowKit Go.Proofs.YtfddokfnplehkaaGreatDoor.Dig Go.Proofs.YtfddokfnplehkaaGreatDoor.W Go.Proofs.YtfddokfnplehkaaGreatDoor.Nat Go.Proofs.YtfddokfnplehkaaGreatDoor.Wh Go.Proofs.YtfddokfnplehkaaGreatDoor.Td Go.Proofs.YtfddokfnplehkaaGreatDoor.Bu Go.Proofs.YtfddokfnplehkaaGreatDoor.Tx Go.Proofs.YtfddokfnplehkaaGreatDoor.Sp
open Go.Proofs.YtfddokfnplehkaaGreatDoor.Rd (stand Formed fits mayB)

def xl (b : Nat) : List UInt8 := cd (xF 52 1074 b)
def xe (b : Nat) : Int := ce (xF 52 1074 b) ((un 1074 (b / 2 ^ 52 - 1) : Nat) - (1074 : Nat))
theorem xe_low {b : Nat} : ((un 1074 (b / 2 ^ 52 - 1) : Nat) : Int) - 1074 ≤ xe b := by
  unfold xe ce
  split
  · have := un_le 1074 (b / 2 ^ 52 - 1)
    omega
  · omega
theorem un_mono {Z a c : Nat} (h : a ≤ c) : un Z a ≤ un Z c := by unfold un; split <;> split <;> omega
theorem big_one : 5 ^ 304 ≤ 2 ^ 716 := by decide +kernel
theorem big_two : 2 ^ 256 ≤ 5 ^ 770 := by decide +kernel
theorem pw {a c d : Nat} (h : c ≤ d) (ha : 0 < a) : a ^ c ≤ a ^ d := Nat.pow_le_pow_right ha h
theorem top_hi {v A B C D E : Nat} (h : 2 ^ D ≤ 5 ^ E) (hv : A + v ≤ B + D) (hc : C + E = B) : 2 ^ (A + v) * 5 ^ C ≤ 10 ^ B := by
  have e1 : 2 ^ (A + v) ≤ 2 ^ B * 2 ^ D := by rw [← Nat.pow_add]; exact pw hv (by omega)
  have e2 : 5 ^ B = 5 ^ E * 5 ^ C := by rw [← Nat.pow_add, Nat.add_comm E, hc]
  rw [show (10 : Nat) = 2 * 5 from rfl, Nat.mul_pow, e2, ← Nat.mul_assoc]
  exact Nat.mul_le_mul_right _ (Nat.le_trans e1 (Nat.mul_le_mul_left _ h))
theorem top_lo {v A B C D E F : Nat} (h : 5 ^ D ≤ 2 ^ E) (hc : C = D + F) (hf : F ≤ B + v) (he : B + v = A + v + E) : 2 ^ (A + v) * 5 ^ C ≤ 10 ^ (B + v) := by
  have e3 : 5 ^ F ≤ 5 ^ (B + v) := pw hf (by omega)
  have e4 : 2 ^ (B + v) = 2 ^ (A + v) * 2 ^ E := by rw [he, Nat.pow_add]
  rw [show (10 : Nat) = 2 * 5 from rfl, Nat.mul_pow, e4, hc, Nat.pow_add 5 D F, Nat.mul_assoc (2 ^ (A + v)) (2 ^ E)]
  exact Nat.mul_le_mul_left _ (Nat.mul_le_mul h e3)
set_option exponentiation.threshold 4000 in
theorem top_bound {v : Nat} (hv : v ≤ 2046) : 2 ^ (56 + v) * 5 ^ 1076 ≤ 10 ^ (772 + un 1074 v) := by
  unfold un
  split
  · next h => exact top_hi (D := 256) (E := 770) big_two (by omega) (by omega)
  · next h => exact top_lo (D := 304) (E := 716) (F := 772) big_one (by omega) (by omega) (by omega)
theorem ten76 (L : Nat) : 10 ^ (L + 2) = 2 ^ L * 4 * 5 ^ (L + 2) := by
  rw [show (10 : Nat) = 2 * 5 from rfl, Nat.mul_pow, Nat.pow_add 2 L 2]
theorem ten_abs (L K : Nat) (h : K = L + 2) : ∃ T5 T2 T10 : Nat, T5 = 5 ^ K ∧ T2 = 2 ^ L ∧ T10 = 10 ^ K ∧ T10 = T2 * 4 * T5 := by
  subst h
  exact ⟨_, _, _, rfl, rfl, rfl, ten76 L⟩
set_option exponentiation.threshold 4000 in
theorem between_plain {b : Nat} (hb : b < 9218868437227405311) :
    ∃ (k k' : Nat) (u : Int), u = min (xe b) (xe (b + 1)) - 2 ∧ (k : Int) = xe b - u ∧ (k' : Int) = xe (b + 1) - u ∧ k ≤ 1500 ∧ k' ≤ 1500 ∧ -1076 ≤ u ∧ u ≤ 309 ∧
      nv 0 (xl b) * 10 ^ k < nv 0 (xl (b + 1)) * 10 ^ k' ∧ nv 0 (xl (b + 1)) * 10 ^ k' ≤ 10 ^ 772 ∧
      ∀ p, p ≤ 100 → nv 0 (xl b) * 10 ^ k + (nv 0 (xl (b + 1)) * 10 ^ k' - nv 0 (xl b) * 10 ^ k) / 100 * p ≤ 10 ^ 772 ∧
        pM (0, false, cd (nv 0 (xl b) * 10 ^ k + (nv 0 (xl (b + 1)) * 10 ^ k' - nv 0 (xl b) * 10 ^ k) / 100 * p), ce (nv 0 (xl b) * 10 ^ k + (nv 0 (xl (b + 1)) * 10 ^ k' - nv 0 (xl b) * 10 ^ k) / 100 * p) u) = true ∧
        pT_w (0, false, cd (nv 0 (xl b) * 10 ^ k + (nv 0 (xl (b + 1)) * 10 ^ k' - nv 0 (xl b) * 10 ^ k) / 100 * p), ce (nv 0 (xl b) * 10 ^ k + (nv 0 (xl (b + 1)) * 10 ^ k' - nv 0 (xl b) * 10 ^ k) / 100 * p) u) = if 50 < p ∨ (p = 50 ∧ b % 2 = 1) then b + 1 else b := by
  have hmin : ∀ c : Nat, c = b ∨ c = b + 1 → min c 9218868437227405312 = c := fun c hc => by omega
  have hv1 : (b + 1) / 2 ^ 52 < 2047 := by simp only [Nat.reducePow]; omega
  have hv0 : b / 2 ^ 52 < 2047 := by simp only [Nat.reducePow]; omega
  have hlo0 := xe_low (b := b)
  have hlo1 := xe_low (b := b + 1)
  have hex1 := xF_exp (b := b + 1) (by omega) hv1
  have hex0 : xe b < 309 := by
    by_cases h0 : b = 0
    · subst h0
      unfold xe
      rw [Sh.xF_zero_w, ce_zero]
      omega
    · exact (xF_exp (by omega) hv0).2
  change _ ≤ xe (b + 1) ∧ xe (b + 1) < 309 at hex1
  have hun := un_mono (Z := 1074) (show b / 2 ^ 52 - 1 ≤ (b + 1) / 2 ^ 52 - 1 from Nat.sub_le_sub_right (Nat.div_le_div_right (by omega)) 1)
  have r0 : Rep 1076 (xl b) (xe b) (4 * sc 52 b * 5 ^ 1076) := rep_x b
  have r1 : Rep 1076 (xl (b + 1)) (xe (b + 1)) (4 * sc 52 (b + 1) * 5 ^ 1076) := rep_x (b + 1)
  obtain ⟨u, hu⟩ : ∃ u, u = min (xe b) (xe (b + 1)) - 2 := ⟨_, rfl⟩
  obtain ⟨v, hvd⟩ : ∃ v, v = b / 2 ^ 52 - 1 := ⟨_, rfl⟩
  rw [← hvd] at hlo0 hun
  obtain ⟨k, hk⟩ : ∃ k : Nat, (k : Int) = xe b - u := ⟨(xe b - u).toNat, by omega⟩
  obtain ⟨k', hk'⟩ : ∃ k : Nat, (k : Int) = xe (b + 1) - u := ⟨(xe (b + 1) - u).toNat, by omega⟩
  obtain ⟨q, hq⟩ : ∃ q : Nat, (q : Int) = u + 1076 := ⟨(u + 1076).toNat, by omega⟩
  have n0 := r0.number (k := k) (u := q) (unit := u) hq hk
  have n1 := r1.number (k := k') (u := q) (unit := u) hq hk'
  have hqv : un 1074 v ≤ q := by omega
  have hs := sc_lt 52 (show b < b + 1 by omega)
  obtain ⟨T5, T2, T10, h5, h2, h10, hten⟩ := ten_abs 1074 1076 rfl
  have hT : 0 < T5 := by rw [h5]; exact Nat.pow_pos (by omega)
  have hT10 : 0 < T10 := by rw [h10]; exact p10 _
  rw [← h5] at n0 n1
  have hq0 := p10 q
  -- 100 divides both
  obtain ⟨x, hx⟩ : ∃ x, x = nv 0 (xl b) * 10 ^ k := ⟨_, rfl⟩
  obtain ⟨y, hy⟩ : ∃ y, y = nv 0 (xl (b + 1)) * 10 ^ k' := ⟨_, rfl⟩
  have dx : x % 100 = 0 := by
    obtain ⟨j, rfl⟩ : ∃ j, k = j + 2 := ⟨k - 2, by omega⟩
    rw [hx, Nat.pow_add, ← Nat.mul_assoc]
    exact Nat.mul_mod_left ..
  have dy : y % 100 = 0 := by
    obtain ⟨j, rfl⟩ : ∃ j, k' = j + 2 := ⟨k' - 2, by omega⟩
    rw [hy, Nat.pow_add, ← Nat.mul_assoc]
    exact Nat.mul_mod_left ..
  rw [← hx] at n0
  rw [← hy] at n1
  have hxy : x < y := by
    have : x * 10 ^ q < y * 10 ^ q := by
      rw [n0, n1]
      exact Nat.mul_lt_mul_of_pos_right (by omega) hT
    exact Nat.lt_of_mul_lt_mul_right this
  have hyb : y ≤ 10 ^ 772 := by
    have e1 : y * 10 ^ un 1074 v ≤ y * 10 ^ q := Nat.mul_le_mul_left _ (Nat.pow_le_pow_right (by omega) hqv)
    have e2 := sc_lt_top (M := 52) (b := b + 1) (w := v + 1) (by
      rw [hvd]
      have : (b + 1) / 2 ^ 52 ≤ b / 2 ^ 52 + 1 := by simp only [Nat.reducePow]; omega
      omega)
    have e3 := top_bound (v := v) (by omega)
    rw [← h5] at e3
    have e4 : 4 * sc 52 (b + 1) * T5 ≤ 2 ^ (56 + v) * T5 := by
      refine Nat.mul_le_mul_right _ ?_
      have : 2 ^ (56 + v) = 4 * 2 ^ (52 + 1 + (v + 1)) := by
        rw [show 56 + v = 2 + (52 + 1 + (v + 1)) by omega, Nat.pow_add 2 2]
      omega
    have e5 : y * 10 ^ un 1074 v ≤ 10 ^ 772 * 10 ^ un 1074 v := by
      rw [← Nat.pow_add]
      refine Nat.le_trans e1 ?_
      rw [n1]
      exact Nat.le_trans e4 e3
    exact Nat.le_of_mul_le_mul_right e5 (p10 _)
  refine ⟨k, k', u, hu, hk, hk', by omega, by omega, by omega, by omega, ?_, ?_, fun p hp => ?_⟩
  · rw [← hx, ← hy]; exact hxy
  · rw [← hy]; exact hyb
  · rw [← hx, ← hy]
    obtain ⟨g, hg⟩ : ∃ g, g = (y - x) / 100 := ⟨_, rfl⟩
    have hg100 : g * 100 = y - x := by omega
    have hgp : g * p ≤ g * 100 := Nat.mul_le_mul_left _ hp
    rw [← hg]
    obtain ⟨z, hz⟩ : ∃ z, z = x + g * p := ⟨_, rfl⟩
    rw [← hz]
    have hzb : z ≤ 10 ^ 772 := by omega
    have hnear : NearD 52 1074 z u (if 50 < p ∨ (p = 50 ∧ b % 2 = 1) then b + 1 else b) := by
      rw [nearD_at (E := -((1076 : Nat) : Int)) (by omega) (by omega), show (u - -((1076 : Nat) : Int)).toNat = q by omega, show (- -((1076 : Nat) : Int)).toNat = 1076 by omega, ← h2, ← h10]
      refine near_part hT10 hp ?_
      have m1 : 100 * (z * 10 ^ q) = 4 * (100 * sc 52 b + (sc 52 (b + 1) - sc 52 b) * p) * T5 := by
        obtain ⟨s, hs1⟩ : ∃ s, sc 52 (b + 1) = sc 52 b + s := ⟨sc 52 (b + 1) - sc 52 b, by omega⟩
        rw [hs1, Nat.add_sub_cancel_left]
        rw [hs1] at n1
        have t1 : 100 * g * 10 ^ q = 4 * s * T5 := by
          have t2 : y = x + 100 * g := by omega
          rw [t2, Nat.add_mul, n0, Nat.mul_add, Nat.add_mul] at n1
          omega
        rw [hz, Nat.add_mul, Nat.mul_add, n0]
        have t3 : 100 * (g * p * 10 ^ q) = 100 * g * 10 ^ q * p := by ac_rfl
        rw [t3, t1, Nat.mul_add, Nat.add_mul]
        congr 1
        · ac_rfl
        · ac_rfl
      have m2 : 100 * (z * 10 ^ q * T2) = 100 * (z * 10 ^ q) * T2 := by ac_rfl
      rw [m2, m1, hten]
      ac_rfl
    refine ⟨hzb, ?_⟩
    by_cases hz0 : z = 0
    · rw [hz0] at hnear ⊢
      rw [cd_zero, ce_zero]
      refine ⟨may_zero false, ?_⟩
      rw [pT_zero_w]
      have h0 : NearD 52 1074 0 u 0 := by
        unfold NearD
        rw [Nat.zero_mul, Nat.zero_mul]
        exact ⟨⟨by omega, fun h => absurd h (by decide)⟩, fun h => absurd h (by omega)⟩
      exact nearD_uniq h0 hnear
    · have hc := cd_len (a := z) (k := 0) (D := 772) (by rw [Nat.pow_zero]; exact Nat.one_dvd _) (by omega) hzb
      have htz : tz z ≤ 772 := by
        have h1 := nv_cd z
        have h2 : 10 ^ tz z ≤ nv 0 (cd z) * 10 ^ tz z := Nat.le_mul_of_pos_left _ (Rd.formed_cd hz0).pos
        exact (Nat.pow_le_pow_iff_right (by omega)).1 (Nat.le_trans h2 (Nat.le_trans (Nat.le_of_eq h1) hzb))
      have he : ce z u = u + (tz z : Int) := by unfold ce; rw [if_neg hz0]
      have hlen := (Rd.formed_cd hz0).len
      have hm : mayB 0 false (cd z) (ce z u) = true := may_of hz0 (by unfold fits; rw [he]; omega)
      refine ⟨hm, ?_⟩
      rw [pT_fin_w hm (fun e => hz0 (cd_nil.1 e)) ((nearD_cd hz0).2 hnear)]
      show 0 ||| _ = _
      rw [Nat.zero_or]
      refine hmin _ ?_
      split
      · exact .inr rfl
      · exact .inl rfl
end Go.Proofs.YtfddokfnplehkaaGreatDoor.Nr

/- Layer 4's laws: NearestBetween. -/
set_option linter.unusedSimpArgs false
set_option linter.unusedVariables false
namespace Go.Proofs.YtfddokfnplehkaaGreatDoor.Nr
open Go.RowKit Go.Proofs.YtfddokfnplehkaaGreatDoor.Dig Go.Proofs.YtfddokfnplehkaaGreatDoor.W Go.Proofs.YtfddokfnplehkaaGreatDoor.Nat Go.Proofs.YtfddokfnplehkaaGreatDoor.Wh Go.Proofs.YtfddokfnplehkaaGreatDoor.Td Go.Proofs.YtfddokfnplehkaaGreatDoor.Bu Go.Proofs.YtfddokfnplehkaaGreatDoor.Tx Go.Proofs.YtfddokfnplehkaaGreatDoor.Sp
open Go.Proofs.YtfddokfnplehkaaGreatDoor.Rf (V V_two V_pos)
open Go.Proofs.YtfddokfnplehkaaGreatDoor.Rd (stand Formed fits mayB)
open Go.Proofs.YtfddokfnplehkaaGreatDoor.Dc (on dec str four bk_two)

/-- two blocks of Decs, later on -/
structure D4 (w V1 : World) (g h : Nat) (cs ds : Array Value) : Prop where
  a : Bk V1 g 23 cs
  b : Bk V1 h 23 ds
  bl : Below w.heap.size w V1
section
variable {w V1 V' : World} {g h : Nat} {cs ds : Array Value} {a0 a1 a2 a3 b0 b1 b2 b3 : Value}
theorem D4.below (z : D4 w V1 g h cs ds) (hb : Below V1.heap.size V1 V') : D4 w V' g h cs ds := ⟨z.a.below hb, z.b.below hb, on z.bl hb⟩
theorem D4.drew (z : D4 w V1 g h cs ds) : D4 w V1.drew g h cs ds := z.below (Below.refl _ _).drew
theorem D4.keep (z : D4 w V1 g h #[a0, a1, a2, a3] #[b0, b1, b2, b3]) : V1.cell? ⟨g, 2, none⟩ = some a2 ∧ V1.cell? ⟨g, 3, none⟩ = some a3 ∧ V1.cell? ⟨h, 2, none⟩ = some b2 ∧ V1.cell? ⟨h, 3, none⟩ = some b3 := ⟨z.a.at_ 2 rfl, z.a.at_ 3 rfl, z.b.at_ 2 rfl, z.b.at_ 3 rfl⟩
end
theorem r_sub (A A' : Option Addr) (n c n' c' x y : Nat) (w : World) (h : SI w .u32 A n c (digs V x)) (h' : SI w .u32 A' n' c' (digs V y)) (hx : (digs V x).length ≤ 65536) (hy : (digs V y).length ≤ 65536) (hle : y ≤ x) :
    Calls Tryz.prog 28 #[.slice A n c, .slice A' n' c'] w (Gives w .u32 (digs V (x - y))) := by
  have e := Rf.sub_calls A A' n c n' c' (digs V x) (digs V y) w h h' (digs_lt V_two x) (digs_lt V_two y) (by rw [← h.len]; omega) (by rw [val_digs V_two, val_digs V_two]; exact hle)
  rw [val_digs V_two, val_digs V_two] at e
  exact e
theorem r_small (k : Nat) (x : Int) (hx : x = (k : Nat)) (hk : k ≤ 1000) (w : World) : Calls Tryz.prog 29 #[.int .i64 x] w (Gives w .u32 (digs V k)) := by
  subst hx
  exact (Rf.small_calls k w (by omega)).mono fun _ _ h => h.gives
set_option maxHeartbeats 8000000 in
set_option maxRecDepth 100000 in
theorem between_end (z at_ : Int) (w : World) (hp : Pow w) (hz : decide ((9218868437227405311 : Int) ≤ z) = true) :
    Calls Tryz.prog 7 #[.int .u64 z, .int .i64 at_] w fun e w' => e = .returned (.bool true) ∧ Below w.heap.size w w' := by
  have HA := Lib.hid (awake_calls w hp)
  clear hp
  go_enter Tryz.func7, Tryz.ntmps7
  go_wp2_with (go_at_call 12; (with_reducible refine HA.out.mono ?_); rintro e w1 ⟨rfl, b1⟩)
  go_ret
  exact ⟨rfl, b1⟩
set_option maxHeartbeats 16000000 in
set_option maxRecDepth 100000 in
theorem between_on (S S' Z : ByteArray) (x x' u m at_ pm ez : Int) (wide p N N' k k' L L' g z t : Nat) (w : World) (hp : Pow w) (hw : wide < 9218868437227405311)
    (hE : ∀ w1, Below w.heap.size w w1 → Calls Tryz.prog 26 #[.int .u64 (wide : Nat)] w1 fun e w' => e = .returned (.agg #[.int .i64 0, .bool false, .string S, .int .i64 x]) ∧ Below w1.heap.size w1 w')
    (hE' : ∀ w1, Below w.heap.size w w1 → Calls Tryz.prog 26 #[.int .u64 ((wide : Int) + 1)] w1 fun e w' => e = .returned (.agg #[.int .i64 0, .bool false, .string S', .int .i64 x']) ∧ Below w1.heap.size w1 w')
    (HO : ∀ w1, Calls Tryz.prog 24 #[.string S] w1 (Gives w1 .u32 (digs V L)))
    (HO' : ∀ w1, Calls Tryz.prog 24 #[.string S'] w1 (Gives w1 .u32 (digs V L')))
    (HT : ∀ w1, Calls Tryz.prog 11 #[.agg #[.int .i64 0, .bool false, .string Z, .int .i64 ez]] w1 fun e w' => e = .returned (.tuple #[.int .u64 (t : Nat), .int .i64 0]) ∧ Below w1.heap.size w1 w')
    (HDe : ∀ (A : Option Addr) (a c : Nat) (w1 : World), SI w1 .u32 A a c (digs V z) → Calls Tryz.prog 31 #[.bool false, .slice A a c, .int .i64 u] w1 fun e w' => e = .returned (.agg #[.int .i64 0, .bool false, .string Z, .int .i64 ez]) ∧ Below w1.heap.size w1 w')
    (bL : (digs V L).length ≤ 8192) (bL' : (digs V L').length ≤ 8192) (bN : (digs V N).length ≤ 8192) (bN' : (digs V N').length ≤ 8192) (hNN : N < N') (hN : L * 10 ^ k = N) (hN' : L' * 10 ^ k' = N') (hg : (N' - N) / 100 = g) (bg : (digs V (N' - N)).length ≤ 8192) (bgg : (digs V g).length ≤ 8192) (bgp : (digs V (g * p)).length ≤ 8192) (hzz : N + g * p = z) (hpp : p ≤ 100)
    (hm : min x x' = m) (hu : m - 2 = u) (hu1 : -1076 ≤ u) (hu2 : u ≤ 309) (hk : x - u = (k : Int)) (hk' : x' - u = (k' : Int)) (kb : k ≤ 1500) (kb' : k' ≤ 1500)
    (hpm : Int.tmod at_ 101 = pm) (hpp2 : (pm < 0 ∧ pm + 101 = (p : Int)) ∨ (0 ≤ pm ∧ pm = (p : Int)))
    (ht : t = if 50 < p ∨ (p = 50 ∧ wide % 2 = 1) then wide + 1 else wide) :
    Calls Tryz.prog 7 #[.int .u64 (wide : Nat), .int .i64 at_] w fun e w' => e = .returned (.bool true) ∧ Below w.heap.size w w' := by
  have hcase : (decide ((50 : Int) < (p : Int)) = true ∧ t = wide + 1) ∨ (decide ((50 : Int) < (p : Int)) = false ∧ ((p : Int) == 50) = true ∧ (((wide : Int) % 2) == 1) = true ∧ t = wide + 1) ∨ (decide ((50 : Int) < (p : Int)) = false ∧ ((p : Int) == 50) = true ∧ (((wide : Int) % 2) == 1) = false ∧ t = wide) ∨ (decide ((50 : Int) < (p : Int)) = false ∧ ((p : Int) == 50) = false ∧ t = wide) := by
    by_cases h1 : 50 < p
    · exact .inl ⟨decide_eq_true (by omega), by rw [ht, if_pos (.inl h1)]⟩
    · have h1' : decide ((50 : Int) < (p : Int)) = false := decide_eq_false (by omega)
      by_cases h2 : p = 50
      · have h2' : ((p : Int) == 50) = true := by simp; omega
        by_cases h3 : wide % 2 = 1
        · exact .inr (.inl ⟨h1', h2', by simp; omega, by rw [ht, if_pos (.inr ⟨h2, h3⟩)]⟩)
        · exact .inr (.inr (.inl ⟨h1', h2', by simp; omega, by rw [ht, if_neg (by omega)]⟩))
      · exact .inr (.inr (.inr ⟨h1', by simp; omega, by rw [ht, if_neg (by omega)]⟩))
  clear ht
  have HA := Lib.hid (awake_calls w hp)
  have hz := decide_eq_false (show ¬ (9218868437227405311 : Int) ≤ (wide : Int) by omega)
  have d1 := decide_eq_false (show ¬ u < -1090 by omega)
  have d2 := decide_eq_false (show ¬ (2000 : Int) < x - u by omega)
  have d3 := decide_eq_false (show ¬ (2000 : Int) < x' - u by omega)
  have xb1 : 0 ≤ x - u := by omega
  have xb2 : x - u ≤ 1500 := by omega
  have xb3 : 0 ≤ x' - u := by omega
  have xb4 : x' - u ≤ 1500 := by omega
  have e1 : IntKind.i64.wrap (x - u) = (k : Int) := by rw [IntWalk.i64_in _ (by omega)]; exact hk
  have e2 : IntKind.i64.wrap (x' - u) = (k' : Int) := by rw [IntWalk.i64_in _ (by omega)]; exact hk'
  have HP := Lib.hid (fun w1 => Sh.rpow_f 10 10 k (IntKind.i64.wrap (x - u)) w1 rfl (by omega) (by omega) e1 (by omega))
  have HP' := Lib.hid (fun w1 => Sh.rpow_f 10 10 k' (IntKind.i64.wrap (x' - u)) w1 rfl (by omega) (by omega) e2 (by omega))
  have bk : ∀ j, j ≤ 1500 → (digs V (10 ^ j)).length ≤ 65536 := fun j hj => by have := (ten_bt (k := j) (j := 500) (by omega)).len16; omega
  have HMu := Lib.hid (fun (A A' : Option Addr) (n c n' c' : Nat) (w1 : World) (h : SI w1 .u32 A n c (digs V L)) (h' : SI w1 .u32 A' n' c' (digs V (10 ^ k))) => (show Calls Tryz.prog 23 #[.slice A n c, .slice A' n' c'] w1 (Gives w1 .u32 (digs V N)) from hN ▸ Sh.rmul_e A A' n c n' c' L (10 ^ k) w1 h h' (by omega) (bk k kb)))
  have HMu' := Lib.hid (fun (A A' : Option Addr) (n c n' c' : Nat) (w1 : World) (h : SI w1 .u32 A n c (digs V L')) (h' : SI w1 .u32 A' n' c' (digs V (10 ^ k'))) => (show Calls Tryz.prog 23 #[.slice A n c, .slice A' n' c'] w1 (Gives w1 .u32 (digs V N')) from hN' ▸ Sh.rmul_e A A' n c n' c' L' (10 ^ k') w1 h h' (by omega) (bk k' kb')))
  have HC := Lib.hid (fun (A A' : Option Addr) (n c n' c' : Nat) (w1 : World) (h : SI w1 .u32 A n c (digs V N)) (h' : SI w1 .u32 A' n' c' (digs V N')) => (show Calls Tryz.prog 22 #[.slice A n c, .slice A' n' c'] w1 fun e w' => e = .returned (.int .i64 (-1)) ∧ Drawn w1 w' from (show stand N N' = -1 from if_pos hNN) ▸ r_cmp A A' n c n' c' N N' w1 h h'))
  have HSu := Lib.hid (fun (A A' : Option Addr) (n c n' c' : Nat) (w1 : World) (h : SI w1 .u32 A n c (digs V N')) (h' : SI w1 .u32 A' n' c' (digs V N)) => r_sub A A' n c n' c' N' N w1 h h' (by omega) (by omega) (by omega))
  have HDM := Lib.hid (fun (A A' : Option Addr) (n c n' c' : Nat) (w1 : World) (h : SI w1 .u32 A n c (digs V (N' - N))) (h' : SI w1 .u32 A' n' c' (digs V 100)) => (show Calls Tryz.prog 27 #[.slice A n c, .slice A' n' c'] w1 (Sh.GivesD w1 g ((N' - N) % 100)) from hg ▸ Sh.rdiv_e A A' n c n' c' (N' - N) 100 w1 h h' (by omega) (by omega)))
  have b100 : ∀ j, j ≤ 100 → (digs V j).length ≤ 65536 := fun j hj => by have := ((ten_bt (k := 2) (j := 1) (by omega)).le (show j ≤ 10 ^ 2 by omega)).len16; omega
  have HMp := Lib.hid (fun (A A' : Option Addr) (n c n' c' : Nat) (w1 : World) (h : SI w1 .u32 A n c (digs V g)) (h' : SI w1 .u32 A' n' c' (digs V p)) => Sh.rmul_e A A' n c n' c' g p w1 h h' (by omega) (b100 p hpp))
  have HAd := Lib.hid (fun (A A' : Option Addr) (n c n' c' : Nat) (w1 : World) (h : SI w1 .u32 A n c (digs V N)) (h' : SI w1 .u32 A' n' c' (digs V (g * p))) => (show Calls Tryz.prog 30 #[.slice A n c, .slice A' n' c'] w1 (Gives w1 .u32 (digs V z)) from hzz ▸ Sh.radd_e A A' n c n' c' N (g * p) w1 h h' (by omega) (by omega)))
  have HSm := Lib.hid (fun w1 => r_small 100 100 rfl (by omega) w1)
  have HSp := Lib.hid (fun (y : Int) (hy : y = (p : Nat)) w1 => r_small p y hy (by omega) w1)
  replace hE := Lib.hid hE
  replace hE' := Lib.hid hE'
  replace HO := Lib.hid HO
  replace HO' := Lib.hid HO'
  replace HT := Lib.hid HT
  replace HDe := Lib.hid HDe
  clear hp bL bL' bN bN' bg bgg bgp hzz hNN hN hN' hg bk b100 e1 e2 hk hk' kb kb'
  generalize (N' - N) % 100 = rr at *
  generalize N' - N = dN at *
  generalize g * p = gp at *
  generalize 10 ^ k = P at *
  generalize 10 ^ k' = P' at *
  go_enter Tryz.func7, Tryz.ntmps7
  go_wp2_with (first
    | (go_at_call 12; (with_reducible refine HA.out.mono ?_); rintro e w1 ⟨rfl, b1⟩)
    | (go_at_call 26; first
      | ((with_reducible refine (hE.out _ b1).mono ?_); rintro e w2 ⟨rfl, b2⟩; have z2 := on b1 b2)
      | ((with_reducible refine (hE'.out _ z2).mono ?_); rintro e w3 ⟨rfl, b3⟩; have z3 := on z2 b3)))
  obtain ⟨q1, q2, q3⟩ := bk_two w3 #[.int .i64 0, .bool false, .string S, .int .i64 x] #[.int .i64 0, .bool false, .string S', .int .i64 x'] 23 23
  have y0 := (D4.mk (w := w) q1 q2 (on z3 q3)).drew
  clear q1 q2 q3 z2 z3 b1 b2 b3 hE hE' HA d1 d2 d3 hm hu xb1 xb2 xb3 xb4
  generalize w3.heap.size = gq at *
  go_region_held3 (fun w' => w'.cell? ⟨gq, 2, none⟩ = some (.string S) ∧ w'.cell? ⟨gq, 3, none⟩ = some (.int .i64 x) ∧ w'.cell? ⟨gq + 1, 2, none⟩ = some (.string S') ∧ w'.cell? ⟨gq + 1, 3, none⟩ = some (.int .i64 x'))
    (first | (with_reducible exact y0.keep) | (with_reducible exact y1.keep) | (with_reducible exact y2.keep) | (with_reducible exact y3.keep) | (with_reducible exact y4.keep) | (with_reducible exact y5.keep) | (with_reducible exact y6.keep))
    (first
      | (go_at_call 24; first
        | (have tag := y3; (with_reducible refine (HO'.out _).mono ?_); rintro e v4 ⟨A4, n4, q4, rfl, r4, b4⟩; have y4 := y3.below b4; have r34 := r3.below b4)
        | ((with_reducible refine (HO.out _).mono ?_); rintro e v1 ⟨A1, n1, q1, rfl, r1, b1⟩; have y1 := y0.below b1))
      | (go_at_call 25; first
        | (have tag := y4; (with_reducible refine (HP'.out _).mono ?_); rintro e v5 ⟨A5, n5, q5, rfl, r5, b5⟩; have y5 := y4.below b5; have r35 := r34.below b5; have r45 := r4.below b5)
        | ((with_reducible refine (HP.out _).mono ?_); rintro e v2 ⟨A2, n2, q2, rfl, r2, b2⟩; have y2 := y1.below b2; have r12 := r1.below b2))
      | (go_at_call 23; first
        | (have tag := y5; (with_reducible refine (HMu'.out A4 A5 n4 q4 n5 q5 _ r45 r5).mono ?_); rintro e v6 ⟨A6, n6, q6, rfl, r6, b6⟩; have y6 := y5.below b6; have r36 := r35.below b6)
        | ((with_reducible refine (HMu.out A1 A2 n1 q1 n2 q2 _ r12 r2).mono ?_); rintro e v3 ⟨A3, n3, q3, rfl, r3, b3⟩; have y3 := y2.below b3)))
  all_goals
    rcases hpp2 with ⟨hn, hpe⟩ | ⟨hn, hpe⟩
    · have g1 := decide_eq_true hn
      rcases hcase with ⟨c1, ht⟩ | ⟨c1, c2, c3, ht⟩ | ⟨c1, c2, c3, ht⟩ | ⟨c1, c2, ht⟩
      all_goals
        go_wp2_with (first
          | (go_at_call 22; (with_reducible refine (HC.out A3 A6 n3 q3 n6 q6 _ r36 r6).mono ?_); rintro e w7 ⟨rfl, c7⟩; have z7 := on y6.bl c7.below; have s3 := r36.below c7.below; have s6 := r6.below c7.below)
          | (go_at_call 28; (with_reducible refine (HSu.out A6 A3 n6 q6 n3 q3 _ s6 s3).mono ?_); rintro e w8 ⟨A8, n8, q8, rfl, r8, b8⟩; have z8 := on z7 b8; have s38 := s3.below b8)
          | (go_at_call 29; first
            | (have tag := z10; (with_reducible refine (HSp.out _ ?_ _).mono ?_); (omega); rintro e w12 ⟨A12, n12, q12, rfl, r12, b12⟩; have z12 := on z10 b12; have s312 := s310.below b12; have r112 := r10.below b12)
            | ((with_reducible refine (HSm.out _).mono ?_); rintro e w9 ⟨A9, n9, q9, rfl, r9, b9⟩; have z9 := on z8 b9; have s39 := s38.below b9; have r89 := r8.below b9))
          | (go_at_call 27; (with_reducible refine (HDM.out A8 A9 n8 q8 n9 q9 _ r89 r9).mono ?_); rintro e w10 ⟨A10, n10, q10, A11, n11, q11, rfl, r10, r11, b10⟩; have z10 := on z9 b10; have s310 := s39.below b10)
          | (go_at_call 23; (with_reducible refine (HMp.out A10 A12 n10 q10 n12 q12 _ r112 r12).mono ?_); rintro e w13 ⟨A13, n13, q13, rfl, r13, b13⟩; have z13 := on z12 b13; have s313 := s312.below b13)
          | (go_at_call 30; (with_reducible refine (HAd.out A3 A13 n3 q3 n13 q13 _ s313 r13).mono ?_); rintro e w14 ⟨A14, n14, q14, rfl, r14, b14⟩; have z14 := on z13 b14)
          | (go_at_call 31; (with_reducible refine (HDe.out _ _ _ _ r14).mono ?_); rintro e w15 ⟨rfl, b15⟩; have a15 := alloc_below w15 (.cells #[.int .i64 0, .bool false, .string Z, .int .i64 ez] 23); have k15 := four (Bk.start w15 23 #[.int .i64 0, .bool false, .string Z, .int .i64 ez]); have z15 := on (on z14 b15) a15)
          | (go_at_call 11; (with_reducible refine (HT.out _).mono ?_); rintro e w16 ⟨rfl, b16⟩; have z16 := on z15 b16))
        go_ret
        exact ⟨rfl, z16⟩
    · have g1 := decide_eq_false (show ¬ pm < 0 by omega)
      rcases hcase with ⟨c1, ht⟩ | ⟨c1, c2, c3, ht⟩ | ⟨c1, c2, c3, ht⟩ | ⟨c1, c2, ht⟩
      all_goals
        go_wp2_with (first
          | (go_at_call 22; (with_reducible refine (HC.out A3 A6 n3 q3 n6 q6 _ r36 r6).mono ?_); rintro e w7 ⟨rfl, c7⟩; have z7 := on y6.bl c7.below; have s3 := r36.below c7.below; have s6 := r6.below c7.below)
          | (go_at_call 28; (with_reducible refine (HSu.out A6 A3 n6 q6 n3 q3 _ s6 s3).mono ?_); rintro e w8 ⟨A8, n8, q8, rfl, r8, b8⟩; have z8 := on z7 b8; have s38 := s3.below b8)
          | (go_at_call 29; first
            | (have tag := z10; (with_reducible refine (HSp.out _ ?_ _).mono ?_); (omega); rintro e w12 ⟨A12, n12, q12, rfl, r12, b12⟩; have z12 := on z10 b12; have s312 := s310.below b12; have r112 := r10.below b12)
            | ((with_reducible refine (HSm.out _).mono ?_); rintro e w9 ⟨A9, n9, q9, rfl, r9, b9⟩; have z9 := on z8 b9; have s39 := s38.below b9; have r89 := r8.below b9))
          | (go_at_call 27; (with_reducible refine (HDM.out A8 A9 n8 q8 n9 q9 _ r89 r9).mono ?_); rintro e w10 ⟨A10, n10, q10, A11, n11, q11, rfl, r10, r11, b10⟩; have z10 := on z9 b10; have s310 := s39.below b10)
          | (go_at_call 23; (with_reducible refine (HMp.out A10 A12 n10 q10 n12 q12 _ r112 r12).mono ?_); rintro e w13 ⟨A13, n13, q13, rfl, r13, b13⟩; have z13 := on z12 b13; have s313 := s312.below b13)
          | (go_at_call 30; (with_reducible refine (HAd.out A3 A13 n3 q3 n13 q13 _ s313 r13).mono ?_); rintro e w14 ⟨A14, n14, q14, rfl, r14, b14⟩; have z14 := on z13 b14)
          | (go_at_call 31; (with_reducible refine (HDe.out _ _ _ _ r14).mono ?_); rintro e w15 ⟨rfl, b15⟩; have a15 := alloc_below w15 (.cells #[.int .i64 0, .bool false, .string Z, .int .i64 ez] 23); have k15 := four (Bk.start w15 23 #[.int .i64 0, .bool false, .string Z, .int .i64 ez]); have z15 := on (on z14 b15) a15)
          | (go_at_call 11; (with_reducible refine (HT.out _).mono ?_); rintro e w16 ⟨rfl, b16⟩; have z16 := on z15 b16))
        go_ret
        exact ⟨rfl, z16⟩
theorem eP_small {b : Nat} (h : b < 9218868437227405312) : eP_w b = (0, false, xl b, xe b) := by
  unfold eP_w xl xe
  rw [Nat.mod_eq_of_lt (show b < 9223372036854775808 by omega), if_neg (by omega), show decide (b / 9223372036854775808 = 1) = false from decide_eq_false (by omega)]
theorem len_ten {a k : Nat} (h : a ≤ 10 ^ k) (hk : k ≤ 772) : (digs V a).length ≤ 8192 := by
  have := ((ten_bt (k := k) (j := 300) (by omega)).le h).len16
  omega
set_option exponentiation.threshold 2000 in
theorem nearestBetween_calls {wide : Nat} {at_ : Int} (hw : wide < 18446744073709551616) (w : World) (hp : Pow w) :
    Calls Tryz.prog 7 #[.int .u64 (wide : Nat), .int .i64 at_] w fun e w' => e = .returned (.bool true) ∧ Below w.heap.size w w' := by
  by_cases hb : wide < 9218868437227405311
  · obtain ⟨k, k', u, hu, hk, hk', kb, kb', u1, u2, hlt, hy, hall⟩ := between_plain hb
    have E0 := fun w1 (b : Below w.heap.size w w1) => Sh.Exact64_calls (bits := wide) hw w1 (hp.below b)
    have E1 := fun w1 (b : Below w.heap.size w w1) => Sh.Exact64_calls (bits := wide + 1) (by omega) w1 (hp.below b)
    simp only [eV_p_w] at E0 E1
    rw [eP_small (by omega)] at E0
    rw [eP_small (by omega)] at E1
    obtain ⟨p, hp100, hpart⟩ : ∃ p : Nat, p ≤ 100 ∧ ((Int.tmod at_ 101 < 0 ∧ Int.tmod at_ 101 + 101 = (p : Int)) ∨ (0 ≤ Int.tmod at_ 101 ∧ Int.tmod at_ 101 = (p : Int))) := by
      have h1 : Int.tmod at_ 101 < 101 := Int.tmod_lt_of_pos _ (by omega)
      have h2 : -101 < Int.tmod at_ 101 := by
        have := Int.tmod_lt_of_pos (-at_) (show (0 : Int) < 101 by omega)
        rw [Int.neg_tmod] at this
        omega
      by_cases h : Int.tmod at_ 101 < 0
      · exact ⟨(Int.tmod at_ 101 + 101).toNat, by omega, .inl ⟨h, by omega⟩⟩
      · exact ⟨(Int.tmod at_ 101).toNat, by omega, .inr ⟨by omega, by omega⟩⟩
    obtain ⟨zb, zm, zt⟩ := hall p hp100
    have hl0 : ∀ b, b / 2 ^ 52 < 2047 → (xl b).length ≤ 767 ∧ ∀ c ∈ xl b, isDig c := fun b h => ⟨xF_len h, cd_isDig _⟩
    have l0 := hl0 wide (by simp only [Nat.reducePow]; omega)
    have l1 := hl0 (wide + 1) (by simp only [Nat.reducePow]; omega)
    have q0 := len_ten (Nat.le_of_lt (nv_lt l0.2)) (show (xl wide).length ≤ 772 by omega)
    have q1 := len_ten (Nat.le_of_lt (nv_lt l1.2)) (show (xl (wide + 1)).length ≤ 772 by omega)
    obtain ⟨N, hN⟩ : ∃ N, N = nv 0 (xl wide) * 10 ^ k := ⟨_, rfl⟩
    obtain ⟨N', hN'⟩ : ∃ N', N' = nv 0 (xl (wide + 1)) * 10 ^ k' := ⟨_, rfl⟩
    rw [← hN, ← hN'] at hlt zb zm zt
    rw [← hN'] at hy
    obtain ⟨g, hg⟩ : ∃ g, g = (N' - N) / 100 := ⟨_, rfl⟩
    rw [← hg] at zb zm zt
    obtain ⟨z, hz⟩ : ∃ z, z = N + g * p := ⟨_, rfl⟩
    rw [← hz] at zb zm zt
    have HT := fun w1 => To64_calls (0, false, cd z, ce z u) w1 (len_p zm)
    unfold pE at HT
    simp only [zm, if_true] at HT
    have hzb : (Lib.decDigits z).length ≤ 8192 := by
      have := dec_len_le (a := z) (k := 773) (Nat.lt_of_le_of_lt zb (Nat.pow_lt_pow_right (by omega) (by omega))) (by omega)
      omega
    refine between_on ⟨(xl wide).toArray⟩ ⟨(xl (wide + 1)).toArray⟩ ⟨(cd z).toArray⟩ (xe wide) (xe (wide + 1)) u _ at_ _ (ce z u) wide p N N' k k' (nv 0 (xl wide)) (nv 0 (xl (wide + 1))) g z _ w hp hb E0 E1 (fun w1 => rof_d l0.2 (by omega) w1) (fun w1 => rof_d l1.2 (by omega) w1) HT
      (fun A a c w1 h => Sh.rdec_f false A a c z u w1 h (len_ten zb (by omega)) hzb (by omega) (by omega)) q0 q1 (len_ten (Nat.le_trans (Nat.le_of_lt hlt) hy) (by omega)) (len_ten hy (by omega)) hlt hN.symm hN'.symm hg.symm (len_ten (Nat.le_trans (Nat.sub_le _ _) hy) (by omega)) (len_ten (Nat.le_trans (Nat.le_trans (by rw [hg]; exact Nat.div_le_self _ _) (Nat.sub_le _ _)) hy) (by omega)) (len_ten (Nat.le_trans (by rw [hz]; exact Nat.le_add_left _ _) zb) (by omega)) hz.symm hp100 rfl (by omega) (by omega) (by omega) (by omega) (by omega) kb kb' rfl hpart zt
  · exact between_end wide at_ w hp (decide_eq_true (by omega))
theorem nearestBetween_row (z at_ : Int) (h0 : 0 ≤ z) (h1 : z < 18446744073709551616) (w : World) (hp : Pow w) :
    Calls Tryz.prog 7 #[.int .u64 z, .int .i64 at_] w fun e w' => e = .returned (.bool true) ∧ Below w.heap.size w w' := by
  obtain ⟨n, rfl⟩ : ∃ n : Nat, z = n := ⟨z.toNat, by omega⟩
  exact nearestBetween_calls (by omega) w hp
end Go.Proofs.YtfddokfnplehkaaGreatDoor.Nr
