/- Texts of one layer, joined: NatC, NatD, NatE, NatF, NatG, NatH, NatI, NatJ. -/
import Derived.Test.YtkanddmihmdagaaGreatDoorGB
import Derived.Deep.DeepCutAuto
import Derived.Deep.CutBlock
import Derived.Deep.RegionLaw
set_option linter.unusedVariables false
set_option linter.unusedSimpArgs false
set_option linter.unusedSectionVars false
/- Layer 1, on: products. -/
namespace Go.Proofs.YtkanddmihmdagaaGreatDoor.Nat
open Go.RowKit Go.Proofs.YtkanddmihmdagaaGreatDoor.Dig Go.Proofs.YtkanddmihmdagaaGreatDoor.W

/-- the words of a product, of a sum -/
def mlo (x y : Nat) : Nat := x * y % U
def mhi (x y : Nat) : Nat := x * y / U
def alo (x y c : Nat) : Nat := (x + y + c) % U
def ahi (x y c : Nat) : Nat := (x + y + c) / U
theorem mul64_calls (x y : Nat) (hx : x < U) (hy : y < U) (w : World) :
    Calls Tryz.prog 93 #[.int .u64 x, .int .u64 y] w fun e w' => e = .returned (.tuple #[.int .u64 (mhi x y : Nat), .int .u64 (mlo x y : Nat)]) ∧ w = w' :=
  (Tryz.bits_Mul64 x y hx hy w).mono fun _ _ ⟨a, b⟩ => ⟨a, b.symm⟩
theorem add64_words (x y c : Nat) (hc : c ≤ 1) (w : World) :
    (callFunc 94 #[.int .u64 x, .int .u64 y, .int .u64 c]).run Tryz.prog w = .ok (.value (.tuple #[.int .u64 (alo x y c : Nat), .int .u64 (ahi x y c : Nat)])) w := add64_run x y c hc w
theorem add64_zero (x y : Nat) (w : World) :
    (callFunc 94 #[.int .u64 x, .int .u64 y, .int .u64 0]).run Tryz.prog w = .ok (.value (.tuple #[.int .u64 (alo x y 0 : Nat), .int .u64 (ahi x y 0 : Nat)])) w := add64_run x y 0 (by omega) w
theorem alo_lt (x y c : Nat) : alo x y c < U := Nat.mod_lt _ U_pos
theorem split_U (x : Nat) : x % U + U * (x / U) = x := Nat.mod_add_div x U
/-- one limb times one limb, and two limbs more -/
theorem mul_step {x y cy o : Nat} (hx : x < U) (hy : y < U) (hc : cy < U) (ho : o < U) :
    alo (alo (mlo x y) cy 0) o 0 + U * (mhi x y + ahi (mlo x y) cy 0 + ahi (alo (mlo x y) cy 0) o 0) = x * y + cy + o ∧ mhi x y + ahi (mlo x y) cy 0 + ahi (alo (mlo x y) cy 0) o 0 < U := by
  have e1 := split_U (x * y)
  have e2 := split_U (mlo x y + cy + 0)
  have e3 := split_U (alo (mlo x y) cy 0 + o + 0)
  have key : alo (alo (mlo x y) cy 0) o 0 + U * (mhi x y + ahi (mlo x y) cy 0 + ahi (alo (mlo x y) cy 0) o 0) = x * y + cy + o := by
    rw [Nat.mul_add, Nat.mul_add]
    unfold mhi ahi alo mlo at *
    omega
  refine ⟨key, ?_⟩
  have h1 : x * y ≤ (U - 1) * (U - 1) := Nat.mul_le_mul (by omega) (by omega)
  have hU : (U - 1) * (U - 1) + (U - 1) + (U - 1) < U * U := by unfold U; decide
  have h2 : U * (mhi x y + ahi (mlo x y) cy 0 + ahi (alo (mlo x y) cy 0) o 0) < U * U := by omega
  exact Nat.lt_of_mul_lt_mul_left h2

/-- what holds of the row behind some limbs of a -/
structure MulO (l l' out : List Nat) (N j : Nat) : Prop where
  len : out.length = N
  lt : Lt U out
  val : val U out = pv U l j * val U l'
  top : ∀ p, j + l'.length ≤ p → rd out p = 0
/-- and behind some limbs of b, too -/
structure MulI (l l' out : List Nat) (N j k cy : Nat) : Prop where
  len : out.length = N
  lt : Lt U out
  cyl : cy < U
  val : val U out + U ^ (j + k) * cy = pv U l j * val U l' + U ^ j * (rd l j * pv U l' k)
  top : ∀ p, j + l'.length ≤ p → rd out p = 0
theorem MulO.start (l l' : List Nat) (N : Nat) : MulO l l' (List.replicate N 0) N 0 :=
  ⟨List.length_replicate, replicate_lt U_pos N, by rw [val_replicate_zero]; simp [pv], fun p _ => rd_replicate N p⟩
theorem MulO.enter {l l' out : List Nat} {N j : Nat} (h : MulO l l' out N j) : MulI l l' out N j 0 0 :=
  ⟨h.len, h.lt, U_pos, by rw [h.val]; simp [pv], h.top⟩
theorem mul_val {B J K V a b o c X Y P x y z : Nat} (h : V + B * c = a + J * (x * P)) (hB : B = J * K) (hs : z + B * o = V + B * X) (hstep : X + Y * b = x * y + c + o) :
    z + B * Y * b = a + J * (x * (P + K * y)) := by
  have e1 : B * Y * b = B * (Y * b) := Nat.mul_assoc ..
  have e2 : J * (x * (P + K * y)) = J * (x * P) + B * (x * y) := by
    rw [hB, Nat.mul_add, Nat.mul_add, ← Nat.mul_assoc x K y, Nat.mul_comm x K, Nat.mul_assoc K x y, ← Nat.mul_assoc J K]
  have e3 : B * (X + Y * b) = B * (x * y + c + o) := by rw [hstep]
  rw [Nat.mul_add, Nat.mul_add, Nat.mul_add] at e3
  omega
theorem MulI.round {l l' out : List Nat} {N j k cy : Nat} (h : MulI l l' out N j k cy) (hl : Lt U l) (hl' : Lt U l') (hk : k < l'.length) (hN : j + l'.length ≤ N) :
    MulI l l' (out.set (j + k) (alo (alo (mlo (rd l j) (rd l' k)) cy 0) (rd out (j + k)) 0)) N j (k + 1) (mhi (rd l j) (rd l' k) + ahi (mlo (rd l j) (rd l' k)) cy 0 + ahi (alo (mlo (rd l j) (rd l' k)) cy 0) (rd out (j + k)) 0) := by
  have hs := mul_step (rd_lt hl U_pos j) (rd_lt hl' U_pos k) h.cyl (rd_lt h.lt U_pos (j + k))
  have hlen : j + k < out.length := by rw [h.len]; omega
  refine ⟨by rw [List.length_set, h.len], set_lt h.lt (alo_lt _ _ _), hs.2, ?_, fun p hp => ?_⟩
  · have hv := val_set U hlen (alo (alo (mlo (rd l j) (rd l' k)) cy 0) (rd out (j + k)) 0)
    have := mul_val (Y := U) h.val (Nat.pow_add U j k) hv hs.1
    rw [← Nat.add_assoc j k 1, Nat.pow_succ U (j + k), pv]
    exact this
  · rw [rd_set hlen, if_neg (by omega)]
    exact h.top p hp
theorem MulI.leave {l l' out : List Nat} {N j cy : Nat} (h : MulI l l' out N j l'.length cy) (hN : j + l'.length < N) : MulO l l' (out.set (j + l'.length) cy) N (j + 1) := by
  have hlen : j + l'.length < out.length := by rw [h.len]; omega
  refine ⟨by rw [List.length_set, h.len], set_lt h.lt h.cyl, ?_, fun p hp => ?_⟩
  · have hv := val_set U hlen cy
    rw [h.top _ (Nat.le_refl _), Nat.mul_zero, Nat.add_zero, h.val, pv_all U (Nat.le_refl _)] at hv
    rw [hv, pv, Nat.add_mul, Nat.mul_assoc]
  · rw [rd_set hlen, if_neg (by omega)]
    exact h.top p (by omega)
theorem MulI.bounds {l l' out : List Nat} {N j k cy : Nat} (h : MulI l l' out N j k cy) (hl : Lt U l) (hl' : Lt U l') : mhi (rd l j) (rd l' k) + ahi (mlo (rd l j) (rd l' k)) cy 0 + ahi (alo (mlo (rd l j) (rd l' k)) cy 0) (rd out (j + k)) 0 ≤ 18446744073709551615 := by
  have hs := (mul_step (rd_lt hl U_pos j) (rd_lt hl' U_pos k) h.cyl (rd_lt h.lt U_pos (j + k))).2
  exact Nat.le_of_lt_succ hs

set_option maxHeartbeats 1600000 in
theorem mul_calls (A A' : Option Addr) (n c n' c' : Nat) (l l' : List Nat) (w : World) (h : SI w .u64 A n c l) (h' : SI w .u64 A' n' c' l') (hl : Lt U l) (hl' : Lt U l') (hn : n ≤ 1099511627776) (hn' : n' ≤ 1099511627776) :
    Calls Tryz.prog 52 #[.slice A n c, .slice A' n' c'] w (GivesOwn w 88 .u64 (digs U (val U l * val U l'))) := by
  have hL := Lib.hid h.len
  have hL' := Lib.hid h'.len
  go_enter Tryz.func52, Tryz.ntmps52
  go_wp2_with (first
    | (at_make; refine wpList_make_nums _ rfl (.tmp 18) (.tmp 18) 62 rfl w.heap.size 88 .u64 8 Tryz.underlying62 info22 .i64 .i64 _ _ (n + n') rfl rfl (by simp) (by simp) (by omega) (by omega) (Nat.le_refl _) ?_; intro w1 hown1 hg1))
  have hb1 := grown_below hg1
  go_loopw [22] (fun i wr => ∃ (j : Nat) (out : List Nat), i = .int .i64 (j : Nat) ∧ j ≤ n ∧ MulO l l' out (n + n') j ∧ Ow wr w.heap.size 88 .u64 (.slice (some ⟨w.heap.size, 0, none⟩) (n + n') (n + n')) out ∧ Below w.heap.size w wr) (fun i _ => n - (intOf i).toNat)
  case atStart => exact ⟨0, _, rfl, Nat.zero_le _, MulO.start l l' _, hown1, hb1⟩
  case round =>
    obtain ⟨j, out, rfl, hj, hM, hown, hb⟩ := hrel
    clear hown1 hg1 hb1
    by_cases hlt : j < n
    · obtain ⟨b, o, rfl, h1⟩ := (h.below hb).at_ hlt
      go_wp2
      obtain ⟨wo, rfl⟩ : ∃ wo : World, wo = wr := ⟨_, rfl⟩
      go_loopw [8, 29] (fun cv i wr => ∃ (k cy : Nat) (out : List Nat), i = .int .i64 (k : Nat) ∧ cv = .int .u64 (cy : Nat) ∧ k ≤ n' ∧ MulI l l' out (n + n') j k cy ∧ Ow wr w.heap.size 88 .u64 (.slice (some ⟨w.heap.size, 0, none⟩) (n + n') (n + n')) out ∧ Below w.heap.size w wr) (fun _ i _ => n' - (intOf i).toNat)
      case atStart => exact ⟨0, 0, out, rfl, rfl, Nat.zero_le _, hM.enter, hown, hb⟩
      case round =>
        clear hown h1 hM hb
        obtain ⟨k, cy, out, rfl, rfl, hk, hM, hown, hb⟩ := hrel
        by_cases hlt' : k < n'
        · obtain ⟨b', o', rfl, h1⟩ := (h'.below hb).at_ hlt'
          have hc := hown.cellAt (j := j + k) (by omega)
          have hf := hown.frozenAt (j + k)
          have hmul := mul64_calls (rd l j) (rd l' k) (rd_lt hl U_pos j) (rd_lt hl' U_pos k)
          have ha1 := add64_zero (mlo (rd l j) (rd l' k)) cy
          have ha2 := add64_zero (alo (mlo (rd l j) (rd l' k)) cy 0) (rd out (j + k))
          have hbd := hM.bounds hl hl'
          have hround := hM.round hl hl' (by rw [hL'.out]; exact hlt') (by rw [hL'.out]; omega)
          generalize hx : mhi (rd l j) (rd l' k) = x1 at *
          generalize hy : mlo (rd l j) (rd l' k) = x2 at *
          generalize hz : ahi x2 cy 0 = x3 at *
          generalize hu : alo x2 cy 0 = x4 at *
          generalize hv : ahi x4 (rd out (j + k)) 0 = x5 at *
          generalize ht : alo x4 (rd out (j + k)) 0 = x6 at *
          clear hx hy hz hu hv ht
          go_wp2_with (first
            | (go_at_call 93; refine (hmul _).mono ?_; rintro e w' ⟨rfl, rfl⟩)
            | (simp only [ha1])
            | (simp only [ha2]))
          go_roundw
          case rel => exact ⟨k + 1, x1 + x3 + x5, _, by go_num, by go_num, by omega, hround, hown.store _ _, hb.setCell (by simp) _⟩
          case measure => simp [intOf]; omega
        · obtain rfl : k = n' := by omega
          have hM' : MulI l l' out (n + k) j l'.length cy := by rw [hL'.out]; exact hM
          have hleave := hM'.leave (by rw [hL'.out]; omega)
          rw [hL'.out] at hleave
          have hc := hown.cellAt (j := j + k) (by omega)
          have hf := hown.frozenAt (j + k)
          go_wp2
          go_roundw
          case rel => exact ⟨j + 1, _, by go_num, by omega, hleave, hown.store _ _, hb.setCell (by simp) _⟩
          case measure => simp [intOf]; omega
    · obtain rfl : j = n := by omega
      obtain ⟨Ao, co, hv, hro⟩ := hown.reads
      injection hv with hA hl0 hc0
      subst hA; subst hc0
      rw [← hl0] at hro
      have hfin : val U out = val U l * val U l' := by rw [hM.val, pv_all U (by rw [hL.out]; exact Nat.le_refl _)]
      have hlen := hM.len
      have hout := own_trim (c := j + n') (A := some ⟨w.heap.size, 0, none⟩) (out := out) (by rw [hlen]; exact hown) hM.lt hfin
      rw [hlen] at hout
      clear hlen hfin hl0
      go_wp2_with (first
        | (go_at_call 95; refine (trim_calls _ _ _ out _ hro).mono ?_; rintro e w' ⟨rfl, rfl⟩))
      go_ret
      exact ⟨_, rfl, hout, hb⟩
end Go.Proofs.YtkanddmihmdagaaGreatDoor.Nat

/- Layer 1, on: bits and shifts. -/
namespace Go.Proofs.YtkanddmihmdagaaGreatDoor.Nat
open Go.RowKit Go.Proofs.YtkanddmihmdagaaGreatDoor.Dig Go.Proofs.YtkanddmihmdagaaGreatDoor.W

theorem bits_rec (x : Nat) : nbits x = if x = 0 then 0 else 1 + nbits (x / 2) := by
  unfold nbits
  by_cases h : x = 0
  · subst h; rw [digs_zero]; rfl
  · rw [if_neg h, digs_pos (by omega) h, List.length_cons, Nat.add_comm]
theorem bitLenAux_bits : ∀ (f x : Nat), x < 2 ^ f → Lib.bitLenAux f x = nbits x
  | 0, x, h => by
    obtain rfl : x = 0 := by simpa using h
    rw [bits_zero]; rfl
  | f + 1, x, h => by
    rw [bits_rec x, Lib.bitLenAux, bitLenAux_bits f (x / 2) (by rw [Nat.pow_succ] at h; omega)]
theorem bitLen_bits {x : Nat} (h : x < U) : Lib.bitLen x = nbits x := bitLenAux_bits 64 x h
theorem len64_calls (x : Nat) (h : x < U) (w : World) : Calls Tryz.prog 117 #[.int .u64 (x : Nat)] w fun e w' => e = .returned (.int .i64 (nbits x : Nat)) ∧ w = w' := by
  refine (Tryz.bits_Len64 (x : Int) w (by omega) (by unfold U at h; omega)).mono fun _ _ ⟨a, b⟩ => ⟨?_, b.symm⟩
  rw [a, Int.toNat_natCast, bitLen_bits h]
theorem lz64_calls (x : Nat) (h : x < U) (w : World) : Calls Tryz.prog 120 #[.int .u64 (x : Nat)] w fun e w' => e = .returned (.int .i64 ((64 - nbits x : Nat) : Nat)) ∧ w = w' := by
  have hb : nbits x ≤ 64 := (bits_le x 64).2 h
  refine (Tryz.bits_LeadingZeros64 (x : Int) w (by omega) (by unfold U at h; omega)).mono fun _ _ ⟨a, b⟩ => ⟨?_, b.symm⟩
  rw [a, Int.toNat_natCast, bitLen_bits h]
  congr 2
  omega

set_option maxHeartbeats 400000 in
theorem bits_calls (A : Option Addr) (n c : Nat) (l : List Nat) (w : World) (h : SI w .u64 A n c l) (hl : Lt U l) (hn : n ≤ 1099511627776) :
    Calls Tryz.prog 80 #[.slice A n c] w fun e w' => e = .returned (.int .i64 (nbits (val U l) : Nat)) ∧ w = w' := by
  have ht := trim_reads h hl
  have T := trim_calls A n c l w h
  have hcap := Sl.cap ht
  have hle := Sl.le ht
  have hL := ht.len
  have hmn := trimN_le l n
  generalize trimN l n = m at *
  generalize val U l = a at *
  clear h hl
  cases m with
  | zero =>
    have ha := (digs_length_eq_zero U_two).1 hL
    subst ha
    rw [bits_zero]
    clear hL
    go_enter Tryz.func80, Tryz.ntmps80
    go_wp2_with (first
      | (go_at_call 95; refine T.mono ?_; rintro e w' ⟨rfl, rfl⟩))
    go_ret
    exact ⟨rfl, rfl⟩
  | succ m =>
    have ha : a ≠ 0 := fun e => by rw [e, digs_zero] at hL; cases hL
    have hb := bits_top (k := 64) (by omega) ha
    have e64 : digs (2 ^ 64) a = digs U a := rfl
    rw [e64, hL, Nat.add_sub_cancel] at hb
    have hr : rd (digs U a) m < U := rd_lt (digs_lt U_two a) U_pos m
    have hc := len64_calls (rd (digs U a) m) hr
    have hbl : nbits (rd (digs U a) m) ≤ 64 := (bits_le _ 64).2 hr
    rw [hb]
    obtain ⟨b, o, rfl, h1⟩ := ht.at_ (j := m) (by omega)
    generalize nbits (rd (digs U a) m) = q at *
    clear hL hb e64 ha hr
    go_enter Tryz.func80, Tryz.ntmps80
    go_wp2_with (first
      | (go_at_call 95; refine T.mono ?_; rintro e w' ⟨rfl, rfl⟩)
      | (go_at_call 117; refine (hc _).mono ?_; rintro e w' ⟨rfl, rfl⟩))
    go_ret
    exact ⟨by simp, rfl⟩

/-- a limb shifted up: what stays, with what is carried in; what is carried out -/
def shlo (x s cy : Nat) : Nat := 2 ^ s * (x % 2 ^ (64 - s)) + cy
def shhi (x s : Nat) : Nat := x / 2 ^ (64 - s)
theorem U_split {s : Nat} (hs : s ≤ 63) : U = 2 ^ s * 2 ^ (64 - s) := by
  rw [← Nat.pow_add, show s + (64 - s) = 64 by omega]; rfl
theorem shl_val {x s : Nat} (hs : s ≤ 63) (cy : Nat) : shlo x s cy + U * shhi x s = x * 2 ^ s + cy := by
  unfold shlo shhi
  rw [U_split hs, Nat.mul_assoc]
  have e := Nat.mod_add_div x (2 ^ (64 - s))
  have := congrArg (fun z => 2 ^ s * z) e
  simp only [Nat.mul_add] at this
  rw [Nat.mul_comm x]
  omega
theorem shlo_lt {x s cy : Nat} (hs : s ≤ 63) (hc : cy < 2 ^ s) : shlo x s cy < U := by
  unfold shlo
  rw [U_split hs]
  have h1 : x % 2 ^ (64 - s) < 2 ^ (64 - s) := Nat.mod_lt _ (Nat.pow_pos (by omega))
  have h2 : 2 ^ s * (x % 2 ^ (64 - s) + 1) ≤ 2 ^ s * 2 ^ (64 - s) := Nat.mul_le_mul_left _ h1
  rw [Nat.mul_add] at h2
  omega
theorem shhi_lt {x s : Nat} (hs : s ≤ 63) (hx : x < U) : shhi x s < 2 ^ s := by
  unfold shhi
  rw [Nat.div_lt_iff_lt_mul (Nat.pow_pos (by omega)), ← U_split hs]
  exact hx
theorem wrap_shl {x s : Nat} (hs : s ≤ 63) : IntKind.u64.wrap ((x : Int) * 2 ^ s) = ((2 ^ s * (x % 2 ^ (64 - s)) : Nat) : Int) := by
  have e : (x : Int) * 2 ^ s = ((2 ^ s * x : Nat) : Int) := by rw [Int.natCast_mul, Int.mul_comm]; norm_cast
  rw [e, IntKind.wrap_u64, ← Nat.mul_mod_mul_left, ← U_split hs]
  unfold U; omega
theorem or_shl {x s cy : Nat} (hs : s ≤ 63) (hc : cy < 2 ^ s) : Go.bits .or .u64 (IntKind.u64.wrap ((x : Int) * 2 ^ s)) (cy : Int) = (shlo x s cy : Nat) := by
  rw [wrap_shl hs]
  have h1 := shlo_lt (x := x) hs hc
  unfold shlo at h1 ⊢
  rw [bits_or_u64_nat _ _ (by unfold U at h1; omega) (by unfold U at h1; omega), Nat.two_pow_add_eq_or_of_lt hc]
theorem shr_shl {x s : Nat} (hs : s ≤ 63) : x / 2 / 2 ^ (63 - s) = shhi x s := by
  unfold shhi
  rw [Nat.div_div_eq_div_mul, show 64 - s = 63 - s + 1 by omega, Nat.pow_succ, Nat.mul_comm]

theorem shl_round {l : List Nat} {j s q o cy : Nat} (hs : s ≤ 63) (h : o + U ^ (q + j) * cy = U ^ q * (2 ^ s * pv U l j)) :
    o + U ^ (q + j) * shlo (rd l j) s cy + U ^ (q + (j + 1)) * shhi (rd l j) s = U ^ q * (2 ^ s * pv U l (j + 1)) := by
  have e := shl_val (x := rd l j) hs cy
  have := congrArg (fun z => U ^ (q + j) * z) e
  simp only [Nat.mul_add] at this
  rw [← Nat.add_assoc, Nat.pow_succ, pv, Nat.mul_add, Nat.mul_add, ← h, Nat.mul_assoc, Nat.add_assoc, this, Nat.pow_add, Nat.mul_assoc (U ^ q), Nat.mul_comm (2 ^ s), Nat.mul_assoc (U ^ j)]
  omega
theorem own_trim_n {w : World} {base : Nat} {e : TypeId} {A : Option Addr} {n c v : Nat} {out : List Nat} (h : Ow w base e .u64 (.slice A n c) out) (hl : Lt U out) (hv : val U out = v) : Ow w base e .u64 (.slice A (trimN out n) c) (digs U v) := by
  have hn := h.len_
  subst hn
  exact own_trim h hl hv
theorem shl_done {l : List Nat} {j k o cy : Nat} (hL : l.length = j) (h : o + U ^ (k / 64 + j) * cy = U ^ (k / 64) * (2 ^ (k % 64) * pv U l j)) : o + U ^ (k / 64 + j) * cy = val U l * 2 ^ k := by
  rw [h, pv_all U (by omega), ← Nat.mul_assoc, Nat.mul_comm]
  congr 1
  rw [U_pow, ← Nat.pow_mul, ← Nat.pow_add, Nat.div_add_mod]
theorem shl_err (A : Option Addr) (n c : Nat) (k : Int) (w : World) (hk : k < 0 ∨ 65536 < k) :
    Calls Tryz.prog 121 #[.slice A n c, .int .i64 k] w fun e w' => e = .returned (.tuple #[.slice none 0 0, .int .i64 12]) ∧ w = w' := by
  rcases hk with hk | hk
  all_goals
    go_enter Tryz.func121, Tryz.ntmps121
    go_wp2
    go_ret2
    exact ⟨rfl, rfl⟩
theorem shl_calls (A : Option Addr) (n c : Nat) (l : List Nat) (k : Nat) (w : World) (h : SI w .u64 A n c l) (hl : Lt U l) (hn : n ≤ 1099511627776) (hk : k ≤ 65536) :
    Calls Tryz.prog 121 #[.slice A n c, .int .i64 (k : Nat)] w (GivesOwn2 w 88 .u64 (digs U (val U l * 2 ^ k))) := by
  have hL := Lib.hid h.len
  go_enter Tryz.func121, Tryz.ntmps121
  have hq : k / 64 ≤ 1024 := by omega
  go_wp2_with (first
    | (at_make; go_loud (refine wpList_make_nums_cap _ rfl (.tmp 17) (.tmp 23) 62 rfl w.heap.size 88 .u64 8 Tryz.underlying62 info22 .i64 .i64 _ _ (k / 64) (k / 64 + n + 1) rfl rfl (by simp) (by simp) (by omega) (by omega) (by omega) (Nat.le_refl _) ?_); intro w1 hown1 hg1))
  have hb1 := grown_below hg1
  go_loopw [6, 7, 27] (fun v cv i wr => ∃ (j cy : Nat) (out : List Nat), i = .int .i64 (j : Nat) ∧ cv = .int .u64 (cy : Nat) ∧ j ≤ n ∧ Hid (out.length = k / 64 + j) ∧ Lt U out ∧ Hid (val U out + U ^ (k / 64 + j) * cy = U ^ (k / 64) * (2 ^ (k % 64) * pv U l j)) ∧ cy < 2 ^ (k % 64) ∧ Ow wr w.heap.size 88 .u64 v out ∧ Below w.heap.size w wr) (fun _ _ i _ => n - (intOf i).toNat)
  case atStart => exact ⟨0, 0, _, rfl, rfl, Nat.zero_le _, List.length_replicate, replicate_lt U_pos _, by unfold Hid; rw [val_replicate_zero]; simp [pv], Nat.pow_pos (by omega), hown1, hb1⟩
  case round =>
    obtain ⟨j, cy, out, rfl, rfl, hj, HO, HLt, HI, hcy, hown, hb⟩ := hrel
    clear hown1 hg1 hb1
    by_cases hlt : j < n
    · obtain ⟨b, o, rfl, h1⟩ := (h.below hb).at_ hlt
      have hx : rd l j < U := rd_lt hl U_pos j
      have hs : k % 64 ≤ 63 := by omega
      obtain ⟨x, hxx⟩ : ∃ x, rd l j = x := ⟨_, rfl⟩
      rw [hxx] at hx h1
      have hor := or_shl (x := x) hs hcy
      have hlo := shlo_lt (x := x) hs hcy
      have hround := by simpa only [hxx] using shl_round (l := l) (j := j) (q := k / 64) hs HI.out
      have hhi := shhi_lt hs hx
      clear hcy
      go_wp2_with (at_builtin; refine wpList_append_nums _ rfl (.tmp 31) (.tmp 38) 62 rfl w.heap.size 88 .u64 8 Tryz.underlying62 info22 _ out rfl (hown.alloc _) _ 1 1 [shlo x (k % 64) cy] rfl (lit_one _ _) (by have := HO.out; omega) (by omega) (by have := hb.size; simp; omega) ?_; intro v1 w1 hown1 hg1)
      clear hxx
      go_roundw
      case rel => exact ⟨j + 1, shhi x (k % 64), _, by go_num, by rw [← shr_shl hs]; simp, by omega, by unfold Hid; rw [List.length_append, HO.out]; rfl, snoc_lt HLt hlo, by unfold Hid; rw [val_snoc, HO.out]; exact hround, hhi, hown1, (hb.alloc hb.size _).grown hg1 (by have := hb.size; simp; omega) hown.base_⟩
      case measure => simp [intOf]; omega
    · obtain rfl : j = n := by omega
      have hcU : cy < U := Nat.lt_of_lt_of_le hcy (Nat.pow_le_pow_right (n := 2) (by omega) (show k % 64 ≤ 64 by omega))
      have hfin : val U (out ++ [cy]) = val U l * 2 ^ k := by rw [val_snoc, HO.out]; exact shl_done hL.out HI.out
      have HF := Lib.hid hfin
      clear hfin hcy
      go_wp2_with (first
        | (at_builtin; refine wpList_append_nums _ rfl (.tmp 47) (.tmp 49) 62 rfl w.heap.size 88 .u64 8 Tryz.underlying62 info22 _ out rfl (hown.alloc _) _ 1 1 [cy] rfl (lit_one _ _) (by have := HO.out; omega) (by omega) (by have := hb.size; simp; omega) ?_; intro v1 w1 hown1 hg1; obtain ⟨Ao, no, co, rfl, hro⟩ := hown1.reads_n)
        | (go_at_call 95; refine (trim_calls _ _ _ _ _ hro).mono ?_; rintro e w' ⟨rfl, rfl⟩))
      go_ret2
      exact ⟨_, rfl, own_trim_n hown1 (snoc_lt HLt hcU) HF.out, (hb.alloc hb.size _).grown hg1 (by have := hb.size; simp; omega) hown.base_⟩
/-- a limb shifted down, with what comes from above -/
def shro (x y s : Nat) : Nat := 2 ^ (64 - s) * (y % 2 ^ s) + x / 2 ^ s
theorem shro_lt {x y s : Nat} (hs : s ≤ 63) (hx : x < U) : shro x y s < U := by
  unfold shro
  have hU := U_split hs
  have h1 : y % 2 ^ s < 2 ^ s := Nat.mod_lt _ (Nat.pow_pos (by omega))
  have h2 : 2 ^ (64 - s) * (y % 2 ^ s + 1) ≤ 2 ^ (64 - s) * 2 ^ s := Nat.mul_le_mul_left _ h1
  have h3 : x / 2 ^ s < 2 ^ (64 - s) := by rw [Nat.div_lt_iff_lt_mul (Nat.pow_pos (by omega)), Nat.mul_comm, ← hU]; exact hx
  rw [Nat.mul_add, Nat.mul_comm (2 ^ (64 - s)) (2 ^ s), ← hU] at h2
  rw [Nat.mul_one] at h2
  omega
theorem wrap_shr {y s : Nat} (hs : s ≤ 63) : IntKind.u64.wrap (IntKind.u64.wrap ((y : Int) * 2) * 2 ^ (63 - s)) = ((2 ^ (64 - s) * (y % 2 ^ s) : Nat) : Int) := by
  have e1 : IntKind.u64.wrap ((y : Int) * 2) = ((y * 2 % U : Nat) : Int) := by rw [IntKind.wrap_u64]; unfold U; omega
  have e : ((y * 2 % U : Nat) : Int) * 2 ^ (63 - s) = ((y * 2 % U * 2 ^ (63 - s) : Nat) : Int) := by rw [Int.natCast_mul]; norm_cast
  rw [e1, e, IntKind.wrap_u64]
  have e2 : y * 2 % U * 2 ^ (63 - s) % U = 2 ^ (64 - s) * (y % 2 ^ s) := by
    rw [Nat.mod_mul_mod, Nat.mul_assoc, ← Nat.pow_succ', show (63 - s).succ = 64 - s by omega, U_split hs, Nat.mul_comm (2 ^ s), Nat.mul_comm y, Nat.mul_mod_mul_left]
  rw [← e2]
  unfold U; omega
theorem or_shr {x y s : Nat} (hs : s ≤ 63) (hx : x < U) : Go.bits .or .u64 ((x : Int) / 2 ^ s) (IntKind.u64.wrap (IntKind.u64.wrap ((y : Int) * 2) * 2 ^ (63 - s))) = (shro x y s : Nat) := by
  have h1 := shro_lt (y := y) hs hx
  have hU := U_split hs
  have h3 : x / 2 ^ s < 2 ^ (64 - s) := by rw [Nat.div_lt_iff_lt_mul (Nat.pow_pos (by omega)), Nat.mul_comm, ← hU]; exact hx
  rw [wrap_shr hs]
  have e : (x : Int) / 2 ^ s = ((x / 2 ^ s : Nat) : Int) := by norm_cast
  unfold shro at h1 ⊢
  have a1 : x / 2 ^ s < U := Nat.lt_of_le_of_lt (Nat.le_add_left _ _) h1
  have a2 : 2 ^ (64 - s) * (y % 2 ^ s) < U := Nat.lt_of_le_of_lt (Nat.le_add_right _ _) h1
  rw [e, bits_or_u64_nat _ _ a1 a2, Nat.two_pow_add_eq_or_of_lt h3, Nat.or_comm]
theorem val_drop {l : List Nat} (hl : Lt U l) (q : Nat) : val U (l.drop q) = val U l / U ^ q := by
  rcases Nat.lt_or_ge q l.length with h | h
  · have e := val_take_drop U l q (by omega)
    have h1 := val_lt U_pos (take_lt hl q)
    rw [List.length_take, Nat.min_eq_left (by omega)] at h1
    rw [e, Nat.add_mul_div_left _ _ (Nat.pow_pos U_pos), Nat.div_eq_of_lt h1, Nat.zero_add]
  · rw [List.drop_eq_nil_of_le h]
    have h1 := val_lt U_pos hl
    have h2 : U ^ l.length ≤ U ^ q := Nat.pow_le_pow_right U_pos h
    rw [Nat.div_eq_of_lt (Nat.lt_of_lt_of_le h1 h2)]; rfl
theorem shr_step {x r s : Nat} (hs : s ≤ 63) : (x + U * r) / 2 ^ s = shro x (r % U) s + U * (r / 2 ^ s) := by
  have hU := U_split hs
  have hp : 0 < 2 ^ s := Nat.pow_pos (by omega)
  unfold shro
  have e0 : x + U * r = x + 2 ^ s * (2 ^ (64 - s) * r) := by rw [hU, Nat.mul_assoc]
  have e1 : r % U % 2 ^ s = r % 2 ^ s := by rw [hU, Nat.mod_mul_right_mod]
  have e2 : 2 ^ (64 - s) * r = 2 ^ (64 - s) * (r % 2 ^ s) + U * (r / 2 ^ s) := by
    have := congrArg (fun z => 2 ^ (64 - s) * z) (Nat.mod_add_div r (2 ^ s))
    simp only [Nat.mul_add] at this
    rw [← Nat.mul_assoc, Nat.mul_comm (2 ^ (64 - s)) (2 ^ s), ← hU] at this
    exact this.symm
  rw [e0, Nat.add_mul_div_left _ _ hp, e1, e2]
  omega
theorem shr_err (A : Option Addr) (n c : Nat) (k : Int) (w : World) (hk : k < 0) :
    Calls Tryz.prog 123 #[.slice A n c, .int .i64 k] w fun e w' => e = .returned (.tuple #[.slice none 0 0, .int .i64 12]) ∧ w = w' := by
  go_enter Tryz.func123, Tryz.ntmps123
  go_wp2
  go_ret2
  exact ⟨rfl, rfl⟩
/-- what holds behind limbs down to place i -/
structure ShrI (l out : List Nat) (q s i : Nat) : Prop where
  len : out.length + q = i
  lt : Lt U out
  vl : val U out + U ^ out.length * (val U (l.drop i) / 2 ^ s) = val U (l.drop q) / 2 ^ s
theorem ShrI.start (l : List Nat) (q s : Nat) : ShrI l [] q s q := ⟨by simp, Lt_nil _, by simp [Dig.val]⟩
theorem ShrI.round {l out : List Nat} {q s i : Nat} (h : ShrI l out q s i) (hs : s ≤ 63) (hl : Lt U l) (hi : i < l.length) : ShrI l (out ++ [shro (rd l i) (rd l (i + 1)) s]) q s (i + 1) := by
  refine ⟨by rw [List.length_append, List.length_singleton]; have := h.len; omega, snoc_lt h.lt (shro_lt hs (rd_lt hl U_pos i)), ?_⟩
  have e1 : val U (l.drop i) = rd l i + U * val U (l.drop (i + 1)) := by rw [drop_rd hi, val_cons]
  have e2 : val U (l.drop (i + 1)) % U = rd l (i + 1) := by
    rcases Nat.lt_or_ge (i + 1) l.length with z | z
    · rw [drop_rd z, val_cons, Nat.add_mul_mod_self_left, Nat.mod_eq_of_lt (rd_lt hl U_pos _)]
    · rw [List.drop_eq_nil_of_le z, rd_ge z]; simp [Dig.val]
  have e3 := shr_step (x := rd l i) (r := val U (l.drop (i + 1))) hs
  rw [← e1, e2] at e3
  have hv := h.vl
  rw [e3, Nat.mul_add, ← Nat.mul_assoc, ← Nat.pow_succ] at hv
  rw [val_snoc, List.length_append, List.length_singleton, Nat.add_assoc]
  exact hv
theorem ShrI.done {l out : List Nat} {k i : Nat} (h : ShrI l out (k / 64) (k % 64) i) (hl : Lt U l) (hi : l.length ≤ i) : val U out = val U l / 2 ^ k := by
  have hv := h.vl
  rw [List.drop_eq_nil_of_le hi, val_nil, Nat.zero_div, Nat.mul_zero, Nat.add_zero, val_drop hl, Nat.div_div_eq_div_mul] at hv
  rw [hv]
  congr 1
  rw [U_pow, ← Nat.pow_mul, ← Nat.pow_add, Nat.div_add_mod]

set_option maxHeartbeats 800000 in
set_option maxRecDepth 100000 in
theorem shr_calls (A : Option Addr) (n c : Nat) (l : List Nat) (k : Nat) (w : World) (h : SI w .u64 A n c l) (hl : Lt U l) (hn : n ≤ 1099511627776) (hk : k ≤ 9223372036854775807) :
    Calls Tryz.prog 123 #[.slice A n c, .int .i64 (k : Nat)] w (GivesOwn2 w 88 .u64 (digs U (val U l / 2 ^ k))) := by
  have hL := Lib.hid h.len
  have hq : k / 64 ≤ 144115188075855872 := by omega
  go_enter Tryz.func123, Tryz.ntmps123
  go_wp2
  go_loopw [6, 7] (fun v i wr => ∃ (j : Nat) (out : List Nat), i = .int .i64 (j : Nat) ∧ Hid (j ≤ n ∨ j = k / 64) ∧ ShrI l out (k / 64) (k % 64) j ∧ Ow wr w.heap.size 88 .u64 v out ∧ Below w.heap.size w wr) (fun _ i _ => n - (intOf i).toNat)
  case atStart => exact ⟨k / 64, [], by go_num, .inr rfl, ShrI.start l _ _, Ow.nil _ _ _ _, Below.refl _ _⟩
  case round =>
    obtain ⟨j, out, rfl, HJ, hI, hown, hb⟩ := hrel
    by_cases hlt : j < n
    · obtain ⟨b, o, rfl, h1⟩ := (h.below hb).at_ hlt
      have hs : k % 64 ≤ 63 := by omega
      have hround := hI.round hs hl (by rw [hL.out]; exact hlt)
      have hlen : out.length ≤ n := by have := hI.len; omega
      have hat := at_calls (some ⟨b, o, none⟩) n c l (j + 1) wr (h.below hb)
      have hor := or_shr (y := rd l (j + 1)) hs (rd_lt hl U_pos j)
      clear hk hq hat
      have hb1 := hb.drew
      have hl8 : (out.length + 1) * 8 ≤ 140737488355328 := by omega
      have hat1 : Calls Tryz.prog 153 #[.slice (some ⟨b, o, none⟩) n c, .int .i64 ((j : Int) + 1)] wr.drew fun e w' => e = .returned (.int .u64 (rd l (j + 1) : Nat)) ∧ wr.drew = w' := at_calls (some ⟨b, o, none⟩) n c l (j + 1) wr.drew (h.below hb1)
      obtain ⟨s, hss⟩ : ∃ s, k % 64 = s := ⟨_, rfl⟩
      have t1 : (k : Int).tmod 64 = (s : Int) := by rw [Int.tmod_eq_emod_of_nonneg (by omega)]; omega
      have t2 : IntKind.i64.wrap ((j : Int) + 1) = (j : Int) + 1 := by rw [IntKind.wrap_i64]; omega
      have t3 : IntKind.i64.wrap (63 - (s : Int)) = ((63 - s : Nat) : Int) := by rw [IntKind.wrap_i64]; omega
      rw [hss] at hs hround hor
      have HSS := Lib.hid hss
      clear hss
      go_wp2
      go_region_held3 (fun w' => SI w' .u64 (some ⟨b, o, none⟩) n c l ∧ w'.cell? ⟨b, o + j, none⟩ = some (.int .u64 (rd l j : Nat)))
        (first
          | exact h.keepS hlt hb1
          | exact h.keepS hlt (hb.alloc hb.size _).drew
          | exact h.keepS hlt (((hb.alloc hb.size _).drew).grown hg1 (hb.alloc hb.size _).size hown.base_))
        (first
          | (go_at_call 153; (with_reducible refine hat1.mono ?_); rintro e w' ⟨rfl, rfl⟩)
          | (refine step_append_nums _ rfl (.tmp 18) (.tmp 36) 62 rfl w.heap.size 88 .u64 8 Tryz.underlying62 info22 _ out rfl ((hown.alloc _).drewN 1) _ 1 1 [shro (rd l j) (rd l (j + 1)) s] rfl ((lit_one wr _).drewN 1) hl8 (by decide) (hb.alloc hb.size _).size ?_; intro v1 w1 hown1 hg1))
      go_wp2
      go_roundw
      case rel => exact ⟨j + 1, _, by go_num, .inl (by omega), by rw [HSS.out]; exact hround, hown1, ((hb.alloc hb.size _).drew).grown hg1 (hb.alloc hb.size _).size hown.base_⟩
      case measure => simp [intOf]; omega
    · obtain ⟨Ao, no, co, rfl, hro⟩ := hown.reads_n
      have hj : l.length ≤ j := by rw [hL.out]; omega
      have hfin := hI.done hl hj
      have hout := own_trim_n hown hI.lt hfin
      clear hfin hj hk hq
      go_wp2_with (first
        | (go_at_call 95; refine (trim_calls _ _ _ _ _ hro).mono ?_; rintro e w' ⟨rfl, rfl⟩))
      go_ret2
      exact ⟨_, rfl, hout, hb⟩
end Go.Proofs.YtkanddmihmdagaaGreatDoor.Nat

/- math/bits.Div64: two limbs by one. -/
namespace Go.Proofs.YtkanddmihmdagaaGreatDoor.Nat
open Go.RowKit Go.Proofs.YtkanddmihmdagaaGreatDoor.Dig Go.Proofs.YtkanddmihmdagaaGreatDoor.W

theorem wrap_lt {x : Nat} (h : x < U) : IntKind.u64.wrap (x : Int) = (x : Int) := by rw [IntKind.wrap_u64]; unfold U at h; omega
theorem wrap_mul {x y z : Nat} (h : x * y = z) (hz : z < U) : IntKind.u64.wrap ((x : Int) * (y : Int)) = (z : Int) := by
  rw [← Int.natCast_mul, h, wrap_lt hz]
theorem wrap_sub {x y z : Nat} (h : x = y + z) (hz : x < U) : IntKind.u64.wrap ((x : Int) - (y : Int)) = (z : Int) := by
  rw [IntKind.wrap_u64]; unfold U at hz; omega
theorem mask32 {x : Nat} (h : x < U) : Go.bits .and .u64 (x : Int) 4294967295 = ((x % 4294967296 : Nat) : Int) := by
  have := bits_and_u64_nat x 4294967295 h (by omega)
  rw [show ((4294967295 : Nat) : Int) = 4294967295 from rfl] at this
  rw [this, show (4294967295 : Nat) = 2 ^ 32 - 1 from rfl, Nat.and_two_pow_sub_one_eq_mod]
theorem norm_top {y : Nat} (h0 : y ≠ 0) (hy : y < U) : 64 - nbits y ≤ 63 ∧ 2 ^ 63 ≤ y * 2 ^ (64 - nbits y) ∧ y * 2 ^ (64 - nbits y) < U := by
  have hb : nbits y ≤ 64 := (bits_le y 64).2 hy
  have hp := bits_pos h0
  have h1 := pow_bits_le h0
  have h2 := lt_pow_bits y
  obtain ⟨j, hj⟩ : ∃ j, nbits y = j + 1 := ⟨nbits y - 1, by omega⟩
  rw [hj] at h1 h2 hb ⊢
  rw [Nat.add_sub_cancel] at h1
  refine ⟨by omega, ?_, ?_⟩
  · have := Nat.mul_le_mul_right (2 ^ (64 - (j + 1))) h1
    rwa [← Nat.pow_add, show j + (64 - (j + 1)) = 63 by omega] at this
  · have := Nat.mul_lt_mul_of_pos_right h2 (Nat.pow_pos (n := 64 - (j + 1)) (show 0 < 2 by omega))
    rwa [← Nat.pow_add, show j + 1 + (64 - (j + 1)) = 64 by omega] at this
/-- what the first half of Div64 lays out -/
structure DivS (hi lo y s y1 yn1 yn0 n32 n10 u1 u0 : Nat) : Prop where
  s63 : s ≤ 63
  hs : 64 - nbits y = s
  hy1 : y1 = y * 2 ^ s
  hyn : y1 = yn1 * 4294967296 + yn0
  hyn0 : yn0 < 4294967296
  hyn1 : 2147483648 ≤ yn1 ∧ yn1 < 4294967296
  hN : (hi * U + lo) * 2 ^ s = n32 * U + n10
  hn32 : n32 < y1
  hn10 : n10 = u1 * 4294967296 + u0
  hu1 : u1 < 4294967296
  hu0 : u0 < 4294967296
  w1 : IntKind.u64.wrap ((y : Int) * 2 ^ s) = (y1 : Int)
  w2 : (y1 : Int) / 4294967296 = (yn1 : Int)
  w3 : Go.bits .and .u64 (y1 : Int) 4294967295 = (yn0 : Int)
  w4 : Go.bits .or .u64 (IntKind.u64.wrap ((hi : Int) * 2 ^ s)) ((lo : Int) / 2 ^ (64 - s)) = (n32 : Int)
  w5 : IntKind.u64.wrap ((lo : Int) * 2 ^ s) = (n10 : Int)
  w6 : (n10 : Int) / 4294967296 = (u1 : Int)
  w7 : Go.bits .and .u64 (n10 : Int) 4294967295 = (u0 : Int)
theorem div_setup {hi lo y : Nat} (hhi : hi < y) (hlo : lo < U) (hy : y < U) : ∃ s y1 yn1 yn0 n32 n10 u1 u0, DivS hi lo y s y1 yn1 yn0 n32 n10 u1 u0 := by
  obtain ⟨hs, hlow, hup⟩ := norm_top (y := y) (by omega) hy
  generalize hse : 64 - nbits y = s at hs hlow hup
  have hUs := U_split hs
  have hp : 0 < 2 ^ s := Nat.pow_pos (by omega)
  have hn10 : 2 ^ s * (lo % 2 ^ (64 - s)) < U := by have := shlo_lt (x := lo) (cy := 0) hs hp; unfold shlo at this; simpa using this
  have hl := shl_val (x := lo) hs 0
  unfold shlo shhi at hl
  rw [Nat.add_zero, Nat.add_zero] at hl
  have hcy := shhi_lt hs hlo
  unfold shhi at hcy
  have hhi2 : hi * 2 ^ s < U := Nat.lt_of_le_of_lt (Nat.mul_le_mul_right _ (by omega)) hup
  have hhiT : hi < 2 ^ (64 - s) := by
    rw [hUs, Nat.mul_comm] at hhi2
    exact Nat.lt_of_mul_lt_mul_left hhi2
  have hN : (hi * U + lo) * 2 ^ s = (hi * 2 ^ s + lo / 2 ^ (64 - s)) * U + 2 ^ s * (lo % 2 ^ (64 - s)) := by
    rw [Nat.add_mul, Nat.add_mul, ← hl, Nat.mul_comm U (lo / 2 ^ (64 - s)), Nat.mul_right_comm hi U]
    omega
  have hlt : hi * 2 ^ s + lo / 2 ^ (64 - s) < y * 2 ^ s := by
    have h1 : hi * U + lo < y * U := by
      have := Nat.mul_le_mul_right U (show hi + 1 ≤ y by omega)
      rw [Nat.add_mul, Nat.one_mul] at this
      omega
    have h2 := Nat.mul_lt_mul_of_pos_right h1 hp
    rw [hN, Nat.mul_right_comm] at h2
    exact Nat.lt_of_mul_lt_mul_right (Nat.lt_of_le_of_lt (Nat.le_add_right _ _) h2)
  have hw1 : IntKind.u64.wrap ((y : Int) * 2 ^ s) = ((y * 2 ^ s : Nat) : Int) := by
    have e : (y : Int) * 2 ^ s = ((y * 2 ^ s : Nat) : Int) := by rw [Int.natCast_mul]; norm_cast
    rw [e, IntKind.wrap_u64]
    unfold U at hup; omega
  refine ⟨s, y * 2 ^ s, y * 2 ^ s / 4294967296, y * 2 ^ s % 4294967296, hi * 2 ^ s + lo / 2 ^ (64 - s), 2 ^ s * (lo % 2 ^ (64 - s)), 2 ^ s * (lo % 2 ^ (64 - s)) / 4294967296, 2 ^ s * (lo % 2 ^ (64 - s)) % 4294967296, ?_⟩
  have hc : (lo : Int) / 2 ^ (64 - s) = ((lo / 2 ^ (64 - s) : Nat) : Int) := by norm_cast
  refine ⟨hs, hse, rfl, ?_, Nat.mod_lt _ (by omega), ?_, hN, hlt, ?_, ?_, Nat.mod_lt _ (by omega), hw1, by generalize y * 2 ^ s = z; omega, mask32 hup, ?_, wrap_shl hs, by generalize 2 ^ s * (lo % 2 ^ (64 - s)) = z; omega, mask32 hn10⟩
  · generalize y * 2 ^ s = z; omega
  · generalize y * 2 ^ s = z at *; unfold U at hup; omega
  · generalize 2 ^ s * (lo % 2 ^ (64 - s)) = z; omega
  · generalize 2 ^ s * (lo % 2 ^ (64 - s)) = z at *; unfold U at hn10; omega
  · rw [hc, or_shl hs hcy]
    unfold shlo
    rw [Nat.mod_eq_of_lt hhiT, Nat.mul_comm]
/-- a digit of the quotient -/
def dq (n u y1 y0 : Nat) : Nat := (n * 4294967296 + u) / (y1 * 4294967296 + y0)
/-- what holds at the head of a round -/
structure DivL (n u yn1 yn0 q r : Nat) : Prop where
  eq : q * yn1 + r = n
  ge : dq n u yn1 yn0 ≤ q
  le : q ≤ 4294967297
  rl : r < 4294967296
theorem DivL.start {n u yn1 yn0 : Nat} (h1 : 2147483648 ≤ yn1) (h2 : yn1 < 4294967296) (h0 : yn0 < 4294967296) (hu : u < 4294967296) (hn : n < yn1 * 4294967296 + yn0) : DivL n u yn1 yn0 (n / yn1) (n % yn1) := by
  refine ⟨Nat.div_add_mod' n yn1, ?_, ?_, Nat.lt_of_lt_of_le (Nat.mod_lt _ (by omega)) (by omega)⟩
  · have hy : 0 < yn1 * 4294967296 + yn0 := by omega
    unfold dq
    rw [← Nat.lt_succ_iff, Nat.div_lt_iff_lt_mul hy, Nat.succ_mul]
    have e := Nat.div_add_mod' n yn1
    have hr := Nat.mod_lt n (show 0 < yn1 by omega)
    generalize n / yn1 = q at *
    generalize n % yn1 = r at *
    have e2 : q * (yn1 * 4294967296 + yn0) = q * yn1 * 4294967296 + q * yn0 := by rw [Nat.mul_add, Nat.mul_assoc]
    rw [e2]
    generalize q * yn1 = z at *
    generalize q * yn0 = z2 at *
    omega
  · rw [← Nat.lt_succ_iff, Nat.div_lt_iff_lt_mul (by omega)]
    omega
theorem DivL.stop {n u yn1 yn0 q r : Nat} (h : DivL n u yn1 yn0 q r) (h1 : 0 < yn1) (hc : q * yn0 ≤ 4294967296 * r + u) : q = dq n u yn1 yn0 := by
  apply Nat.le_antisymm _ h.ge
  unfold dq
  rw [Nat.le_div_iff_mul_le (by omega)]
  have e2 : q * (yn1 * 4294967296 + yn0) = q * yn1 * 4294967296 + q * yn0 := by rw [Nat.mul_add, Nat.mul_assoc]
  have e := h.eq
  rw [e2]
  generalize q * yn1 = z at *
  generalize q * yn0 = z2 at *
  omega
theorem DivL.more {n u yn1 yn0 q r : Nat} (h : DivL n u yn1 yn0 q r) (h1 : 0 < yn1) (hn : n < yn1 * 4294967296 + yn0) (hu : u < 4294967296) (hc : 4294967296 ≤ q ∨ 4294967296 * r + u < q * yn0) : dq n u yn1 yn0 + 1 ≤ q := by
  show dq n u yn1 yn0 < q
  unfold dq
  rw [Nat.div_lt_iff_lt_mul (by omega)]
  have e2 : q * (yn1 * 4294967296 + yn0) = q * yn1 * 4294967296 + q * yn0 := by rw [Nat.mul_add, Nat.mul_assoc]
  have e := h.eq
  rcases hc with hc | hc
  · have : 4294967296 * (yn1 * 4294967296 + yn0) ≤ q * (yn1 * 4294967296 + yn0) := Nat.mul_le_mul_right _ hc
    omega
  · rw [e2]
    generalize q * yn1 = z at *
    generalize q * yn0 = z2 at *
    omega
theorem DivL.next {n u yn1 yn0 q r : Nat} (h : DivL n u yn1 yn0 (q + 1) r) (hm : dq n u yn1 yn0 + 1 ≤ q + 1) (hr : r + yn1 < 4294967296) : DivL n u yn1 yn0 q (r + yn1) := by
  refine ⟨?_, by omega, by have := h.le; omega, hr⟩
  have e := h.eq
  rw [Nat.succ_mul] at e
  omega
theorem DivL.break_ {n u yn1 yn0 q r : Nat} (h : DivL n u yn1 yn0 (q + 1) r) (h1 : 0 < yn1) (h0 : yn0 < 4294967296) (hm : dq n u yn1 yn0 + 1 ≤ q + 1) (hr : 4294967296 ≤ r + yn1) : q = dq n u yn1 yn0 := by
  apply Nat.le_antisymm _ (by omega)
  unfold dq
  rw [Nat.le_div_iff_mul_le (by omega)]
  have e2 : q * (yn1 * 4294967296 + yn0) = q * yn1 * 4294967296 + q * yn0 := by rw [Nat.mul_add, Nat.mul_assoc]
  have e := h.eq
  have hl := h.le
  have h3 : q * yn0 ≤ 4294967296 * yn0 := Nat.mul_le_mul_right _ (by omega)
  rw [Nat.succ_mul] at e
  rw [e2]
  generalize q * yn1 = z at *
  generalize q * yn0 = z2 at *
  omega

theorem dq_mul_add (n u y1 y0 : Nat) : n * 4294967296 + u = dq n u y1 y0 * (y1 * 4294967296 + y0) + (n * 4294967296 + u) % (y1 * 4294967296 + y0) := (Nat.div_add_mod' _ _).symm
theorem dq_lt {n u y1 y0 : Nat} (hn : n < y1 * 4294967296 + y0) (hu : u < 4294967296) : dq n u y1 y0 < 4294967296 := by
  unfold dq
  rw [Nat.div_lt_iff_lt_mul (by omega)]
  omega
/-- the four steps of 'n b + u - q y', all of 64 bits -/
theorem low_step {n u q y : Nat} {r : Nat} (h : n * 4294967296 + u = q * y + r) (hr : r < U) : ∃ A B C : Nat,
    IntKind.u64.wrap ((n : Int) * 4294967296) = (A : Int) ∧ IntKind.u64.wrap ((A : Int) + (u : Int)) = (B : Int) ∧ IntKind.u64.wrap ((q : Int) * (y : Int)) = (C : Int) ∧ IntKind.u64.wrap ((B : Int) - (C : Int)) = (r : Int) := by
  refine ⟨n * 4294967296 % U, (n * 4294967296 + u) % U, q * y % U, ?_, ?_, ?_, ?_⟩
  · rw [IntKind.wrap_u64]; unfold U; omega
  · rw [IntKind.wrap_u64]; unfold U; omega
  · rw [← Int.natCast_mul, IntKind.wrap_u64]; unfold U; generalize q * y = z; omega
  · rw [IntKind.wrap_u64]
    generalize q * y = z at *
    unfold U at *; omega
theorem div_final {N s y Q R : Nat} (h : N * 2 ^ s = Q * (y * 2 ^ s) + R) (hR : R < y * 2 ^ s) : Q = N / y ∧ R / 2 ^ s = N % y := by
  have hp : 0 < 2 ^ s := Nat.pow_pos (by omega)
  have h1 : N * 2 ^ s / (y * 2 ^ s) = Q := by
    rw [h, Nat.mul_comm Q, Nat.mul_add_div (by omega), Nat.div_eq_of_lt hR, Nat.add_zero]
  have h2 : N * 2 ^ s % (y * 2 ^ s) = R := by
    rw [h, Nat.mul_comm Q, Nat.mul_add_mod, Nat.mod_eq_of_lt hR]
  rw [Nat.mul_div_mul_right _ _ hp] at h1
  rw [Nat.mul_mod_mul_right] at h2
  exact ⟨h1.symm, by rw [← h2, Nat.mul_div_cancel _ hp]⟩
theorem div_lin {n u1 q1 y n21 u0 q0 R b : Nat} (h1 : n * b + u1 = q1 * y + n21) (h2 : n21 * b + u0 = q0 * y + R) : n * (b * b) + (u1 * b + u0) = (q1 * b + q0) * y + R := by
  have g1 := congrArg (fun z => z * b) h1
  simp only [Nat.add_mul] at g1
  rw [← Nat.mul_assoc, Nat.add_mul, Nat.mul_right_comm q1 b y]
  omega
theorem U_sq : U = 4294967296 * 4294967296 := rfl
theorem DivS.done {hi lo y s y1 yn1 yn0 n32 n10 u1 u0 Q1 n21 Q0 R : Nat} (h : DivS hi lo y s y1 yn1 yn0 n32 n10 u1 u0)
    (h1 : n32 * 4294967296 + u1 = Q1 * y1 + n21) (h2 : n21 * 4294967296 + u0 = Q0 * y1 + R) (hR : R < y1) :
    Q1 * 4294967296 + Q0 = (hi * U + lo) / y ∧ R / 2 ^ s = (hi * U + lo) % y := by
  have e : (hi * U + lo) * 2 ^ s = (Q1 * 4294967296 + Q0) * (y * 2 ^ s) + R := by
    rw [h.hN, h.hn10, ← h.hy1, U_sq]
    exact div_lin h1 h2
  exact div_final e (by rw [← h.hy1]; exact hR)

set_option maxHeartbeats 800000 in
theorem div64_calls (hi lo y : Nat) (hhi : hi < y) (hlo : lo < U) (hy : y < U) (w : World) :
    Calls Tryz.prog 118 #[.int .u64 (hi : Nat), .int .u64 (lo : Nat), .int .u64 (y : Nat)] w fun e w' => e = .returned (.tuple #[.int .u64 ((hi * U + lo) / y : Nat), .int .u64 ((hi * U + lo) % y : Nat)]) ∧ Drawn w w' := by
  have b1 : ((y : Int) == 0) = false := by simp; omega
  have b2 : decide (y ≤ hi) = false := decide_eq_false (by omega)
  have b2' : decide ((y : Int) ≤ (hi : Int)) = false := decide_eq_false (by omega)
  have hlz := lz64_calls y hy
  by_cases h0 : hi = 0
  · subst h0
    rw [Nat.zero_mul, Nat.zero_add]
    generalize hq : lo / y = q
    generalize hr : lo % y = r
    have hq' : (lo : Int) / (y : Int) = (q : Int) := by rw [← hq]; norm_cast
    have hr' : (lo : Int) % (y : Int) = (r : Int) := by rw [← hr]; norm_cast
    have hy0 : (0 : Int) ≤ (lo : Int) := by omega
    have hqw : IntKind.u64.wrap (q : Int) = (q : Int) := wrap_lt (by rw [← hq]; exact Nat.lt_of_le_of_lt (Nat.div_le_self _ _) hlo)
    have HR := Lib.hid hr'
    clear hq hr hr'
    go_enter Tryz.func118, Tryz.ntmps118
    go_wp2
    go_quiet (fail)
    go_wp2
    go_ret2
    exact ⟨by rw [← HR.out]; simp [hqw], (Drawn.refl _).drewN _⟩
  · have b3 : ((hi : Int) == 0) = false := by simp; omega
    obtain ⟨s, y1, yn1, yn0, n32, n10, u1, u0, hS⟩ := div_setup hhi hlo hy
    have w1 := hS.w1
    have w2 := hS.w2
    have w3 := hS.w3
    have w4 := hS.w4
    have w5 := hS.w5
    have w6 := hS.w6
    have w7 := hS.w7
    have s63 := hS.s63
    have hyn0 := hS.hyn0
    obtain ⟨hyl, hyu⟩ := hS.hyn1
    have g1 : ¬ yn1 = 0 := by omega
    have g1' : ((yn1 : Int) == 0) = false := by simp; omega
    rw [hS.hs] at hlz
    have hst := DivL.start hyl hyu hyn0 hS.hu1 (by rw [← hS.hyn]; exact hS.hn32)
    obtain ⟨q, hq⟩ : ∃ q, n32 / yn1 = q := ⟨_, rfl⟩
    obtain ⟨r, hr⟩ : ∃ r, n32 % yn1 = r := ⟨_, rfl⟩
    rw [hq, hr] at hst
    have d1 : (n32 : Int) / (yn1 : Int) = (q : Int) := by rw [← hq]; norm_cast
    have hn32U : n32 < U := Nat.lt_trans hS.hn32 (by rw [hS.hyn]; unfold U; omega)
    have hz : q * yn1 = n32 - r := by have := hst.eq; omega
    have d2 : IntKind.u64.wrap ((q : Int) * (yn1 : Int)) = ((n32 - r : Nat) : Int) := wrap_mul hz (by omega)
    have d3 : IntKind.u64.wrap ((n32 : Int) - ((n32 - r : Nat) : Int)) = (r : Int) := wrap_sub (by have := hst.eq; omega) hn32U
    have hq2 := hst.le
    have HZ := Lib.hid hz
    have HU := Lib.hid hS.hu1
    have HN : Hid (n32 < yn1 * 4294967296 + yn0) := by rw [← hS.hyn]; exact hS.hn32
    clear hq hr hn32U hz
    go_enter Tryz.func118, Tryz.ntmps118
    go_upto_block 0 with (first
      | (go_at_call 120; refine (hlz _).mono ?_; rintro e w' ⟨rfl, rfl⟩))
    go_cut [15] (fun a wx => a = .int .u64 (dq n32 u1 yn1 yn0 : Nat) ∧ w = wx)
    case first =>
      clear w1 w2 w3 w4 w5 w6 w7 d1 d2 d3 hlz b1 b2 b2' b3 g1' hq2
      go_wp2_with fail
      go_loop [15, 16] (fun a c => ∃ q r : Nat, a = .int .u64 (q : Nat) ∧ c = .int .u64 (r : Nat) ∧ DivL n32 u1 yn1 yn0 q r) (fun a _ => (intOf a).toNat)
      case atStart => exact ⟨q, r, rfl, rfl, hst⟩
      case round =>
        clear hst HZ
        obtain ⟨q, r, rfl, rfl, hL⟩ := hrel
        have hle := hL.le
        have hrl := hL.rl
        have hu := HU.out
        by_cases hc : 4294967296 ≤ q ∨ 4294967296 * r + u1 < q * yn0
        · have hm := hL.more (by omega) HN.out hu hc
          have hm1 : 1 ≤ q := Nat.le_trans (Nat.le_add_left 1 _) hm
          obtain ⟨q, rfl⟩ : ∃ q', q = q' + 1 := ⟨q - 1, by omega⟩
          have HM := Lib.hid hm
          have e1 : IntKind.u64.wrap (((q + 1 : Nat) : Int) - 1) = (q : Int) := by rw [IntKind.wrap_u64]; omega
          have hp : (q + 1) * yn0 < U := by
            have := Nat.mul_le_mul hle (show yn0 ≤ 4294967295 by omega)
            unfold U; omega
          obtain ⟨pp, hpp⟩ : ∃ z, (q + 1) * yn0 = z := ⟨_, rfl⟩
          have hpm := wrap_mul hpp (by rw [← hpp]; exact hp)
          rw [hpp] at hc
          clear hm hm1 hp hpp
          by_cases hq0 : 4294967296 ≤ q + 1
          · have c1 : decide ((4294967296 : Int) ≤ ((q + 1 : Nat) : Int)) = true := decide_eq_true (by omega)
            obtain ⟨qq, hqq⟩ : ∃ z, q + 1 = z := ⟨_, rfl⟩
            rw [hqq] at c1 e1 ⊢
            have HQ := Lib.hid hqq
            clear hqq hq0 hle hc hpm
            by_cases hb : 4294967296 ≤ r + yn1
            · have c2 : decide ((4294967296 : Int) ≤ (r : Int) + (yn1 : Int)) = true := decide_eq_true (by omega)
              have hbr := hL.break_ (by omega) hyn0 HM.out hb
              clear hb
              go_wp2
              go_meet
              case rel => exact ⟨by rw [← hbr], rfl⟩
            · have c2 : decide ((4294967296 : Int) ≤ (r : Int) + (yn1 : Int)) = false := decide_eq_false (by omega)
              have hnx := hL.next HM.out (by omega)
              clear hb
              go_wp2
              go_round
              case rel => exact ⟨q, r + yn1, rfl, by go_num, hnx⟩
              case measure => simp [intOf]; have := HQ.out; omega
          · have c0 : 4294967296 * r + u1 < pp := hc.resolve_left hq0
            have c1 : decide ((4294967296 : Int) ≤ ((q + 1 : Nat) : Int)) = false := decide_eq_false (by omega)
            have c3 : decide ((4294967296 : Int) * (r : Int) + (u1 : Int) < (pp : Int)) = true := decide_eq_true (by omega)
            obtain ⟨qq, hqq⟩ : ∃ z, q + 1 = z := ⟨_, rfl⟩
            rw [hqq] at c1 e1 hpm ⊢
            have HQ := Lib.hid hqq
            clear hqq hq0 hle hc c0
            by_cases hb : 4294967296 ≤ r + yn1
            · have c2 : decide ((4294967296 : Int) ≤ (r : Int) + (yn1 : Int)) = true := decide_eq_true (by omega)
              have hbr := hL.break_ (by omega) hyn0 HM.out hb
              clear hb
              go_wp2
              go_meet
              case rel => exact ⟨by rw [← hbr], rfl⟩
            · have c2 : decide ((4294967296 : Int) ≤ (r : Int) + (yn1 : Int)) = false := decide_eq_false (by omega)
              have hnx := hL.next HM.out (by omega)
              clear hb
              go_wp2
              go_round
              case rel => exact ⟨q, r + yn1, rfl, by go_num, hnx⟩
              case measure => simp [intOf]; have := HQ.out; omega
        · obtain ⟨pp, hpp⟩ : ∃ z, q * yn0 = z := ⟨_, rfl⟩
          have hq0 : q < 4294967296 := Nat.lt_of_not_le fun h => hc (.inl h)
          have hp : q * yn0 < U := by
            have := Nat.mul_le_mul (Nat.le_of_lt hq0) (show yn0 ≤ 4294967295 by omega)
            unfold U; omega
          have hpm := wrap_mul hpp (by rw [← hpp]; exact hp)
          have hst := hL.stop (by omega) (Nat.le_of_not_lt fun h => hc (.inr h))
          have c0 : ¬ 4294967296 * r + u1 < pp := fun h => hc (.inr (by rw [hpp]; exact h))
          have c1 : decide ((4294967296 : Int) ≤ (q : Int)) = false := decide_eq_false (by omega)
          have c3 : decide ((4294967296 : Int) * (r : Int) + (u1 : Int) < (pp : Int)) = false := decide_eq_false (by omega)
          have HST := Lib.hid hst
          clear hc hpp hp hst c0
          go_wp2
          go_meet
          case rel => exact ⟨by rw [← HST.out], rfl⟩
    case rest =>
      obtain ⟨rfl, rfl⟩ := hcut
      have hy1U : y1 < U := by rw [hS.hyn]; unfold U; omega
      have hQ1 := dq_lt HN.out HU.out
      have hE1 := dq_mul_add n32 u1 yn1 yn0
      have hlt1 : (n32 * 4294967296 + u1) % (yn1 * 4294967296 + yn0) < y1 := by rw [hS.hyn]; exact Nat.mod_lt _ (by omega)
      rw [← hS.hyn] at hE1 hlt1
      obtain ⟨n21, hn21⟩ : ∃ z, (n32 * 4294967296 + u1) % y1 = z := ⟨_, rfl⟩
      obtain ⟨Q1, hQQ⟩ : ∃ z, dq n32 u1 yn1 yn0 = z := ⟨_, rfl⟩
      rw [hn21] at hE1 hlt1
      rw [hQQ] at hE1 hQ1
      obtain ⟨A1, B1, C1, k1, k2, k3, k4⟩ := low_step hE1 (Nat.lt_trans hlt1 hy1U)
      have hst := DivL.start (n := n21) (u := u0) hyl hyu hyn0 hS.hu0 (by rw [← hS.hyn]; exact hlt1)
      obtain ⟨q, hq⟩ : ∃ q, n21 / yn1 = q := ⟨_, rfl⟩
      obtain ⟨r, hr⟩ : ∃ r, n21 % yn1 = r := ⟨_, rfl⟩
      rw [hq, hr] at hst
      have d1 : (n21 : Int) / (yn1 : Int) = (q : Int) := by rw [← hq]; norm_cast
      have hz : q * yn1 = n21 - r := by have := hst.eq; omega
      have d2 : IntKind.u64.wrap ((q : Int) * (yn1 : Int)) = ((n21 - r : Nat) : Int) := wrap_mul hz (by omega)
      have d3 : IntKind.u64.wrap ((n21 : Int) - ((n21 - r : Nat) : Int)) = (r : Int) := wrap_sub (by have := hst.eq; omega) (Nat.lt_trans hlt1 hy1U)
      have hq2 := hst.le
      have HE1 := Lib.hid hE1
      have HQQ := Lib.hid hQQ
      rw [hQQ]
      have g1' : ((yn1 : Int) == 0) = false := by simp; omega
      clear w1 w2 w3 w4 w5 w6 w7 hlz b1 b2 b2' b3 hz hE1 hQQ hn21 hq hr HN HU HZ
      have HU := Lib.hid hS.hu0
      have HN : Hid (n21 < yn1 * 4294967296 + yn0) := by rw [← hS.hyn]; exact hlt1
      have HL1 := Lib.hid hlt1
      clear hlt1 hy1U
      go_upto_block 2 with (fail)
      go_cut [18] (fun a wx => a = .int .u64 (dq n21 u0 yn1 yn0 : Nat) ∧ w = wx)
      case first =>
        clear d1 d2 d3 k1 k2 k3 k4 hq2 g1' hQ1
        go_wp2_with fail
        go_loop [18, 16] (fun a c => ∃ q r : Nat, a = .int .u64 (q : Nat) ∧ c = .int .u64 (r : Nat) ∧ DivL n21 u0 yn1 yn0 q r) (fun a _ => (intOf a).toNat)
        case atStart => exact ⟨q, r, rfl, rfl, hst⟩
        case round =>
          clear hst
          obtain ⟨q, r, rfl, rfl, hL⟩ := hrel
          have hle := hL.le
          have hrl := hL.rl
          have hu := HU.out
          by_cases hc : 4294967296 ≤ q ∨ 4294967296 * r + u0 < q * yn0
          · have hm := hL.more (by omega) HN.out hu hc
            have hm1 : 1 ≤ q := Nat.le_trans (Nat.le_add_left 1 _) hm
            obtain ⟨q, rfl⟩ : ∃ q', q = q' + 1 := ⟨q - 1, by omega⟩
            have HM := Lib.hid hm
            have e1 : IntKind.u64.wrap (((q + 1 : Nat) : Int) - 1) = (q : Int) := by rw [IntKind.wrap_u64]; omega
            have hp : (q + 1) * yn0 < U := by
              have := Nat.mul_le_mul hle (show yn0 ≤ 4294967295 by omega)
              unfold U; omega
            obtain ⟨pp, hpp⟩ : ∃ z, (q + 1) * yn0 = z := ⟨_, rfl⟩
            have hpm := wrap_mul hpp (by rw [← hpp]; exact hp)
            rw [hpp] at hc
            clear hm hm1 hp hpp
            by_cases hq0 : 4294967296 ≤ q + 1
            · have c1 : decide ((4294967296 : Int) ≤ ((q + 1 : Nat) : Int)) = true := decide_eq_true (by omega)
              obtain ⟨qq, hqq⟩ : ∃ z, q + 1 = z := ⟨_, rfl⟩
              rw [hqq] at c1 e1 ⊢
              have HQ := Lib.hid hqq
              clear hqq hq0 hle hc hpm
              by_cases hb : 4294967296 ≤ r + yn1
              · have c2 : decide ((4294967296 : Int) ≤ (r : Int) + (yn1 : Int)) = true := decide_eq_true (by omega)
                have hbr := hL.break_ (by omega) hyn0 HM.out hb
                clear hb
                go_wp2
                go_meet
                case rel => exact ⟨by rw [← hbr], rfl⟩
              · have c2 : decide ((4294967296 : Int) ≤ (r : Int) + (yn1 : Int)) = false := decide_eq_false (by omega)
                have hnx := hL.next HM.out (by omega)
                clear hb
                go_wp2
                go_round
                case rel => exact ⟨q, r + yn1, rfl, by go_num, hnx⟩
                case measure => simp [intOf]; have := HQ.out; omega
            · have c0 : 4294967296 * r + u0 < pp := hc.resolve_left hq0
              have c1 : decide ((4294967296 : Int) ≤ ((q + 1 : Nat) : Int)) = false := decide_eq_false (by omega)
              have c3 : decide ((4294967296 : Int) * (r : Int) + (u0 : Int) < (pp : Int)) = true := decide_eq_true (by omega)
              obtain ⟨qq, hqq⟩ : ∃ z, q + 1 = z := ⟨_, rfl⟩
              rw [hqq] at c1 e1 hpm ⊢
              have HQ := Lib.hid hqq
              clear hqq hq0 hle hc c0
              by_cases hb : 4294967296 ≤ r + yn1
              · have c2 : decide ((4294967296 : Int) ≤ (r : Int) + (yn1 : Int)) = true := decide_eq_true (by omega)
                have hbr := hL.break_ (by omega) hyn0 HM.out hb
                clear hb
                go_wp2
                go_meet
                case rel => exact ⟨by rw [← hbr], rfl⟩
              · have c2 : decide ((4294967296 : Int) ≤ (r : Int) + (yn1 : Int)) = false := decide_eq_false (by omega)
                have hnx := hL.next HM.out (by omega)
                clear hb
                go_wp2
                go_round
                case rel => exact ⟨q, r + yn1, rfl, by go_num, hnx⟩
                case measure => simp [intOf]; have := HQ.out; omega
          · obtain ⟨pp, hpp⟩ : ∃ z, q * yn0 = z := ⟨_, rfl⟩
            have hq0 : q < 4294967296 := Nat.lt_of_not_le fun h => hc (.inl h)
            have hp : q * yn0 < U := by
              have := Nat.mul_le_mul (Nat.le_of_lt hq0) (show yn0 ≤ 4294967295 by omega)
              unfold U; omega
            have hpm := wrap_mul hpp (by rw [← hpp]; exact hp)
            have hst := hL.stop (by omega) (Nat.le_of_not_lt fun h => hc (.inr h))
            have c0 : ¬ 4294967296 * r + u0 < pp := fun h => hc (.inr (by rw [hpp]; exact h))
            have c1 : decide ((4294967296 : Int) ≤ (q : Int)) = false := decide_eq_false (by omega)
            have c3 : decide ((4294967296 : Int) * (r : Int) + (u0 : Int) < (pp : Int)) = false := decide_eq_false (by omega)
            have HST := Lib.hid hst
            clear hc hpp hp hst c0
            go_wp2
            go_meet
            case rel => exact ⟨by rw [← HST.out], rfl⟩
      case rest =>
        obtain ⟨rfl, rfl⟩ := hcut
        have hy1U : y1 < U := by rw [hS.hyn]; unfold U; omega
        have hQ2 := dq_lt HN.out HU.out
        have hE2 := dq_mul_add n21 u0 yn1 yn0
        have hlt2 : (n21 * 4294967296 + u0) % (yn1 * 4294967296 + yn0) < y1 := by rw [hS.hyn]; exact Nat.mod_lt _ (by omega)
        rw [← hS.hyn] at hE2 hlt2
        obtain ⟨R, hR⟩ : ∃ z, (n21 * 4294967296 + u0) % y1 = z := ⟨_, rfl⟩
        obtain ⟨Q0, hQ0⟩ : ∃ z, dq n21 u0 yn1 yn0 = z := ⟨_, rfl⟩
        rw [hR] at hE2 hlt2
        rw [hQ0] at hE2 hQ2 ⊢
        clear d1 d2 d3 k1 k2 k3 k4
        obtain ⟨A2, B2, C2, k1, k2, k3, k4⟩ := low_step hE2 (Nat.lt_trans hlt2 hy1U)
        obtain ⟨f1, f2⟩ := hS.done HE1.out hE2 hlt2
        have F1 := Lib.hid f1
        have F2 := Lib.hid f2
        have s1 : (R : Int) / 2 ^ s = ((R / 2 ^ s : Nat) : Int) := by norm_cast
        have HF := Lib.hid s1
        have t1 : (Q1 : Int) * 4294967296 + (Q0 : Int) ≤ 18446744073709551615 := by omega
        clear hE2 f1 f2 hR hQ0 s1 hlt2 hy1U hst hq2
        go_wp2
        go_ret2
        exact ⟨by rw [← F1.out, ← F2.out]; simp, Drawn.refl _⟩
end Go.Proofs.YtkanddmihmdagaaGreatDoor.Nat

/- Layer 1, on: quotients by one limb, and by 0. -/
namespace Go.Proofs.YtkanddmihmdagaaGreatDoor.Nat
open Go.RowKit Go.Proofs.YtkanddmihmdagaaGreatDoor.Dig Go.Proofs.YtkanddmihmdagaaGreatDoor.W

/-- what DivMod hands back: quotient and rest, rows of its own -/
def GivesQR (w : World) (t : TypeId) (k : IntKind) (l l' : List Nat) (e : Ending) (w' : World) : Prop := ∃ v v', e = .returned (.tuple #[v, v', .int .i64 0]) ∧ Ow w' w.heap.size t k v l ∧ Ow w' w.heap.size t k v' l' ∧ Below w.heap.size w w'

set_option maxHeartbeats 400000 in
theorem divmod_zero (A A' : Option Addr) (n c n' c' : Nat) (l l' : List Nat) (w : World) (h : SI w .u64 A n c l) (h' : SI w .u64 A' n' c' l') (hl' : Lt U l') (h0 : val U l' = 0) :
    Calls Tryz.prog 81 #[.slice A n c, .slice A' n' c'] w fun e w' => e = .returned (.tuple #[.slice none 0 0, .slice none 0 0, .int .i64 11]) ∧ w = w' := by
  have T := trim_calls A n c l w h
  have T' := trim_calls A' n' c' l' w h'
  have ht' := (trim_reads h' hl').len
  rw [h0, digs_zero] at ht'
  rw [← ht'] at T'
  clear h0 ht'
  go_enter Tryz.func81, Tryz.ntmps81
  go_wp2_with (first
    | (go_at_call 95; first | ((with_reducible refine T.mono ?_); rintro e w' ⟨rfl, rfl⟩) | ((with_reducible refine T'.mono ?_); rintro e w' ⟨rfl, rfl⟩)))
  go_ret3
  exact ⟨rfl, rfl⟩

/-- two limbs by one -/
def dvq (hi lo y : Nat) : Nat := (hi * U + lo) / y
def dvr (hi lo y : Nat) : Nat := (hi * U + lo) % y
theorem div64_words (hi lo y : Nat) (hhi : hi < y) (hlo : lo < U) (hy : y < U) (w : World) :
    Calls Tryz.prog 118 #[.int .u64 (hi : Nat), .int .u64 (lo : Nat), .int .u64 (y : Nat)] w fun e w' => e = .returned (.tuple #[.int .u64 (dvq hi lo y : Nat), .int .u64 (dvr hi lo y : Nat)]) ∧ Drawn w w' := div64_calls hi lo y hhi hlo hy w
/-- what holds behind the limbs from m on -/
structure Div1 (a b m : Nat) (l q : List Nat) (r : Nat) : Prop where
  len : q.length = l.length
  lt : Lt U q
  rb : r < b
  vl : val U (q.drop m) * b + r = val U (l.drop m)
theorem Div1.start {b : Nat} (l : List Nat) (hb : b ≠ 0) : Div1 0 b l.length l (List.replicate l.length 0) 0 :=
  ⟨List.length_replicate, replicate_lt U_pos _, by omega, by rw [List.drop_eq_nil_of_le (by simp), List.drop_eq_nil_of_le (Nat.le_refl _)]; simp [Dig.val]⟩
theorem Div1.round {b m : Nat} {l q : List Nat} {r : Nat} (h : Div1 0 b (m + 1) l q r) (hm : m < l.length) (hl : Lt U l) (hb : b < U) :
    Div1 0 b m l (q.set m (dvq r (rd l m) b)) (dvr r (rd l m) b) := by
  have hx := rd_lt hl U_pos m
  have hr := h.rb
  have hlt : dvq r (rd l m) b < U := by
    unfold dvq
    rw [Nat.div_lt_iff_lt_mul (by omega)]
    have := Nat.mul_le_mul_right U (show r + 1 ≤ b by omega)
    rw [Nat.add_mul, Nat.one_mul, Nat.mul_comm b U] at this
    omega
  have hmq : m < q.length := by rw [h.len]; exact hm
  refine ⟨by rw [List.length_set, h.len], set_lt h.lt hlt, Nat.mod_lt _ (by omega), ?_⟩
  have e : dvq r (rd l m) b * b + dvr r (rd l m) b = r * U + rd l m := Nat.div_add_mod' (r * U + rd l m) b
  have hv := h.vl
  rw [drop_rd hm, val_cons, drop_rd (by rw [List.length_set]; exact hmq), val_cons, rd_set hmq, if_pos rfl, List.drop_set_of_lt (by omega), ← hv, Nat.add_mul, Nat.mul_add, ← Nat.mul_assoc]
  rw [Nat.mul_comm U r]
  omega
theorem Div1.done {b : Nat} {l q : List Nat} {r : Nat} (h : Div1 0 b 0 l q r) : val U q = val U l / b ∧ r = val U l % b := by
  have hv := h.vl
  rw [List.drop_zero, List.drop_zero] at hv
  have hr := h.rb
  constructor
  · rw [← hv, Nat.mul_comm, Nat.mul_add_div (by omega), Nat.div_eq_of_lt hr, Nat.add_zero]
  · rw [← hv, Nat.mul_comm, Nat.mul_add_mod, Nat.mod_eq_of_lt hr]

set_option maxHeartbeats 1600000 in
theorem divmod_one (A A' : Option Addr) (n c n' c' : Nat) (l l' : List Nat) (w : World) (h : SI w .u64 A n c l) (h' : SI w .u64 A' n' c' l') (hl : Lt U l) (hl' : Lt U l') (hn : n ≤ 1099511627776) (hb0 : val U l' ≠ 0) (hb1 : val U l' < U) :
    Calls Tryz.prog 81 #[.slice A n c, .slice A' n' c'] w (GivesQR w 88 .u64 (digs U (val U l / val U l')) (digs U (val U l % val U l'))) := by
  have T := trim_calls A n c l w h
  have T' := trim_calls A' n' c' l' w h'
  have ht := trim_reads h hl
  have ht' := trim_reads h' hl'
  obtain ⟨b, hb⟩ : ∃ b, val U l' = b := ⟨_, rfl⟩
  obtain ⟨a, ha⟩ : ∃ a, val U l = a := ⟨_, rfl⟩
  rw [hb] at ht' hb0 hb1 ⊢
  rw [ha] at ht ⊢
  rw [digs_one U_two hb1 hb0] at ht'
  have hL' := ht'.len
  have hL := Lib.hid ht.len
  have hm1 : trimN l' n' = 1 := by rw [← hL']; rfl
  have hmn := trimN_le l n
  rw [hm1] at T' ht'
  obtain ⟨m, hm⟩ : ∃ m, trimN l n = m := ⟨_, rfl⟩
  rw [hm] at T ht hmn
  have hL : Hid ((digs U a).length = m) := by rw [← hm]; exact hL.out
  obtain ⟨bb, bo, rfl, hc'⟩ := ht'.at_ (j := 0) (by omega)
  have hc0 : w.cell? ⟨bb, bo, none⟩ = some (.int .u64 (b : Nat)) := hc'
  clear hc' hL' hm1 hb ha hl hl' h h' hm
  have HLt := Lib.hid (digs_lt U_two a)
  have hva : Hid (val U (digs U a) = a) := val_digs U_two a
  have hst := Div1.start (digs U a) hb0
  rw [hL.out] at hst
  go_enter Tryz.func81, Tryz.ntmps81
  go_wp2_with (first
    | (go_at_call 95; first | ((with_reducible refine T.mono ?_); rintro e w' ⟨rfl, rfl⟩) | ((with_reducible refine T'.mono ?_); rintro e w' ⟨rfl, rfl⟩))
    | (at_make; refine wpList_make_nums _ rfl (.tmp 30) (.tmp 30) 62 rfl w.heap.size 88 .u64 8 Tryz.underlying62 info22 .i64 .i64 _ _ m rfl rfl (by simp) (by simp) (by omega) (by omega) (Nat.le_refl _) ?_; intro w1 hown1 hg1))
  have hb1' := grown_below hg1
  go_loopw [8, 9] (fun rv z wr => ∃ (i : Nat) (y : Int) (r : Nat) (q : List Nat), i ≤ m ∧ z = .int .i64 y ∧ Hid (y + 1 = i) ∧ rv = .int .u64 (r : Nat) ∧ Div1 0 b i (digs U a) q r ∧ Ow wr w.heap.size 88 .u64 (.slice (some ⟨w.heap.size, 0, none⟩) m m) q ∧ Below w.heap.size w wr) (fun _ z _ => (intOf z + 1).toNat)
  case atStart => exact ⟨m, (m : Int) - 1, 0, _, Nat.le_refl _, rfl, by unfold Hid; omega, rfl, hst, hown1, hb1'⟩
  case round =>
    clear hst hown1 hg1 hb1'
    obtain ⟨i, y, r, q, him, rfl, HY, rfl, hD, hown, hb⟩ := hrel
    cases i with
    | zero =>
      obtain rfl : y = -1 := by have := HY.out; omega
      obtain ⟨f1, f2⟩ := hD.done
      rw [hva.out] at f1 f2
      have hro : SI wr .u64 (some ⟨w.heap.size, 0, none⟩) m m q := by
        obtain ⟨A2, c2, hv2, hr2⟩ := hown.reads
        have hl2 := hown.len_
        injection hv2 with e1 e2 e3
        subst e1; subst e3
        rw [hl2] at hr2
        exact hr2
      have hout := own_trim_n hown hD.lt f1
      have hrU : r < U := Nat.lt_trans hD.rb hb1
      have F2 := Lib.hid f2
      clear f1 f2
      go_wp2_with (first
        | (go_at_call 95; refine (trim_calls _ _ _ _ _ hro).mono ?_; rintro e w' ⟨rfl, rfl⟩)
        | (go_at_call 82; refine (of_calls r _ hrU).mono ?_; rintro e w2 ⟨v, rfl, ho, hb2⟩))
      go_ret3
      exact ⟨_, _, rfl, hout.below hb2, by rw [← F2.out]; exact ho.lower hb.size, hb.trans (hb2.mono hb.size)⟩
    | succ i =>
      obtain rfl : y = (i : Int) := by have := HY.out; omega
      have hround := hD.round (by rw [hL.out]; omega) HLt.out hb1
      obtain ⟨ab, ao, rfl, h1⟩ := (ht.below hb).at_ (j := i) (by omega)
      have hcq := hown.cellAt (j := i) (by omega)
      have hfq := hown.frozenAt i
      have hdiv := div64_words r (rd (digs U a) i) b hD.rb (rd_lt HLt.out U_pos i) hb1
      have hA0 : w.cell? ⟨ab, ao + i, none⟩ = some (.int .u64 (rd (digs U a) i : Nat)) := by
        obtain ⟨b', o', e, hc⟩ := ht.at_ (j := i) (by omega)
        injection e with e; injection e with e1 e2; subst e1; subst e2
        exact hc
      clear h1
      have hx0 : (0 : Int) ≤ (i : Int) := by omega
      have hx1 : (i : Int) < (m : Int) := by omega
      have hx2 : (i : Int) ≤ (m : Int) := by omega
      go_wp2
      go_region_held3 (fun w' => w'.cell? ⟨ab, ao + i, none⟩ = some (.int .u64 (rd (digs U a) i : Nat)) ∧ w'.cell? ⟨bb, bo, none⟩ = some (.int .u64 (b : Nat)))
        (first
          | exact ⟨cell_keep hb.drew hA0, cell_keep hb.drew hc0⟩
          | exact ⟨cell_keep (Below.drawn hb.drew hd) hA0, cell_keep (Below.drawn hb.drew hd) hc0⟩
          | exact ⟨cell_keep ((Below.drawn hb.drew hd).setCell (Nat.le_refl _) _) hA0, cell_keep ((Below.drawn hb.drew hd).setCell (Nat.le_refl _) _) hc0⟩)
        (first
          | (go_at_call 118; refine (hdiv _).mono ?_; rintro e w2 ⟨rfl, hd⟩; have hq1 := (hd.cell ⟨w.heap.size, i, none⟩).trans hcq; have hq2 := (hd.frozen ⟨w.heap.size, i, none⟩).trans hfq))
      go_wp2
      go_roundw
      case rel => exact ⟨i, (i : Int) - 1, _, _, by omega, rfl, by unfold Hid; omega, rfl, hround, ((hown.drewN 1).drawn hd).store _ _, (Below.drawn hb.drew hd).setCell (Nat.le_refl _) _⟩
      case measure => simp [intOf]
end Go.Proofs.YtkanddmihmdagaaGreatDoor.Nat

/- Layer 1, on: one digit of a long quotient. -/
namespace Go.Proofs.YtkanddmihmdagaaGreatDoor.Nat
open Go.RowKit Go.Proofs.YtkanddmihmdagaaGreatDoor.Dig Go.Proofs.YtkanddmihmdagaaGreatDoor.W

/-- the number of i digits from place j on -/
def pw (L : List Nat) (j : Nat) : Nat → Nat
  | 0 => 0
  | i + 1 => pw L j i + U ^ i * rd L (j + i)
theorem pw_pv (L : List Nat) (j i : Nat) : pw L j i = pv U (L.drop j) i := by
  induction i with
  | zero => rfl
  | succ i ih => rw [pw, pv, ih, rd_drop]
theorem pw_lt {L : List Nat} (h : Lt U L) (j i : Nat) : pw L j i < U ^ i := by
  rw [pw_pv]; exact pv_lt U_pos (drop_lt h j) i
theorem pw_ext {L L' : List Nat} {j i : Nat} (h : ∀ t, t < i → rd L (j + t) = rd L' (j + t)) : pw L j i = pw L' j i := by
  induction i with
  | zero => rfl
  | succ i ih => rw [pw, pw, ih (fun t ht => h t (by omega)), h i (by omega)]
theorem pw_set {L : List Nat} {j i x : Nat} (hl : j + i < L.length) : pw (L.set (j + i) x) j (i + 1) = pw L j i + U ^ i * x := by
  rw [pw, rd_set hl, if_pos rfl]
  congr 1
  apply pw_ext
  intro t ht
  rw [rd_set hl, if_neg (by omega)]
/-- one limb of 'u - v guess' -/
theorem ms_step {x G cy u br : Nat} (hx : x < U) (hG : G < U) (hcy : cy < U) (hu : u < U) (hbr : br ≤ 1) :
    subLo u (alo (mlo x G) cy 0) br + x * G + cy + br = u + U * (lt01 u (alo (mlo x G) cy 0 + br) + (mhi x G + ahi (mlo x G) cy 0)) ∧ mhi x G + ahi (mlo x G) cy 0 < U ∧ subLo u (alo (mlo x G) cy 0) br < U := by
  have hm := mul_step hx hG hcy U_pos
  have e1 := split_U (x * G)
  have e2 := split_U (mlo x G + cy + 0)
  have hl : alo (mlo x G) cy 0 < U := alo_lt _ _ _
  have key : subLo u (alo (mlo x G) cy 0) br + alo (mlo x G) cy 0 + br = u + U * lt01 u (alo (mlo x G) cy 0 + br) := by
    unfold subLo lt01
    generalize alo (mlo x G) cy 0 = y at *
    split
    · rw [Nat.mod_eq_of_lt (by omega)]; omega
    · rw [show u + U - y - br = u - y - br + U by omega, Nat.add_mod_right, Nat.mod_eq_of_lt (by omega)]; omega
  refine ⟨?_, ?_, Nat.mod_lt _ U_pos⟩
  · rw [Nat.mul_add, Nat.mul_add]
    have e3 : mlo x G + U * mhi x G = x * G := e1
    have e4 : alo (mlo x G) cy 0 + U * ahi (mlo x G) cy 0 = mlo x G + cy + 0 := e2
    generalize alo (mlo x G) cy 0 = y at *
    omega
  · have := hm.2; omega
/-- what holds behind i limbs of 'u - v guess' -/
structure DigM (L lv Lp : List Nat) (j n G i br cy : Nat) : Prop where
  len : Lp.length = L.length
  lt : Lt U Lp
  out : ∀ p, (p < j ∨ j + i ≤ p) → rd Lp p = rd L p
  brl : br ≤ 1
  cyl : cy < U
  end0 : n < i → cy = 0
  vl : pw Lp j i + G * pv U lv i = pw L j i + U ^ i * (br + cy)
theorem DigM.start {L : List Nat} (lv : List Nat) (h : Lt U L) (j n G : Nat) : DigM L lv L j n G 0 0 0 :=
  ⟨rfl, h, fun _ _ => rfl, by omega, U_pos, fun h => absurd h (by omega), by simp [pw, pv]⟩
theorem ms_val {a b c P o G x y br cy br' cy' V : Nat} (h : a + G * b = c + P * (br + cy)) (hs : o + x * G + cy + br = y + V * (br' + cy')) : a + P * o + G * (b + P * x) = c + P * y + P * V * (br' + cy') := by
  have := congrArg (fun z => P * z) hs
  simp only [Nat.mul_add] at this
  simp only [Nat.mul_add] at h ⊢
  have e : G * (P * x) = P * (x * G) := by rw [Nat.mul_left_comm, Nat.mul_comm G x]
  have e2 : P * V * br' = P * (V * br') := Nat.mul_assoc ..
  have e3 : P * V * cy' = P * (V * cy') := Nat.mul_assoc ..
  omega
theorem DigM.round {L lv Lp : List Nat} {j n G i br cy : Nat} (h : DigM L lv Lp j n G i br cy) (hL : Lt U L) (hlv : Lt U lv) (hG : G < U) (hj : j + i < L.length) (hn : lv.length ≤ n) (hi : i ≤ n) :
    DigM L lv (Lp.set (j + i) (subLo (rd L (j + i)) (alo (mlo (rd lv i) G) cy 0) br)) j n G (i + 1) (lt01 (rd L (j + i)) (alo (mlo (rd lv i) G) cy 0 + br)) (mhi (rd lv i) G + ahi (mlo (rd lv i) G) cy 0) := by
  have hs := ms_step (rd_lt hlv U_pos i) hG h.cyl (rd_lt hL U_pos (j + i)) h.brl
  have hl : j + i < Lp.length := by rw [h.len]; exact hj
  refine ⟨by rw [List.length_set, h.len], set_lt h.lt hs.2.2, fun p hp => ?_, by unfold lt01; split <;> omega, hs.2.1, fun hlt => ?_, ?_⟩
  · rw [rd_set hl, if_neg (by omega)]
    exact h.out p (by omega)
  · have h0 : rd lv i = 0 := rd_ge (by omega)
    rw [h0]
    unfold mhi mlo ahi
    rw [Nat.zero_mul, Nat.zero_div, Nat.zero_mod, Nat.zero_add, Nat.zero_add, Nat.add_zero, Nat.div_eq_of_lt h.cyl]
  · rw [pw_set hl, pv, pw, Nat.pow_succ]
    exact ms_val h.vl hs.1
/-- what holds at the head of a round that adds v again -/
structure DigA (L lv Lp : List Nat) (j n G br : Nat) : Prop where
  len : Lp.length = L.length
  lt : Lt U Lp
  out : ∀ p, (p < j ∨ j + (n + 1) ≤ p) → rd Lp p = rd L p
  brl : br ≤ 1
  Gl : G < U
  ge : pw L j (n + 1) / val U lv ≤ G
  vl : pw Lp j (n + 1) + G * val U lv = pw L j (n + 1) + U ^ (n + 1) * br
theorem DigM.turn {L lv Lp : List Nat} {j n G br cy : Nat} (h : DigM L lv Lp j n G (n + 1) br cy) (hn : lv.length ≤ n) (hG : G < U) (hge : pw L j (n + 1) / val U lv ≤ G) : DigA L lv Lp j n G br := by
  have hv := h.vl
  rw [h.end0 (by omega), Nat.add_zero, pv_all U (by omega)] at hv
  exact ⟨h.len, h.lt, h.out, h.brl, hG, hge, hv⟩
theorem DigA.done {L lv Lp : List Nat} {j n G : Nat} (h : DigA L lv Lp j n G 0) (hV : 0 < val U lv) : G = pw L j (n + 1) / val U lv ∧ pw Lp j (n + 1) = pw L j (n + 1) % val U lv := by
  have hv := h.vl
  rw [Nat.mul_zero, Nat.add_zero] at hv
  have hG : G = pw L j (n + 1) / val U lv := Nat.le_antisymm ((Nat.le_div_iff_mul_le hV).2 (by omega)) h.ge
  refine ⟨hG, ?_⟩
  have e := Nat.div_add_mod' (pw L j (n + 1)) (val U lv)
  rw [← hG] at e
  omega
theorem DigA.more {L lv Lp : List Nat} {j n G : Nat} (h : DigA L lv Lp j n G 1) (hV : 0 < val U lv) : pw L j (n + 1) / val U lv + 1 ≤ G := by
  show pw L j (n + 1) / val U lv < G
  rw [Nat.div_lt_iff_lt_mul hV]
  have hv := h.vl
  have hl := pw_lt h.lt j (n + 1)
  rw [Nat.mul_one] at hv
  omega
/-- what holds behind i limbs of that sum -/
structure DigS (L lv Lp Lc : List Nat) (j n i c : Nat) : Prop where
  len : Lc.length = L.length
  lt : Lt U Lc
  out : ∀ p, (p < j ∨ j + (n + 1) ≤ p) → rd Lc p = rd L p
  same : ∀ p, j + i ≤ p → rd Lc p = rd Lp p
  cl : c ≤ 1
  vl : pw Lc j i + U ^ i * c = pw Lp j i + pv U lv i
theorem DigA.enter {L lv Lp : List Nat} {j n G br : Nat} (h : DigA L lv Lp j n G br) : DigS L lv Lp Lp j n 0 0 :=
  ⟨h.len, h.lt, h.out, fun _ _ => rfl, by omega, by simp [pw, pv]⟩
theorem DigS.round {L lv Lp Lc : List Nat} {j n i c : Nat} (h : DigS L lv Lp Lc j n i c) (hlv : Lt U lv) (hj : j + i < L.length) (hi : i ≤ n) :
    DigS L lv Lp (Lc.set (j + i) (alo (rd Lc (j + i)) (rd lv i) c)) j n (i + 1) (ahi (rd Lc (j + i)) (rd lv i) c) := by
  have hl : j + i < Lc.length := by rw [h.len]; exact hj
  have h1 := rd_lt h.lt U_pos (j + i)
  have h2 := rd_lt hlv U_pos i
  refine ⟨by rw [List.length_set, h.len], set_lt h.lt (alo_lt _ _ _), fun p hp => ?_, fun p hp => ?_, ?_, ?_⟩
  · rw [rd_set hl, if_neg (by omega)]; exact h.out p hp
  · rw [rd_set hl, if_neg (by omega)]; exact h.same p (by omega)
  · unfold ahi
    have : (rd Lc (j + i) + rd lv i + c) / U < 2 := (Nat.div_lt_iff_lt_mul U_pos).2 (by have := h.cl; omega)
    omega
  · rw [pw_set hl, pv, pw, ← h.same (j + i) (Nat.le_refl _)]
    unfold alo ahi
    exact add_round h.vl
theorem DigS.leave {L lv Lp Lc : List Nat} {j n c G : Nat} (h : DigS L lv Lp Lc j n (n + 1) c) (hA : DigA L lv Lp j n (G + 1) 1) (hV : 0 < val U lv) (hn : lv.length ≤ n) : DigA L lv Lc j n G (1 - c) := by
  have hm := hA.more hV
  refine ⟨h.len, h.lt, h.out, by omega, by have := hA.Gl; omega, by omega, ?_⟩
  have hv := h.vl
  have hv2 := hA.vl
  rw [pv_all U (by omega)] at hv
  rw [Nat.add_mul, Nat.one_mul, Nat.mul_one] at hv2
  have hc := h.cl
  rcases (show c = 0 ∨ c = 1 by omega) with rfl | rfl
  · rw [Nat.mul_zero] at hv; rw [Nat.sub_zero, Nat.mul_one]; omega
  · rw [Nat.mul_one] at hv; rw [Nat.sub_self, Nat.mul_zero]; omega
/-- the guess is not below the digit -/
theorem guess_ge {L lv : List Nat} {j k : Nat} (hL : Lt U L) (hlv : lv.length = k + 1) (hlt : Lt U lv) (ht : rd lv k ≠ 0) :
    pw L j (k + 2) / val U lv ≤ dvq (rd L (j + (k + 1))) (rd L (j + k)) (rd lv k) := by
  unfold dvq
  rw [Nat.le_div_iff_mul_le (by omega)]
  have hV : 0 < val U lv := by
    have := val_take_succ U (xs := lv) (i := k) (by omega)
    rw [← hlv, List.take_length] at this
    rw [this]
    have : 0 < U ^ k * rd lv k := Nat.mul_pos (Nat.pow_pos U_pos) (by omega)
    omega
  have h1 : pw L j (k + 2) / val U lv * val U lv ≤ pw L j (k + 2) := Nat.div_mul_le_self _ _
  have hv := val_take_succ U (xs := lv) (i := k) (by omega)
  rw [← hlv, List.take_length] at hv
  have h2 : pw L j (k + 2) / val U lv * (U ^ k * rd lv k) ≤ pw L j (k + 2) / val U lv * val U lv := Nat.mul_le_mul_left _ (by omega)
  have h3 := pw_lt hL j k
  have h4 : pw L j (k + 2) < U ^ k * (rd L (j + (k + 1)) * U + rd L (j + k) + 1) := by
    rw [pw, pw, Nat.pow_succ]
    have : U ^ k * U * rd L (j + (k + 1)) = U ^ k * (rd L (j + (k + 1)) * U) := by rw [Nat.mul_assoc, Nat.mul_comm U]
    rw [this, Nat.mul_add, Nat.mul_add]
    omega
  have h5 : U ^ k * (pw L j (k + 2) / val U lv * rd lv k) < U ^ k * (rd L (j + (k + 1)) * U + rd L (j + k) + 1) := by
    rw [Nat.mul_left_comm]
    omega
  exact Nat.le_of_lt_succ (Nat.lt_of_mul_lt_mul_left h5)
end Go.Proofs.YtkanddmihmdagaaGreatDoor.Nat

/- Layer 1, on: the walk of one digit of a long quotient. -/
namespace Go.Proofs.YtkanddmihmdagaaGreatDoor.Nat
open Go.RowKit Go.Proofs.YtkanddmihmdagaaGreatDoor.Dig Go.Proofs.YtkanddmihmdagaaGreatDoor.W

theorem grown_trans {a b c : World} {row : Option Nat} (h : a.grownBy b row) (h' : b.grownBy c row) : a.grownBy c row :=
  ⟨h'.os.trans h.os, h'.tape.trans h.tape, h'.output.trans h.output, Nat.le_trans h.size h'.size, fun k hk hr => (h'.block k (Nat.lt_of_lt_of_le hk h.size) hr).trans (h.block k hk hr)⟩
theorem grown_drawn {a b c : World} {row : Option Nat} (h : a.grownBy b row) (h' : Drawn b c) : a.grownBy c row := by
  obtain ⟨n, rfl⟩ := h'
  exact ⟨h.os, h.tape, h.output, h.size, h.block⟩
theorem grown_set {a b : World} {g : Nat} (h : a.grownBy b (some g)) (p : Nat) (u : Value) : a.grownBy (b.setCell ⟨g, p, none⟩ u) (some g) :=
  ⟨h.os, h.tape, h.output, by simpa using h.size, fun k hk hr => (Below.heap_setCell b ⟨g, p, none⟩ u k (fun e => hr (by rw [e]))).trans (h.block k hk hr)⟩
theorem SI.grownOff {w w' : World} {k : IntKind} {A : Option Addr} {n c g : Nat} {l : List Nat} (h : SI w k A n c l) (hne : ∀ b o, A = some ⟨b, o, none⟩ → b ≠ g) (hg : w.grownBy w' (some g)) : SI w' k A n c l :=
  Sl.grown h hg (fun b o e he => hne b o e (by injection he))
theorem quiet_of_drawn {P : Program} {f : FuncId} {args : Array Value} {w : World} {n : Nat} {v : Value} (h : Calls P f args (w.drewN n) fun e w' => e = .returned v ∧ Drawn (w.drewN n) w') :
    Calls P f args (w.drewN n) fun e w' => e = .returned v ∧ ∃ m, w' = w.drewN m :=
  h.mono fun _ _ ⟨a, b⟩ => ⟨a, by obtain ⟨m, rfl⟩ := b; exact ⟨n + m, World.drewN_drewN _ _ _⟩⟩
/-- the digit -/
def dgt (L : List Nat) (j k : Nat) (lv : List Nat) : Nat := pw L j (k + 2) / val U lv
theorem dgt_lt {L lv : List Nat} {j k : Nat} (h : pw L j (k + 2) < val U lv * U) : dgt L j k lv < U := by
  unfold dgt
  rcases Nat.eq_zero_or_pos (val U lv) with z | z
  · rw [z, Nat.div_zero]; exact U_pos
  · rw [Nat.div_lt_iff_lt_mul z, Nat.mul_comm]; exact h
/-- what digit leaves of the row -/
structure DigR (L L' lv : List Nat) (j k : Nat) : Prop where
  len : L'.length = L.length
  lt : Lt U L'
  out : ∀ p, (p < j ∨ j + (k + 2) ≤ p) → rd L' p = rd L p
  vl : pw L' j (k + 2) = pw L j (k + 2) % val U lv
def DigitPost (w : World) (base g N cap j k : Nat) (L lv : List Nat) (e : Ending) (w' : World) : Prop :=
  ∃ L', e = .returned (.int .u64 (dgt L j k lv : Nat)) ∧ DigR L L' lv j k ∧ Ow w' base 88 .u64 (.slice (some ⟨g, 0, none⟩) N cap) L' ∧ w.grownBy w' (some g)

def GuessR (w : World) (L lv : List Nat) (j k : Nat) (a : Value) (wx : World) : Prop := ∃ G : Nat, a = .int .u64 (G : Nat) ∧ dgt L j k lv ≤ G ∧ G < U ∧ Drawn w wx
set_option maxHeartbeats 1600000 in
set_option maxRecDepth 100000 in
theorem digit_calls (base g j k N cap cu c' : Nat) (A' : Option Addr) (L lv : List Nat) (w : World)
    (hown : Ow w base 88 .u64 (.slice (some ⟨g, 0, none⟩) N cap) L) (hL : Lt U L) (hjn : j + (k + 2) ≤ N) (hk : k ≤ 1099511627776) (hcu : k + 2 ≤ cu)
    (hv : SI w .u64 A' (k + 1) c' lv) (hne : ∀ b o, A' = some ⟨b, o, none⟩ → b ≠ g) (hlv : Lt U lv) (ht : rd lv k ≠ 0) (hlt : pw L j (k + 2) < val U lv * U) :
    Calls Tryz.prog 122 #[.slice (some ⟨g, j, none⟩) (k + 2) cu, .slice A' (k + 1) c'] w (DigitPost w base g N cap j k L lv) := by
  have hlen : lv.length = k + 1 := hv.len
  have hV : 0 < val U lv := by
    have := val_take_succ U (xs := lv) (i := k) (by omega)
    rw [← hlen, List.take_length] at this
    rw [this]
    have : 0 < U ^ k * rd lv k := Nat.mul_pos (Nat.pow_pos U_pos) (by omega)
    omega
  have HG := Lib.hid (guess_ge (j := j) hL hlen hlv ht)
  have HD := Lib.hid (dgt_lt hlt)
  have HV := Lib.hid hV
  have HT := Lib.hid ht
  have HN := Lib.hid hne
  have HLEN := Lib.hid hlen
  obtain ⟨vb, vo, rfl, hvk⟩ := hv.at_ (j := k) (by omega)
  have hu0 := hown.cellAt (j := j + k) (by omega)
  have hu1 := hown.cellAt (j := j + (k + 1)) (by omega)
  have t1 : IntKind.i64.wrap ((k : Int) + 1 - 1) = (k : Int) := by rw [IntKind.wrap_i64]; omega
  have t2 : (0 : Int) ≤ (k : Int) + 1 := by omega
  have t3 : (k : Int) + 1 < (k : Int) + 2 := by omega
  have t4 : ((k : Int) + 1).toNat = k + 1 := by omega
  have t5 : (0 : Int) ≤ (k : Int) := by omega
  have t6 : (k : Int) < (k : Int) + 2 := by omega
  have t7 : (k : Int) < (k : Int) + 1 := by omega
  clear hlt hV ht hne hlen
  go_enter Tryz.func122, Tryz.ntmps122
  go_wp2
  go_quiet (fail)
  have d0 : Drawn w (w.drewN nq) := (Drawn.refl w).drewN nq
  have hownq := hown.drawn d0
  have hvq := hv.below d0.below
  have hu0q := hownq.cellAt (j := j + k) (by omega)
  have hu1q := hownq.cellAt (j := j + (k + 1)) (by omega)
  have hvkq : (w.drewN nq).cell? ⟨vb, vo + k, none⟩ = _ := hvk
  generalize w.drewN nq = wq at *
  clear hu0 hu1 hvk
  generalize hM : (18446744073709551615 : Int) = M
  have HM := Lib.hid hM
  clear hM
  go_upto_if 26 with (fail)
  go_cut [6] (fun a wx => GuessR w L lv j k a wx)
  case first =>
    by_cases hc : rd L (j + (k + 1)) < rd lv k
    · have c1 : decide (rd L (j + (k + 1)) < rd lv k) = true := decide_eq_true hc
      have hdiv := div64_words (rd L (j + (k + 1))) (rd L (j + k)) (rd lv k) hc (rd_lt hL U_pos _) (rd_lt hlv U_pos _)
      have hql : dvq (rd L (j + (k + 1))) (rd L (j + k)) (rd lv k) < U := by
        unfold dvq
        rw [Nat.div_lt_iff_lt_mul (by omega)]
        have := Nat.mul_le_mul_right U (show rd L (j + (k + 1)) + 1 ≤ rd lv k by omega)
        rw [Nat.add_mul, Nat.one_mul, Nat.mul_comm (rd lv k) U] at this
        have := rd_lt hL U_pos (j + k)
        omega
      go_wp2_with fail
      go_quiet ((go_at_call 118; exact quiet_of_drawn (hdiv _)))
      go_wp2_with fail
      go_meet
      case rel => exact ⟨_, rfl, HG.out, hql, d0.drewN _⟩
    · have c1 : decide (rd L (j + (k + 1)) < rd lv k) = false := decide_eq_false hc
      go_wp2_with fail
      go_meet
      case rel => exact ⟨18446744073709551615, by rw [← HM.out]; simp, by have := HD.out; unfold U at this; omega, by unfold U; omega, d0⟩
  case rest =>
    obtain ⟨G, rfl, hG1, hG2, hd1⟩ := hcut
    clear hownq hvq hu0q hu1q hvkq d0 HG HD HT HM
    have hown1 := hown.drawn hd1
    have hg1 : w.grownBy wc (some g) := grown_drawn (World.grownBy.refl w _) hd1
    go_wp2
    go_loopw [7, 8, 47] (fun b c z wr => ∃ (br cy i : Nat) (Lp : List Nat), b = .int .u64 (br : Nat) ∧ c = .int .u64 (cy : Nat) ∧ z = .int .i64 (i : Nat) ∧ i ≤ k + 2 ∧ DigM L lv Lp j (k + 1) G i br cy ∧ Ow wr base 88 .u64 (.slice (some ⟨g, 0, none⟩) N cap) Lp ∧ w.grownBy wr (some g)) (fun _ _ z _ => k + 2 - (intOf z).toNat)
    case atStart => exact ⟨0, 0, 0, L, rfl, rfl, rfl, Nat.zero_le _, DigM.start lv hL j (k + 1) G, hown1, hg1⟩
    case round =>
      clear hown1 hg1 hd1
      obtain ⟨br, cy, i, Lp, rfl, rfl, rfl, hi, hM, hownr, hg⟩ := hrel
      by_cases hlt : i < k + 2
      · have hcell := hownr.cellAt (j := j + i) (by omega)
        rw [hM.out (j + i) (.inr (Nat.le_refl _))] at hcell
        have hfr := hownr.frozenAt (j + i)
        have hat := at_calls (some ⟨vb, vo, none⟩) (k + 1) c' lv i wr (SI.grownOff hv HN.out hg)
        have hround := hM.round hL hlv hG2 (by rw [hown.len_]; omega) (by rw [HLEN.out]; exact Nat.le_refl _) (by omega)
        have hs := ms_step (rd_lt hlv U_pos i) hG2 hM.cyl (rd_lt hL U_pos (j + i)) hM.brl
        have hmul := mul64_calls (rd lv i) G (rd_lt hlv U_pos i) hG2
        have hb0 := hM.brl
        have ha1 := add64_zero (mlo (rd lv i) G) cy
        have hs1 := sub64_run (rd L (j + i)) (alo (mlo (rd lv i) G) cy 0) br hb0
        have hbd : mhi (rd lv i) G + ahi (mlo (rd lv i) G) cy 0 ≤ 18446744073709551615 := Nat.le_of_lt_succ hs.2.1
        clear hs hb0
        generalize mhi (rd lv i) G = x1 at *
        generalize mlo (rd lv i) G = x2 at *
        generalize ahi x2 cy 0 = x3 at *
        generalize alo x2 cy 0 = x4 at *
        generalize lt01 (rd L (j + i)) (x4 + br) = x6 at *
        generalize subLo (rd L (j + i)) x4 br = x5 at *
        generalize rd L (j + i) = x7 at *
        generalize rd lv i = x8 at *
        go_wp2_with (first
          | (go_at_call 153; (with_reducible refine hat.mono ?_); rintro e w' ⟨rfl, rfl⟩)
          | (go_at_call 93; refine (hmul _).mono ?_; rintro e w' ⟨rfl, rfl⟩)
          | (simp only [ha1])
          | (simp only [hs1]))
        go_roundw
        case rel => exact ⟨x6, x1 + x3, i + 1, _, rfl, by go_num, by go_num, by omega, hround, hownr.store _ _, grown_set hg _ _⟩
        case measure => simp [intOf]; omega
      · have hik : i = k + 2 := by omega
        have hA := (show DigM L lv Lp j (k + 1) G (k + 1 + 1) br cy by rw [hik] at hM; exact hM).turn (by rw [HLEN.out]; exact Nat.le_refl _) hG2 hG1
        have hx : decide ((i : Int) < (k : Int) + 1 + 1) = false := decide_eq_false (by omega)
        have hx2 : ¬ ((i : Int) < (k : Int) + 1 + 1) := by omega
        have HIK := Lib.hid hik
        clear hM hlt hik hi
        go_wp2
        go_loopw [6, 7] (fun a b wr => ∃ (G br : Nat) (Lp : List Nat), a = .int .u64 (G : Nat) ∧ b = .int .u64 (br : Nat) ∧ DigA L lv Lp j (k + 1) G br ∧ Ow wr base 88 .u64 (.slice (some ⟨g, 0, none⟩) N cap) Lp ∧ w.grownBy wr (some g)) (fun a _ _ => (intOf a).toNat)
        case atStart => exact ⟨G, br, Lp, rfl, rfl, hA, hownr, hg⟩
        case round =>
          clear hA hownr hg hG1 hG2
          obtain ⟨G, br, Lp, rfl, rfl, hA, hownr, hg⟩ := hrel
          rcases (show br = 0 ∨ br = 1 by have := hA.brl; omega) with rfl | hbr
          · obtain ⟨f1, f2⟩ := hA.done HV.out
            have F1 := Lib.hid f1
            clear f1
            have hR : DigR L Lp lv j k := ⟨hA.len, hA.lt, hA.out, f2⟩
            clear f2
            go_wp2
            go_ret
            exact ⟨Lp, by rw [F1.out]; rfl, hR, hownr, hg⟩
          · have hA : DigA L lv Lp j (k + 1) G 1 := by subst hbr; exact hA
            have hpos : (0 : Int) < (br : Int) := by omega
            have hpos2 : 0 < br := by omega
            have HB := Lib.hid hbr
            clear hbr
            have hm := hA.more HV.out
            obtain ⟨G1, hG1⟩ : ∃ G', G = G' + 1 := ⟨G - 1, by have := Nat.le_trans (Nat.le_add_left 1 _) hm; omega⟩
            have hA : DigA L lv Lp j (k + 1) (G1 + 1) 1 := by rw [← hG1]; exact hA
            have hGU : G1 + 1 < U := hA.Gl
            have hw1 : IntKind.u64.wrap ((G : Int) - 1) = (G1 : Int) := by rw [IntKind.wrap_u64]; unfold U at hGU; omega
            have HG1 := Lib.hid hG1
            clear hm hG1 hGU
            go_wp2
            obtain ⟨wo, rfl⟩ : ∃ wo : World, wo = wr := ⟨_, rfl⟩
            go_loopw [13, 87] (fun c z wr => ∃ (cc i : Nat) (Lc : List Nat), c = .int .u64 (cc : Nat) ∧ z = .int .i64 (i : Nat) ∧ i ≤ k + 2 ∧ DigS L lv Lp Lc j (k + 1) i cc ∧ Ow wr base 88 .u64 (.slice (some ⟨g, 0, none⟩) N cap) Lc ∧ w.grownBy wr (some g)) (fun _ z _ => k + 2 - (intOf z).toNat)
            case atStart => exact ⟨0, 0, Lp, rfl, rfl, Nat.zero_le _, hA.enter, hownr, hg⟩
            case round =>
              clear hownr hg
              obtain ⟨cc, i, Lc, rfl, rfl, hi, hS, hownr, hg⟩ := hrel
              by_cases hlt : i < k + 2
              · have hcell : wr.drew.cell? _ = _ := hownr.cellAt (j := j + i) (by omega)
                have hfr : wr.drew.frozen? _ = _ := hownr.frozenAt (j + i)
                have hat := at_calls (some ⟨vb, vo, none⟩) (k + 1) c' lv i wr.drew ((SI.grownOff hv HN.out hg).drewN 1)
                have hround := hS.round hlv (by rw [hown.len_]; omega) (by omega)
                have hadd := add64_words (rd Lc (j + i)) (rd lv i) cc hS.cl
                generalize alo (rd Lc (j + i)) (rd lv i) cc = x1 at *
                generalize ahi (rd Lc (j + i)) (rd lv i) cc = x2 at *
                generalize rd Lc (j + i) = x3 at *
                generalize rd lv i = x4 at *
                have q1 : (0 : Int) ≤ (i : Int) := by omega
                have q2 : (i : Int) < (k : Int) + 2 := by omega
                go_wp2
                go_region_law (first
                    | (go_simp; go_at_call 153; (with_reducible refine hat.mono ?_); rintro e w' ⟨rfl, rfl⟩)
                    | (simp only [hadd]))
                all_goals
                  go_wp2
                  go_roundw
                  case rel => exact ⟨x2, i + 1, _, rfl, by go_num, by omega, hround, (hownr.drewN 1).store _ _, grown_set (grown_drawn hg ((Drawn.refl _).drewN 1)) _ _⟩
                  case measure => simp [intOf]; omega
              · have hik : i = k + 2 := by omega
                have hy : decide ((i : Int) < (k : Int) + 1 + 1) = false := decide_eq_false (by omega)
                have hy2 : ¬ ((i : Int) < (k : Int) + 1 + 1) := by omega
                have hS : DigS L lv Lp Lc j (k + 1) (k + 1 + 1) cc := by rw [hik] at hS; exact hS
                clear hik hi hlt
                have hnx := hS.leave hA HV.out (by rw [HLEN.out]; exact Nat.le_refl _)
                have e1 : IntKind.u64.wrap ((br : Int) - (cc : Int)) = ((1 - cc : Nat) : Int) := by
                  have := hS.cl
                  have := HB.out
                  rw [IntKind.wrap_u64]; omega
                clear hS hA
                go_wp2
                go_roundw
                case rel => exact ⟨G1, 1 - cc, Lc, rfl, rfl, hnx, hownr, hg⟩
                case measure => simp [intOf]; have := HG1.out; omega
end Go.Proofs.YtkanddmihmdagaaGreatDoor.Nat

/- Layer 1, on: long quotients. -/
namespace Go.Proofs.YtkanddmihmdagaaGreatDoor.Nat
open Go.RowKit Go.Proofs.YtkanddmihmdagaaGreatDoor.Dig Go.Proofs.YtkanddmihmdagaaGreatDoor.W

set_option maxHeartbeats 400000 in
theorem divmod_less (A A' : Option Addr) (n c n' c' : Nat) (l l' : List Nat) (w : World) (h : SI w .u64 A n c l) (h' : SI w .u64 A' n' c' l') (hl : Lt U l) (hl' : Lt U l') (hn : n ≤ 1099511627776) (hbig : U ≤ val U l') (hlt : val U l < val U l') :
    Calls Tryz.prog 81 #[.slice A n c, .slice A' n' c'] w (GivesQR w 88 .u64 (digs U (val U l / val U l')) (digs U (val U l % val U l'))) := by
  have T := trim_calls A n c l w h
  have T' := trim_calls A' n' c' l' w h'
  have ht := trim_reads h hl
  have ht' := trim_reads h' hl'
  have hL' := ht'.len
  have hmn := trimN_le l n
  have hk : 2 ≤ trimN l' n' := by
    rw [← hL']
    rcases Nat.lt_or_ge (digs U (val U l')).length 2 with z | z
    · have := (digs_length_le U_two (val U l') 1).1 (by omega)
      rw [Nat.pow_one] at this
      omega
    · exact z
  have hC := cmp_calls A A' _ c _ c' _ _ w ht ht' (digs_lt U_two _) (digs_lt U_two _)
  have hN := fun w1 (hd : Drawn w w1) => norm_calls A _ c _ w1 (ht.below hd.below) (digs_lt U_two _) (by omega)
  rw [val_digs U_two, val_digs U_two] at hC
  rw [show cmp (val U l) (val U l') = -1 by unfold cmp; rw [if_pos hlt]] at hC
  rw [val_digs U_two] at hN
  rw [Nat.div_eq_of_lt hlt, Nat.mod_eq_of_lt hlt, digs_zero]
  have HN := Lib.hid hN
  generalize trimN l n = m at *
  generalize trimN l' n' = m' at *
  generalize digs U (val U l) = da at *
  have b0 : ((m' : Int) == 0) = false := by simp; omega
  have b1 : ((m' : Int) == 1) = false := by simp; omega
  clear hN hlt hbig hL' ht ht' h h' hl hl'
  go_enter Tryz.func81, Tryz.ntmps81
  go_wp2_with (first
    | (go_at_call 95; first | ((with_reducible refine T.mono ?_); rintro e w' ⟨rfl, rfl⟩) | ((with_reducible refine T'.mono ?_); rintro e w' ⟨rfl, rfl⟩))
    | (go_at_call 119; (with_reducible refine hC.mono ?_); rintro e w1 ⟨rfl, hd⟩)
    | (go_at_call 115; refine (HN.out w1 hd).mono ?_; rintro e w2 ⟨v, rfl, ho, hb⟩))
  go_ret3
  exact ⟨_, _, rfl, Ow.nil _ _ _ _, ho.lower hd.below.size, hd.below.trans (hb.mono hd.below.size)⟩

/-- what holds of the row and of the quotient, behind the digits from i on -/
structure DivLg (A2 V k M : Nat) (L Q : List Nat) (i : Nat) : Prop where
  len : L.length = M + (k + 1)
  lt : Lt U L
  qlen : Q.length = M
  qlt : Lt U Q
  vl : val U L + U ^ i * val U (Q.drop i) * V = A2
  top : val U (L.drop i) < V
theorem pv_le (xs : List Nat) (i : Nat) : val U xs = pv U xs i + U ^ i * val U (xs.drop i) := by
  rcases Nat.lt_or_ge i xs.length with h | h
  · rw [pv_take]; exact val_take_drop U xs i (by omega)
  · rw [pv_all U h, List.drop_eq_nil_of_le h, val_nil, Nat.mul_zero, Nat.add_zero]
theorem DivLg.window {A2 V k M : Nat} {L Q : List Nat} {j : Nat} (h : DivLg A2 V k M L Q (j + 1)) (hV : V < U ^ (k + 1)) (hj : j < M) :
    pw L j (k + 2) = val U (L.drop j) ∧ pw L j (k + 2) < V * U ∧ val U (L.drop (j + (k + 2))) = 0 := by
  have hjl : j < L.length := by rw [h.len]; omega
  have e1 : val U (L.drop j) = rd L j + U * val U (L.drop (j + 1)) := by rw [drop_rd hjl, val_cons]
  have hr := rd_lt h.lt U_pos j
  have ht := h.top
  have hlt : val U (L.drop j) < V * U := by
    have : U * (val U (L.drop (j + 1)) + 1) ≤ U * V := Nat.mul_le_mul_left _ ht
    rw [Nat.mul_add, Nat.mul_comm U V] at this
    omega
  have e2 := pv_le (L.drop j) (k + 2)
  rw [List.drop_drop] at e2
  have h0 : val U (L.drop (j + (k + 2))) = 0 := by
    rcases Nat.eq_zero_or_pos (val U (L.drop (j + (k + 2)))) with z | z
    · exact z
    · have h1 : U ^ (k + 2) ≤ U ^ (k + 2) * val U (L.drop (j + (k + 2))) := Nat.le_mul_of_pos_right _ z
      have h2 : V * U ≤ U ^ (k + 1) * U := Nat.mul_le_mul_right _ (Nat.le_of_lt hV)
      rw [← Nat.pow_succ] at h2
      have h3 : U ^ (k + 1).succ = U ^ (k + 2) := rfl
      rw [h3] at h2
      omega
  rw [h0, Nat.mul_zero, Nat.add_zero] at e2
  rw [pw_pv, ← e2]
  exact ⟨rfl, hlt, h0⟩
theorem take_eq_of_rd {L L' : List Nat} {j : Nat} (hl : L'.length = L.length) (h : ∀ p, p < j → rd L' p = rd L p) : L'.take j = L.take j := by
  apply ext_rd (by rw [List.length_take, List.length_take, hl])
  intro p hp
  rw [List.length_take] at hp
  rw [rd_take (by omega), rd_take (by omega), h p (by omega)]
theorem drop_eq_of_rd {L L' : List Nat} {j : Nat} (hl : L'.length = L.length) (h : ∀ p, j ≤ p → rd L' p = rd L p) : L'.drop j = L.drop j := by
  apply ext_rd (by rw [List.length_drop, List.length_drop, hl])
  intro p hp
  rw [rd_drop, rd_drop, h _ (by omega)]
theorem div_alg {y P r q V B x W : Nat} (hW : q * V + r = W) : (y + P * r) + P * (q + B * x) * V = (y + P * W) + P * B * x * V := by
  subst hW
  have e1 : P * (q + B * x) * V = P * (q * V) + P * B * x * V := by rw [Nat.mul_add, Nat.add_mul, Nat.mul_assoc P q V, ← Nat.mul_assoc P B x]
  rw [e1, Nat.mul_add]
  omega
theorem DivLg.round {A2 V k M : Nat} {L L' Q lv : List Nat} {j : Nat} (h : DivLg A2 V k M L Q (j + 1)) (hV : V < U ^ (k + 1)) (hV0 : 0 < V) (hj : j < M) (hv : val U lv = V) (hR : DigR L L' lv j k) (hd : dgt L j k lv < U) :
    DivLg A2 V k M L' (Q.set j (dgt L j k lv)) j := by
  obtain ⟨hw, hwl, h0⟩ := h.window hV hj
  have hjl : j < L.length := by rw [h.len]; omega
  have hjq : j < Q.length := by rw [h.qlen]; exact hj
  have hdr : L'.drop (j + (k + 2)) = L.drop (j + (k + 2)) := drop_eq_of_rd hR.len (fun p hp => hR.out p (.inr hp))
  have htk : L'.take j = L.take j := take_eq_of_rd hR.len (fun p hp => hR.out p (.inl hp))
  have e' := pv_le (L'.drop j) (k + 2)
  rw [List.drop_drop, hdr, h0, Nat.mul_zero, Nat.add_zero, ← pw_pv, hR.vl, hv] at e'
  have hlt := Nat.mod_lt (pw L j (k + 2)) hV0
  have hsum := Nat.div_add_mod' (pw L j (k + 2)) V
  have hq : dgt L j k lv = pw L j (k + 2) / V := by unfold dgt; rw [hv]
  refine ⟨by rw [hR.len, h.len], hR.lt, by rw [List.length_set, h.qlen], set_lt h.qlt hd, ?_, by rw [e']; exact hlt⟩
  have s1 := val_take_drop U L' j (by rw [hR.len]; omega)
  have s2 := val_take_drop U L j (by omega)
  rw [htk, e'] at s1
  rw [← hw] at s2
  have s3 := h.vl
  rw [drop_rd (by rw [List.length_set]; exact hjq), rd_set hjq, if_pos rfl, List.drop_set_of_lt (by omega), val_cons, hq]
  rw [s2] at s3
  rw [s1, ← s3]
  rw [Nat.pow_succ]
  exact div_alg hsum
theorem DivLg.done {a b s k M : Nat} {L Q : List Nat} (h : DivLg (a * 2 ^ s) (b * 2 ^ s) k M L Q 0) : val U Q = a / b ∧ val U L / 2 ^ s = a % b := by
  have hv := h.vl
  have ht := h.top
  rw [List.drop_zero, Nat.pow_zero, Nat.one_mul] at hv
  rw [List.drop_zero] at ht
  exact div_final (by rw [← hv, Nat.add_comm]) ht
/-- the normed divisor has as many limbs, the top one not 0; the dividend's upper limbs are below it -/
theorem norm_div {b k : Nat} (hk : (digs U b).length = k + 1) : ∃ s, 64 - nbits (rd (digs U b) k) = s ∧ s ≤ 63 ∧ (digs U (b * 2 ^ s)).length = k + 1 ∧ 2 ^ 63 * U ^ k ≤ b * 2 ^ s := by
  have hb : b ≠ 0 := fun e => by rw [e, digs_zero] at hk; cases hk
  have ht := digs_top U_two (n := b) (by omega)
  rw [hk, Nat.add_sub_cancel] at ht
  obtain ⟨h1, h2, h3⟩ := norm_top ht (rd_lt (digs_lt U_two b) U_pos k)
  refine ⟨_, rfl, h1, ?_⟩
  generalize 64 - nbits (rd (digs U b) k) = s at *
  have hv := val_take_succ U (xs := digs U b) (i := k) (by omega)
  rw [← hk, List.take_length, val_digs U_two] at hv
  have hlow := val_lt U_pos (take_lt (digs_lt U_two b) k)
  rw [List.length_take, Nat.min_eq_left (by omega)] at hlow
  have hlo : 2 ^ 63 * U ^ k ≤ b * 2 ^ s := by
    rw [hv, Nat.add_mul, Nat.mul_assoc, Nat.mul_comm (2 ^ 63)]
    have := Nat.mul_le_mul_left (U ^ k) h2
    omega
  refine ⟨?_, hlo⟩
  have hup : b * 2 ^ s < U ^ (k + 1) := by
    have e1 : b + 1 ≤ U ^ k * (rd (digs U b) k + 1) := by rw [Nat.mul_add]; omega
    have hUs := U_split h1
    have e2 : rd (digs U b) k + 1 ≤ 2 ^ (64 - s) := by
      generalize rd (digs U b) k = t at h3
      rw [hUs, Nat.mul_comm] at h3
      exact Nat.lt_of_mul_lt_mul_left h3
    have e3 : (b + 1) * 2 ^ s ≤ U ^ k * 2 ^ (64 - s) * 2 ^ s := Nat.mul_le_mul_right _ (Nat.le_trans e1 (Nat.mul_le_mul_left _ e2))
    rw [Nat.mul_assoc, Nat.mul_comm (2 ^ (64 - s)), ← hUs, ← Nat.pow_succ, Nat.add_mul] at e3
    have : 0 < 1 * 2 ^ s := by rw [Nat.one_mul]; exact Nat.pow_pos (by omega)
    have h5 : U ^ k.succ = U ^ (k + 1) := rfl
    rw [h5] at e3
    omega
  apply Nat.le_antisymm ((digs_length_le U_two _ _).2 hup)
  rcases Nat.lt_or_ge (digs U (b * 2 ^ s)).length (k + 1) with z | z
  · have := (digs_length_le U_two (b * 2 ^ s) k).1 (by omega)
    have h6 : 0 < U ^ k := Nat.pow_pos U_pos
    have h7 : U ^ k ≤ 2 ^ 63 * U ^ k := Nat.le_mul_of_pos_left _ (Nat.pow_pos (by omega))
    omega
  · exact z
theorem DivLg.start {a b s k M m : Nat} {L : List Nat} (hs : s ≤ 63) (hlo : 2 ^ 63 * U ^ k ≤ b * 2 ^ s) (hm : (digs U a).length = m) (hM : M + k = m) (hL : L.length = m + 1) (hlt : Lt U L) (hv : val U L = a * 2 ^ s) :
    DivLg (a * 2 ^ s) (b * 2 ^ s) k M L (List.replicate M 0) M := by
  refine ⟨by omega, hlt, List.length_replicate, replicate_lt U_pos _, ?_, ?_⟩
  · rw [List.drop_eq_nil_of_le (by simp), val_nil, Nat.mul_zero, Nat.zero_mul, Nat.add_zero, hv]
  · rw [val_drop hlt, hv, Nat.div_lt_iff_lt_mul (Nat.pow_pos U_pos)]
    have ha := lt_pow_length U_two a
    rw [hm, ← hM, Nat.pow_add] at ha
    have h1 : a * 2 ^ s < U ^ M * U ^ k * 2 ^ s := Nat.mul_lt_mul_of_pos_right ha (Nat.pow_pos (by omega))
    have h2 : 2 ^ s ≤ 2 ^ 63 := Nat.pow_le_pow_right (by omega) hs
    have h3 : U ^ k * 2 ^ s ≤ b * 2 ^ s := by
      refine Nat.le_trans ?_ hlo
      rw [Nat.mul_comm]
      exact Nat.mul_le_mul_right _ h2
    have h4 := Nat.mul_le_mul_left (U ^ M) h3
    rw [← Nat.mul_assoc] at h4
    rw [Nat.mul_comm (b * 2 ^ s)]
    omega
end Go.Proofs.YtkanddmihmdagaaGreatDoor.Nat

/- Layer 1, on: the walk of long quotients. -/
namespace Go.Proofs.YtkanddmihmdagaaGreatDoor.Nat
open Go.RowKit Go.Proofs.YtkanddmihmdagaaGreatDoor.Dig Go.Proofs.YtkanddmihmdagaaGreatDoor.W

theorem Ow.own_some {w : World} {base : Nat} {e : TypeId} {k : IntKind} {v : Value} {l : List Nat} (h : Ow w base e k v l) (hl : 0 < l.length) : ∃ g c, v = .slice (some ⟨g, 0, none⟩) l.length c ∧ base ≤ g ∧ g < w.heap.size := by
  rcases h.2 with ⟨_, h0⟩ | ⟨g, cap, cur, rfl, hb, hh, _⟩
  · omega
  · exact ⟨g, cap, rfl, hb, (Array.getElem?_eq_some_iff.1 hh).1⟩

theorem Ow.si {w : World} {base g n c : Nat} {e : TypeId} {k : IntKind} {l : List Nat} (h : Ow w base e k (.slice (some ⟨g, 0, none⟩) n c) l) : SI w k (some ⟨g, 0, none⟩) n c l := by
  obtain ⟨A2, c2, hv2, hr2⟩ := h.reads
  have hl2 := h.len_
  injection hv2 with e1 e2 e3
  subst e1; subst e3
  rw [hl2] at hr2
  exact hr2
def lenOf : Value → Nat | .slice _ n _ => n | _ => 0
structure LongU (a s m : Nat) (L : List Nat) : Prop where
  lt : Lt U L
  vl : val U L = a * 2 ^ s
  le : L.length ≤ m + 1
theorem LongU.start {a s m : Nat} (hs : s ≤ 63) (hm : (digs U a).length = m) : LongU a s m (digs U (a * 2 ^ s)) := by
  refine ⟨digs_lt U_two _, val_digs U_two _, (digs_length_le U_two _ _).2 ?_⟩
  have ha := lt_pow_length U_two a
  rw [hm] at ha
  have h1 : a * 2 ^ s < U ^ m * 2 ^ s := Nat.mul_lt_mul_of_pos_right ha (Nat.pow_pos (by omega))
  have h2 : 2 ^ s ≤ U := by rw [U_split hs]; exact Nat.le_mul_of_pos_right _ (Nat.pow_pos (by omega))
  have h3 : U ^ m * 2 ^ s ≤ U ^ m * U := Nat.mul_le_mul_left _ h2
  rw [Nat.pow_succ]
  omega
theorem LongU.more {a s m : Nat} {L : List Nat} (h : LongU a s m L) (hl : L.length ≤ m) : LongU a s m (L ++ [0]) :=
  ⟨snoc_lt h.lt U_pos, by rw [val_snoc, h.vl, Nat.mul_zero, Nat.add_zero], by rw [List.length_append]; exact Nat.succ_le_succ hl⟩
theorem Ow.setOther {w : World} {base base' g g' n c n' c' : Nat} {e e' : TypeId} {k k' : IntKind} {l l' : List Nat} (h : Ow w base e k (.slice (some ⟨g, 0, none⟩) n c) l) (h' : Ow w base' e' k' (.slice (some ⟨g', 0, none⟩) n' c') l') (hne : g ≠ g') (j x : Nat) :
    Ow (w.setCell ⟨g', j, none⟩ (.int k' (x : Nat))) base e k (.slice (some ⟨g, 0, none⟩) n c) l := by
  have hl := h'.len_
  unfold Ow at h'
  rw [hl] at h'
  exact World.ownsRow.kept h (World.ownsRow.stored h' j (.int k' (x : Nat))).2 (.inr (by simp [Value.ownBlock]; exact hne))
theorem Ow.grownOff {w w' : World} {base g g' n c : Nat} {e : TypeId} {k : IntKind} {l : List Nat} (h : Ow w base e k (.slice (some ⟨g, 0, none⟩) n c) l) (hg : w.grownBy w' (some g')) (hne : g ≠ g') : Ow w' base e k (.slice (some ⟨g, 0, none⟩) n c) l :=
  World.ownsRow.kept h hg (.inr (by simp [Value.ownBlock]; exact hne))
theorem Below.grownAt {B g : Nat} {a w w' : World} (h : Below B a w) (hg : w.grownBy w' (some g)) (hB : B ≤ w.heap.size) (hge : B ≤ g) : Below B a w' :=
  h.grown hg hB (fun k hk => by injection hk with hk; omega)
set_option maxHeartbeats 3200000 in
set_option maxRecDepth 100000 in
theorem divmod_long (A A' : Option Addr) (n c n' c' : Nat) (l l' : List Nat) (w : World) (h : SI w .u64 A n c l) (h' : SI w .u64 A' n' c' l') (hl : Lt U l) (hl' : Lt U l') (hn : n < 1099511627776) (hn' : n' ≤ 1099511627776) (hbig : U ≤ val U l') (hge : val U l' ≤ val U l) :
    Calls Tryz.prog 81 #[.slice A n c, .slice A' n' c'] w (GivesQR w 88 .u64 (digs U (val U l / val U l')) (digs U (val U l % val U l'))) := by
  have T := trim_calls A n c l w h
  have T' := trim_calls A' n' c' l' w h'
  have ht := trim_reads h hl
  have ht' := trim_reads h' hl'
  have hmn := trimN_le l n
  have hmn' := trimN_le l' n'
  have hC := cmp_calls A A' _ c _ c' _ _ w ht ht' (digs_lt U_two _) (digs_lt U_two _)
  rw [val_digs U_two, val_digs U_two] at hC
  obtain ⟨z, hz, hz0⟩ : ∃ z : Int, cmp (val U l) (val U l') = z ∧ 0 ≤ z := ⟨_, rfl, by unfold cmp; rw [if_neg (by omega)]; split <;> omega⟩
  rw [hz] at hC
  obtain ⟨a, ha⟩ : ∃ a, val U l = a := ⟨_, rfl⟩
  obtain ⟨b, hb⟩ : ∃ b, val U l' = b := ⟨_, rfl⟩
  rw [ha] at ht hge ⊢
  rw [hb] at ht' hbig hge ⊢
  have hLa := ht.len
  have hLb := ht'.len
  have hlen := digs_length_mono U_two hge
  rw [hLa, hLb] at hlen
  obtain ⟨k, hk⟩ : ∃ k, trimN l' n' = k + 1 := ⟨trimN l' n' - 1, by
    have : 0 < (digs U b).length := digs_length_pos U_two (by have := U_pos; omega)
    omega⟩
  have hk1 : 1 ≤ k := by
    rcases Nat.eq_zero_or_pos k with e | e
    · have := (digs_length_le U_two b 1).1 (by omega)
      rw [Nat.pow_one] at this
      omega
    · exact e
  obtain ⟨m, hm⟩ : ∃ m, trimN l n = m := ⟨_, rfl⟩
  rw [hk] at T' ht' hLb hC hmn' hlen
  rw [hm] at T ht hLa hC hmn hlen
  clear h h' hl hl' ha hb hz hm hk
  obtain ⟨s, hs, hs63, hlv, hlo⟩ := norm_div hLb
  obtain ⟨M, rfl⟩ : ∃ M, m = M + k := ⟨m - k, by omega⟩
  have hM1 : 1 ≤ M := by omega
  have hlz := lz64_calls (rd (digs U b) k) (rd_lt (digs_lt U_two b) U_pos k)
  rw [hs] at hlz
  have hshb : ∀ w1, Drawn w w1 → Calls Tryz.prog 121 #[.slice A' (k + 1) c', .int .i64 (s : Nat)] w1 fun e w2 => ∃ gv cv, e = .returned (.tuple #[.slice (some ⟨gv, 0, none⟩) (k + 1) cv, .int .i64 0]) ∧ SI w2 .u64 (some ⟨gv, 0, none⟩) (k + 1) cv (digs U (b * 2 ^ s)) ∧ gv < w2.heap.size ∧ Below w1.heap.size w1 w2 := by
    intro w1 hd
    have H := shl_calls A' (k + 1) c' (digs U b) s w1 (ht'.below hd.below) (digs_lt U_two b) (by omega) (by omega)
    rw [val_digs U_two] at H
    refine H.mono ?_
    rintro e w2 ⟨v, rfl, ho, hb⟩
    obtain ⟨gv, cv, rfl, hg1, hg2⟩ := Ow.own_some ho (by rw [hlv]; omega)
    rw [hlv] at ho ⊢
    obtain ⟨A3, c3, hv3, hr3⟩ := ho.reads
    injection hv3 with e1 e2 e3
    subst e1; subst e3
    rw [hlv] at hr3
    exact ⟨gv, cv, rfl, hr3, hg2, hb⟩
  have hsha : ∀ w2, Below w.heap.size w w2 → Calls Tryz.prog 121 #[.slice A (M + k) c, .int .i64 (s : Nat)] w2 (GivesOwn2 w2 88 .u64 (digs U (a * 2 ^ s))) := by
    intro w2 hb
    have H := shl_calls A (M + k) c (digs U a) s w2 (ht.below hb) (digs_lt U_two a) (by omega) (by omega)
    rwa [val_digs U_two] at H
  have HSB := Lib.hid hshb
  have HSA := Lib.hid hsha
  have HLB := Lib.hid hLb
  have HLA := Lib.hid hLa
  have HLV := Lib.hid hlv
  have HLO := Lib.hid hlo
  have b0 : ((k : Int) + 1 == 0) = false := by simp; omega
  have b1 : ((k : Int) + 1 == 1) = false := by simp; omega
  obtain ⟨bb, bo, rfl, hbk⟩ := ht'.at_ (j := k) (by omega)
  clear hshb hsha hLb hLa hlv hlo hs hge hbig
  go_enter Tryz.func81, Tryz.ntmps81
  go_wp2_with (first
    | (go_at_call 95; first | ((with_reducible refine T.mono ?_); rintro e w' ⟨rfl, rfl⟩) | ((with_reducible refine T'.mono ?_); rintro e w' ⟨rfl, rfl⟩))
    | (go_at_call 119; (with_reducible refine hC.mono ?_); rintro e w1 ⟨rfl, hd⟩; have hbk1 := (hd.cell ⟨bb, bo + k, none⟩).trans hbk)
    | (go_at_call 120; refine (hlz _).mono ?_; rintro e w' ⟨rfl, rfl⟩)
    | (go_at_call 121; first
        | ((with_reducible refine (HSB.out w1 hd).mono ?_); rintro e w2 ⟨gv, cv, rfl, hsv, hgv, hb2⟩; have hbw := hd.below.trans (hb2.mono hd.below.size))
        | ((with_reducible refine (HSA.out w2 hbw).mono ?_); rintro e w3 ⟨v3, rfl, ho3, hb3⟩)))
  have hbw3 := hbw.trans (hb3.mono hbw.size)
  clear hbk1 hbk T T' hC hlz hb2 hd HSB HSA
  go_loopw [13] (fun v wr => ∃ L, LongU a s (M + k) L ∧ Ow wr w2.heap.size 88 .u64 v L ∧ Below w2.heap.size w2 wr) (fun v _ => M + k + 1 - lenOf v)
  case atStart => exact ⟨_, LongU.start hs63 HLA.out, ho3, hb3⟩
  case round =>
    clear ho3 hb3 hbw3
    obtain ⟨L, hU, hoL, hb3⟩ := hrel
    obtain ⟨Au, nu, cu, rfl, hru⟩ := hoL.reads_n
    have hnu : L.length = nu := hru.len
    have hle := hU.le
    by_cases hlt : nu ≤ M + k
    · have hmore := hU.more (by omega)
      have h8 : (L.length + 1) * 8 ≤ 140737488355328 := by omega
      have HNU := Lib.hid hnu
      clear hnu hle
      go_wp2_with (at_builtin; refine wpList_append_nums _ rfl (.tmp 88) (.tmp 89) 62 rfl w2.heap.size 88 .u64 8 Tryz.underlying62 info22 _ L rfl (hoL.alloc _) _ 1 1 [0] rfl (lit_one wr 0) h8 (by decide) (hb3.alloc hb3.size _).size ?_; intro v4 w4 hown4 hg4; have hle4 := hmore.le; obtain ⟨A4, n4, c4, rfl, hr4⟩ := hown4.reads_n)
      go_roundw
      case rel => exact ⟨_, hmore, hown4, (hb3.alloc hb3.size _).grown hg4 (hb3.alloc hb3.size _).size hoL.base_⟩
      case measure =>
        have e4 := hr4.len
        rw [List.length_append, HNU.out] at e4
        simp [lenOf] at e4 ⊢; omega
    · obtain ⟨gu, cu, hvu, hgu1, hgu2⟩ := Ow.own_some hoL (by omega)
      have hLn : L.length = M + k + 1 := by omega
      rw [hLn] at hvu
      injection hvu with e1 e2 e3
      subst e1; subst e2; subst e3
      have hcu := Sl.le hru
      have hst := DivLg.start hs63 HLO.out HLA.out rfl hLn hU.lt hU.vl
      have hne : ∀ b o, (some ⟨gv, 0, none⟩ : Option Addr) = some ⟨b, o, none⟩ → b ≠ gu := fun b o e => by injection e with e; injection e with e1 e2; omega
      have HNE := Lib.hid hne
      clear hru hnu hle hLn hU hlt hne
      go_wp2_with (at_make; refine wpList_make_nums _ rfl (.tmp 95) (.tmp 95) 62 rfl w2.heap.size 88 .u64 8 Tryz.underlying62 info22 .i64 .i64 _ _ M rfl rfl (by omega) (by omega) (by omega) (by omega) hb3.size ?_; intro w5 hown5 hg5)
      have hbs : Below w2.heap.size w2 w5 := hb3.trans ((grown_below hg5).mono hb3.size)
      have hou := hoL.below (grown_below hg5)
      obtain ⟨gq, hgq⟩ : ∃ gq, wr.heap.size = gq := ⟨_, rfl⟩
      rw [hgq] at hown5 hgu2 ⊢
      have hgq1 : w2.heap.size ≤ gq := by rw [← hgq]; exact hb3.size
      have hguq : gu ≠ gq := by omega
      have HW := Lib.hid hbw
      have HS5 : Hid (gq < w5.heap.size) := Ow.lt_ hown5 gq rfl
      clear hgq hb3 hoL hg5 hgu2 hbw
      go_loopw [16] (fun z wr => ∃ (i : Nat) (y : Int) (L Q : List Nat), i ≤ M ∧ z = .int .i64 y ∧ Hid (y + 1 = i) ∧ DivLg (a * 2 ^ s) (b * 2 ^ s) k M L Q i ∧ Ow wr w2.heap.size 88 .u64 (.slice (some ⟨gu, 0, none⟩) (M + k + 1) cu) L ∧ Ow wr w2.heap.size 88 .u64 (.slice (some ⟨gq, 0, none⟩) M M) Q ∧ Below w2.heap.size w2 wr) (fun z _ => (intOf z + 1).toNat)
      case atStart => exact ⟨M, (M : Int) - 1, _, _, Nat.le_refl _, by go_num, by unfold Hid; omega, hst, hou, hown5, hbs⟩
      case round =>
        clear hst hou hown5 hbs
        obtain ⟨i, y, L, Q, hiM, rfl, HY, hD, hou, hoq, hb⟩ := hrel
        cases i with
        | zero =>
          obtain rfl : y = -1 := by have := HY.out; omega
          obtain ⟨f1, f2⟩ := hD.done
          have hout := own_trim_n hoq hD.qlt f1
          have H := shr_calls _ _ _ L s wr (Ow.si hou) hD.lt (by omega) (by omega)
          rw [f2] at H
          have hq6 := fun w6 (hb6 : Below wr.heap.size wr w6) => trim_calls _ _ _ Q w6 ((Ow.si hoq).below hb6)
          have H6 := Lib.hid hq6
          clear f1 f2 hq6
          go_wp2_with (first
            | (go_at_call 123; (with_reducible refine H.mono ?_); rintro e w6 ⟨v6, rfl, ho6, hb6⟩)
            | (go_at_call 95; refine (H6.out _ hb6).mono ?_; rintro e w' ⟨rfl, rfl⟩))
          go_ret3
          have hwr : Below w.heap.size w wr := HW.out.trans (hb.mono HW.out.size)
          exact ⟨_, _, rfl, (hout.below hb6).lower HW.out.size, ho6.lower hwr.size, hwr.trans (hb6.mono hwr.size)⟩
        | succ j =>
          obtain rfl : y = (j : Int) := by have := HY.out; omega
          have hvu : val U (digs U (b * 2 ^ s)) = b * 2 ^ s := val_digs U_two _
          have hVu : b * 2 ^ s < U ^ (k + 1) := by rw [← HLV.out]; exact lt_pow_length U_two _
          have hV0 : 0 < b * 2 ^ s := by
            have := HLO.out
            have : 0 < 2 ^ 63 * U ^ k := Nat.mul_pos (Nat.pow_pos (by omega)) (Nat.pow_pos U_pos)
            omega
          have htop := digs_top U_two (n := b * 2 ^ s) (by rw [HLV.out]; omega)
          rw [HLV.out, Nat.add_sub_cancel] at htop
          obtain ⟨hw, hwl, h0⟩ := hD.window hVu (by omega)
          have hwl' := hwl
          rw [← hvu] at hwl'
          have hdl := dgt_lt hwl'
          have hdig := digit_calls w2.heap.size gu j k (M + k + 1) cu (cu - j) cv (some ⟨gv, 0, none⟩) L (digs U (b * 2 ^ s)) wr hou hD.lt (by omega) (by omega) (by omega) (hsv.below hb) HNE.out (digs_lt U_two _) htop hwl'
          rw [show k + 2 = j + (k + 1) + 1 - j by omega] at hdig
          have hrd := fun L' (hR : DigR L L' (digs U (b * 2 ^ s)) j k) => hD.round hVu hV0 (by omega) hvu hR hdl
          have HRD := Lib.hid hrd
          have hql := hoq.len_
          clear hrd hdl hwl hwl' hw h0 htop hV0 hVu hvu hD
          have hcq := fun w6 (hg : wr.grownBy w6 (some gu)) => (Ow.cellAt (Ow.grownOff hoq hg hguq.symm) (j := j) (by omega))
          have hfq := fun w6 (hg : wr.grownBy w6 (some gu)) => (Ow.frozenAt (Ow.grownOff hoq hg hguq.symm) j)
          have HC := Lib.hid hcq
          have HF := Lib.hid hfq
          clear hcq hfq
          go_wp2_with (first
            | (go_at_call 122; (with_reducible refine hdig.mono ?_); rintro e w6 ⟨L6, rfl, hR6, hou6, hg6⟩; have hc6 := HC.out _ hg6; have hf6 := HF.out _ hg6))
          have hrd6 := HRD.out _ hR6
          go_roundw
          case rel => exact ⟨j, (j : Int) - 1, _, _, by omega, rfl, by unfold Hid; omega, hrd6, Ow.setOther hou6 (Ow.grownOff hoq hg6 hguq.symm) hguq j _, (Ow.grownOff hoq hg6 hguq.symm).store _ _, (Below.grownAt hb hg6 hb.size hgu1).setCell hgq1 _⟩
          case measure => simp [intOf]
theorem divmod_calls (A A' : Option Addr) (n c n' c' : Nat) (l l' : List Nat) (w : World) (h : SI w .u64 A n c l) (h' : SI w .u64 A' n' c' l') (hl : Lt U l) (hl' : Lt U l') (hn : n < 1099511627776) (hn' : n' ≤ 1099511627776) (h0 : val U l' ≠ 0) :
    Calls Tryz.prog 81 #[.slice A n c, .slice A' n' c'] w (GivesQR w 88 .u64 (digs U (val U l / val U l')) (digs U (val U l % val U l'))) := by
  rcases Nat.lt_or_ge (val U l') U with z | z
  · exact divmod_one A A' n c n' c' l l' w h h' hl hl' (by omega) h0 z
  · rcases Nat.lt_or_ge (val U l) (val U l') with y | y
    · exact divmod_less A A' n c n' c' l l' w h h' hl hl' (by omega) z y
    · exact divmod_long A A' n c n' c' l l' w h h' hl hl' hn hn' z y
end Go.Proofs.YtkanddmihmdagaaGreatDoor.Nat
