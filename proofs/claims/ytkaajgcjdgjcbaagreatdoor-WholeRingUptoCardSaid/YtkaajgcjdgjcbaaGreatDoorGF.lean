/- Texts of one layer, joined: Td, Bu, Tx, Tw, Tp, Aa, Ab, Lm, Ln, Lu. -/
import Derived.Lib.ItoaNum
import Derived.Lib.ItoaMem
import Derived.Lib.ParseIntB
import Derived.Test.YtkaajgcjdgjcbaaGreatDoorGA
import Derived.Lib.AppendIntMem
import Derived.Test.YtkaajgcjdgjcbaaGreatDoorGB
import Derived.Test.YtkaajgcjdgjcbaaGreatDoorGD
import Derived.Shelf.Strings.SlTrimAscii
import Derived.Lib.SmallJoins
import Derived.Test.YtkaajgcjdgjcbaaGreatDoorGE
import Derived.Test.YtkaajgcjdgjcbaaGreatDoorCards
import Derived.Test.YtkaajgcjdgjcbaaGreatDoorTie
import Derived.WalkKit
import Derived.ProofKit
import Derived.OpenShut
import Derived.Carry
import Derived.Deep.DeepHandedRow
import Derived.Lib.LaidTab
import Derived.Stop.LaidErr
import Derived.Deep.DeepWitnessRowRef
set_option linter.unusedVariables false
set_option linter.unusedSimpArgs false
set_option linter.unusedSectionVars false
/- Decimal digits as bytes: rows of k digits, stripped of noughts ahead, and the number of a row of digits: no program in sight. -/
namespace Go.Proofs.YtkaajgcjdgjcbaaGreatDoor.Td
open Go.Lib

/-- the byte of a digit -/
def db (d : Nat) : UInt8 := UInt8.ofNat (48 + d)
theorem db_nat {d : Nat} (h : d < 10) : (db d).toNat = 48 + d := by
  unfold db
  rw [UInt8.toNat_ofNat', Nat.mod_eq_of_lt (by omega)]
theorem db_zero : db 0 = 48 := rfl
theorem db_ne {d : Nat} (h : d < 10) (h0 : d ≠ 0) : (db d == 48) = false := by
  rw [beq_eq_false_iff_ne]
  intro e
  have := congrArg UInt8.toNat e
  rw [db_nat h] at this
  simp at this
  omega
/-- the last k digits of m, the highest ahead -/
def dd : Nat → Nat → List UInt8
  | 0, _ => []
  | k + 1, m => dd k (m / 10) ++ [db (m % 10)]
theorem dd_len : ∀ k m, (dd k m).length = k
  | 0, _ => rfl
  | k + 1, m => by simp [dd, dd_len k]
theorem dd_add (j : Nat) : ∀ k m, dd (j + k) m = dd j (m / 10 ^ k) ++ dd k m
  | 0, m => by simp [dd]
  | k + 1, m => by
    show dd (j + k) (m / 10) ++ _ = _ ++ (dd k (m / 10) ++ _)
    rw [dd_add j k (m / 10), List.append_assoc, Nat.div_div_eq_div_mul, Nat.pow_succ, Nat.mul_comm 10]
theorem dd_zero : ∀ k, dd k 0 = List.replicate k 48
  | 0 => rfl
  | k + 1 => by
    show dd k (0 / 10) ++ [db (0 % 10)] = _
    rw [Nat.zero_div, dd_zero k, List.replicate_succ']
    rfl
theorem dd_mod : ∀ k m, dd k (m % 10 ^ k) = dd k m
  | 0, _ => rfl
  | k + 1, m => by
    show dd k (m % 10 ^ (k + 1) / 10) ++ [db (m % 10 ^ (k + 1) % 10)] = dd k (m / 10) ++ [db (m % 10)]
    have h1 : m % 10 ^ (k + 1) / 10 = (m / 10) % 10 ^ k := by
      rw [Nat.pow_succ, Nat.mul_comm]
      exact Nat.mod_mul_right_div_self m 10 (10 ^ k)
    have h2 : m % 10 ^ (k + 1) % 10 = m % 10 := by
      rw [Nat.pow_succ]
      exact Nat.mod_mul_left_mod m (10 ^ k) 10
    rw [h1, h2, dd_mod k]
theorem dec_small {u : Nat} (h : u < 10) : decDigits u = [db u] := by rw [decDigits, dif_pos h]; rfl
theorem dec_big {u : Nat} (h : ¬ u < 10) : decDigits u = decDigits (u / 10) ++ [db (u % 10)] := by rw [decDigits, dif_neg h]; rfl
theorem dec_len_pos (u : Nat) : 0 < (decDigits u).length := by
  by_cases h : u < 10
  · rw [dec_small h]; simp
  · rw [dec_big h]; simp
/-- a numeral of at most k digits, noughts ahead -/
theorem pad_dd : ∀ k m, m < 10 ^ k → 0 < k → (decDigits m).length ≤ k ∧ List.replicate (k - (decDigits m).length) 48 ++ decDigits m = dd k m
  | 0, _, _, h => absurd h (by omega)
  | k + 1, m, h, _ => by
    by_cases h10 : m < 10
    · rw [dec_small h10]
      refine ⟨by simp, ?_⟩
      show _ = dd k (m / 10) ++ [db (m % 10)]
      rw [Nat.div_eq_of_lt h10, Nat.mod_eq_of_lt h10, dd_zero]
      simp
    · have hk : 0 < k := by
        rcases Nat.eq_zero_or_pos k with z | z
        · subst z; simp at h; omega
        · exact z
      obtain ⟨h1, h2⟩ := pad_dd k (m / 10) (by rw [Nat.pow_succ] at h; omega) hk
      rw [dec_big h10]
      refine ⟨by simp; omega, ?_⟩
      show _ = dd k (m / 10) ++ [db (m % 10)]
      rw [← h2, List.length_append, List.length_singleton, ← List.append_assoc, Nat.add_sub_add_right]
theorem dec_head : ∀ u, u ≠ 0 → ∃ c r, decDigits u = c :: r ∧ (c == 48) = false := by
  intro u
  induction u using Nat.strongRecOn with
  | _ u ih =>
    intro h0
    by_cases h : u < 10
    · exact ⟨db u, [], dec_small h, db_ne h h0⟩
    · obtain ⟨c, r, e, hc⟩ := ih (u / 10) (by omega) (by omega)
      exact ⟨c, r ++ [db (u % 10)], by rw [dec_big h, e]; rfl, hc⟩
theorem drop_noughts (j : Nat) (l : List UInt8) : (List.replicate j 48 ++ l).dropWhile (· == 48) = l.dropWhile (· == 48) := by
  induction j with
  | zero => rfl
  | succ j ih => rw [List.replicate_succ, List.cons_append, List.dropWhile_cons_of_pos (by rfl), ih]
/-- a row of digits without the noughts ahead -/
theorem strip_dd {k m : Nat} (h : m < 10 ^ k) : (dd k m).dropWhile (· == 48) = if m = 0 then [] else decDigits m := by
  by_cases h0 : m = 0
  · subst h0
    have := drop_noughts k []
    rw [List.append_nil] at this
    rw [dd_zero, this, if_pos rfl]
    rfl
  · have hk : 0 < k := by
      rcases Nat.eq_zero_or_pos k with z | z
      · subst z; simp at h; omega
      · exact z
    obtain ⟨c, r, e, hc⟩ := dec_head m h0
    rw [← (pad_dd k m h hk).2, drop_noughts, if_neg h0, e, List.dropWhile_cons_of_neg (by simp [hc])]
/-- is it a digit? -/
def isDig (b : UInt8) : Prop := 48 ≤ b.toNat ∧ b.toNat ≤ 57
instance (b : UInt8) : Decidable (isDig b) := by unfold isDig; infer_instance
/-- one digit behind others -/
def stp (a : Nat) (c : UInt8) : Nat := a * 10 + (c.toNat - 48)
/-- the number of a row of digits behind others -/
def nv (acc : Nat) (l : List UInt8) : Nat := l.foldl stp acc
theorem nv_cons (acc : Nat) (c : UInt8) (r : List UInt8) : nv acc (c :: r) = nv (acc * 10 + (c.toNat - 48)) r := by
  unfold nv
  rw [List.foldl_cons, stp]
theorem nv_nil (acc : Nat) : nv acc [] = acc := rfl
theorem nv_append (acc : Nat) (l l' : List UInt8) : nv acc (l ++ l') = nv (nv acc l) l' := by
  induction l generalizing acc with
  | nil => rfl
  | cons c r ih => rw [List.cons_append, nv_cons, nv_cons, ih]
theorem nv_acc (acc : Nat) (l : List UInt8) : nv acc l = acc * 10 ^ l.length + nv 0 l := by
  induction l generalizing acc with
  | nil => rw [nv_nil, nv_nil, List.length_nil, Nat.pow_zero, Nat.mul_one, Nat.add_zero]
  | cons c r ih =>
    rw [nv_cons, nv_cons, ih, ih (0 * 10 + (c.toNat - 48)), List.length_cons, Nat.pow_succ, Nat.zero_mul, Nat.zero_add, Nat.add_mul, Nat.mul_assoc, Nat.mul_comm 10, Nat.add_assoc]
theorem nv_lt {l : List UInt8} (h : ∀ b ∈ l, isDig b) : nv 0 l < 10 ^ l.length := by
  induction l with
  | nil => rw [nv_nil]; exact Nat.pow_pos (by omega)
  | cons c r ih =>
    have hc := h c (by simp)
    have := ih (fun b hb => h b (by simp [hb]))
    rw [nv_cons, nv_acc, Nat.zero_mul, Nat.zero_add, List.length_cons, Nat.pow_succ]
    unfold isDig at hc
    have : (c.toNat - 48) * 10 ^ r.length ≤ 9 * 10 ^ r.length := Nat.mul_le_mul_right _ (by omega)
    omega
theorem parse_ok {M : Nat} (hM : 1000000000000000000 ≤ M) {l : List UInt8} (h : ∀ b ∈ l, isDig b) (acc : Nat) (ha : nv acc l < 1000000000000000000) : parseUintM M acc l = .ok (nv acc l) := by
  induction l generalizing acc with
  | nil => rfl
  | cons c r ih =>
    have hc := h c (by simp)
    have ha' : nv (acc * 10 + (c.toNat - 48)) r < 1000000000000000000 := by rw [← nv_cons]; exact ha
    have hle : acc * 10 + (c.toNat - 48) ≤ nv (acc * 10 + (c.toNat - 48)) r := by
      rw [nv_acc]
      have : (acc * 10 + (c.toNat - 48)) * 1 ≤ (acc * 10 + (c.toNat - 48)) * 10 ^ r.length := Nat.mul_le_mul_left _ (Nat.pow_pos (by omega))
      omega
    unfold isDig at hc
    unfold parseUintM
    rw [if_pos hc, if_neg (by omega), if_neg (by omega), nv_cons]
    exact ih (fun b hb => h b (by simp [hb])) _ ha'
theorem parse_dig {l : List UInt8} (h : ∀ b ∈ l, isDig b) (h0 : l ≠ []) (hl : l.length ≤ 18) : parseUintB 64 l = .ok (nv 0 l) := by
  unfold parseUintB
  rw [if_neg h0]
  exact parse_ok (by decide) h 0 (Nat.lt_of_lt_of_le (nv_lt h) (Nat.le_trans (Nat.pow_le_pow_right (by omega) hl) (by decide)))
theorem db_isDig {d : Nat} (h : d < 10) : isDig (db d) := by
  unfold isDig
  rw [db_nat h]
  omega
theorem dec_isDig (u : Nat) : ∀ b ∈ decDigits u, isDig b := by
  induction u using Nat.strongRecOn with
  | _ u ih =>
    intro b hb
    by_cases h : u < 10
    · rw [dec_small h, List.mem_singleton] at hb; subst hb; exact db_isDig h
    · rw [dec_big h, List.mem_append, List.mem_singleton] at hb
      rcases hb with hb | rfl
      · exact ih _ (by omega) b hb
      · exact db_isDig (by omega)
/-- digits there and back -/
theorem nv_dec (u : Nat) : nv 0 (decDigits u) = u := by
  induction u using Nat.strongRecOn with
  | _ u ih =>
    by_cases h : u < 10
    · rw [dec_small h]
      rw [nv_cons, nv_nil]
      rw [db_nat h]; omega
    · rw [dec_big h, nv_append, ih _ (by omega)]
      rw [nv_cons, nv_nil]
      rw [db_nat (by omega)]; omega
theorem isDig_db {b : UInt8} (h : isDig b) : db (b.toNat - 48) = b := by
  unfold isDig at h
  unfold db
  rw [show 48 + (b.toNat - 48) = b.toNat by omega]
  exact UInt8.ofNat_toNat
/-- back and there: digits without a nought ahead -/
theorem dec_nv {l : List UInt8} (h : ∀ b ∈ l, isDig b) (h1 : ∃ c r, l = c :: r ∧ (c ≠ 48 ∨ r = [])) : decDigits (nv 0 l) = l := by
  obtain ⟨c, r, rfl, hc⟩ := h1
  have hcd := h c (by simp)
  have key : ∀ (r' : List UInt8) (a : Nat), 0 < a → (∀ b ∈ r', isDig b) → decDigits (nv a r') = decDigits a ++ r' := by
    intro r'
    induction r' with
    | nil => intro a _ _; rw [nv_nil, List.append_nil]
    | cons d r' ih =>
      intro a ha hd
      have hdd := hd d (by simp)
      have hd2 := hdd
      unfold isDig at hd2
      rw [nv_cons, ih _ (by omega) (fun b hb => hd b (by simp [hb])), dec_big (by omega), show (a * 10 + (d.toNat - 48)) / 10 = a by omega, show (a * 10 + (d.toNat - 48)) % 10 = d.toNat - 48 by omega, isDig_db hdd, List.append_assoc]
      rfl
  have hc2 := hcd
  unfold isDig at hc2
  rw [nv_cons]
  rcases hc with hc | rfl
  · have : c.toNat ≠ 48 := fun e => hc (by rw [← UInt8.ofNat_toNat (x := c), e]; rfl)
    rw [key r _ (by omega) (fun b hb => h b (by simp [hb])), dec_small (by omega), show 0 * 10 + (c.toNat - 48) = c.toNat - 48 by omega, isDig_db hcd]
    rfl
  · rw [nv_nil, dec_small (by omega), show 0 * 10 + (c.toNat - 48) = c.toNat - 48 by omega, isDig_db hcd]
end Go.Proofs.YtkaajgcjdgjcbaaGreatDoor.Td

/- A strings.Builder of the call's own: copyCheck, WriteString; strconv.FormatUint at base 10. -/
namespace Go.Proofs.YtkaajgcjdgjcbaaGreatDoor.Bu
open Go.RowKit Go.Lib Go.Sort

theorem sizeB : (Tryz.prog.info? 93).map (·.size) = some 2 := by kernel_rfl
theorem liesB : liesAt Tryz.prog Tryz.prog.depth 93 (2 / Tryz.prog.cellsOf 93) 0 93 1 = true := by kernel_rfl
theorem infoB : (Tryz.prog.info? 5).map (fun i => (i.zero, i.size, i.bytes)) = some (some (.int .u8 0), 1, 1) := by kernel_rfl
set_option maxHeartbeats 1000000 in
set_option maxRecDepth 100000 in
theorem copyCheck_fresh (b : Nat) (w : World) (h0 : w.cell? ⟨b, 0, none⟩ = some (.pointer none)) (hsh : w.shape? b = some (93, 2)) (hfz : w.frozen? ⟨b, 0, none⟩ = false) :
    Calls Tryz.prog 89 #[.pointer (some ⟨b, 0, none⟩)] w fun e w' => e = .returned (.tuple #[]) ∧ w' = w.setCell ⟨b, 0, none⟩ (.pointer (some ⟨b, 0, none⟩)) := by
  obtain ⟨j, hj, hjs⟩ := Option.map_eq_some_iff.1 sizeB
  go_enter Tryz.func89, Tryz.ntmps89
  go_wp2
  rw [Lib.run_to_unsafe w ⟨b, 0, none⟩ Tryz.underlying90 Tryz.underlying137 hj (by rw [hjs]; decide) hsh (Nat.zero_lt_succ 1)]
  simp only [Result.andThen]
  rw [Oper.upon_value]
  go_wp2
  rw [run_callFunc_extern Tryz.func110 (by kernel_rfl) (by kernel_rfl) (by kernel_rfl) (e := Extern.AbiNoEscape.same) (by kernel_rfl)]
  rw [Lib.run_noEscape]
  simp only [Result.andThen]
  rw [Oper.upon_value]
  go_wp2
  rw [Lib.run_from_unsafe w ⟨b, 0, none⟩ Tryz.underlying137 Tryz.underlying90 hj hsh liesB]
  simp only [Result.andThen]
  rw [Oper.upon_value]
  go_wp2
  go_end0
  exact ⟨rfl, rfl⟩
set_option maxHeartbeats 1000000 in
set_option maxRecDepth 100000 in
theorem copyCheck_used (b : Nat) (w : World) (h0 : w.cell? ⟨b, 0, none⟩ = some (.pointer (some ⟨b, 0, none⟩))) :
    Calls Tryz.prog 89 #[.pointer (some ⟨b, 0, none⟩)] w fun e w' => e = .returned (.tuple #[]) ∧ w' = w := by
  obtain ⟨j, hj, _⟩ := Option.map_eq_some_iff.1 sizeB
  go_enter Tryz.func89, Tryz.ntmps89
  go_wp2
  rw [Lib.run_neq_ptr_same w _ Tryz.underlying90 hj]
  go_wp2
  go_end0
  exact ⟨rfl, rfl⟩
theorem copyCheck_calls (B b : Nat) (bs : List Value) (w : World) (h : Lib.IsBuilderF 93 5 B b bs w) :
    Calls Tryz.prog 89 #[.pointer (some ⟨b, 0, none⟩)] w fun e w' => e = .returned (.tuple #[]) ∧ (Lib.BuilderAtF 93 5 B b (.pointer (some ⟨b, 0, none⟩)) bs w' ∧ Below B w w') := by
  rcases h with h | h
  · refine (copyCheck_fresh b w h.cell0 h.shape h.frozen0).mono ?_
    rintro e w' ⟨rfl, rfl⟩
    exact ⟨rfl, h.used _, (Below.refl B w).setCell (p := ⟨b, 0, none⟩) h.1 _⟩
  · refine (copyCheck_used b w h.cell0).mono ?_
    rintro e w' ⟨rfl, rfl⟩
    exact ⟨rfl, h, Below.refl B _⟩
set_option maxHeartbeats 1000000 in
set_option maxRecDepth 100000 in
/-- s's bytes are written behind what was written before -/
theorem writeString_calls (B b : Nat) (bs : List Value) (s : ByteArray) (w : World) (h : Lib.IsBuilderF 93 5 B b bs w) (hlen : bs.length + s.size ≤ 140737488355328) (hBw : B ≤ w.heap.size) :
    Calls Tryz.prog 64 #[.pointer (some ⟨b, 0, none⟩), .string s] w fun e w' => e = .returned (.tuple #[.int .i64 s.size, .nilIface]) ∧ (Lib.BuilderAtF 93 5 B b (.pointer (some ⟨b, 0, none⟩)) (bs ++ Lib.strCells s) w' ∧ Below B w w') := by
  obtain ⟨i0, hi, hz0, hz1, hz2⟩ := info_parts infoB
  go_enter Tryz.func64, Tryz.ntmps64
  go_wp2_with (go_at_call 89; refine (copyCheck_calls B b bs _ h).mono ?_)
  rintro e w1 ⟨rfl, h1, hb1⟩
  obtain ⟨hB, v, hbk, hown, hne⟩ := h1
  have c0 : w1.cell? ⟨b, 0, none⟩ = some (.pointer (some ⟨b, 0, none⟩)) := by rw [Lib.cell_of_heap hbk]; rfl
  have c1 : w1.cell? ⟨b, 1, none⟩ = some v := by rw [Lib.cell_of_heap hbk]; rfl
  go_wp2_with (at_builtin; refine Lib.wpList_append_own_stringF _ rfl _ _ 91 9 rfl B 5 i0 Tryz.underlying91 Tryz.underlying9 hi hz0 hz1 hz2 _ _ _ rfl hown s rfl ?c3 ?c4 ?c5 ?_)
  case c3 => unfold maxLen; omega
  case c4 => omega
  case c5 => have := hb1.size; omega
  intro v' w2 hown' hgrow _
  have hlt : b < w1.heap.size := by
    rcases Nat.lt_or_ge b w1.heap.size with h' | h'
    · exact h'
    · simp [Array.getElem?_eq_none h'] at hbk
  have hb2 : w2.heap[b]? = some (.cells #[.pointer (some ⟨b, 0, none⟩), v] 93 (0, 0)) := by
    rw [hgrow.block b hlt (fun e => hne e.symm)]
    exact hbk
  have d0 : w2.cell? ⟨b, 0, none⟩ = some (.pointer (some ⟨b, 0, none⟩)) := by rw [Lib.cell_of_heap hb2]; rfl
  have d1 : w2.cell? ⟨b, 1, none⟩ = some v := by rw [Lib.cell_of_heap hb2]; rfl
  have f1 : w2.frozen? ⟨b, 1, none⟩ = false := Lib.frozen_of_heap hb2 1
  obtain ⟨ao, n', cap, rfl⟩ : ∃ ao n' cap, v' = .slice ao n' cap := by
    rcases hown'.2 with ⟨hv, _⟩ | ⟨g, cap, cur, fz, hv, _⟩
    · exact ⟨_, _, _, hv⟩
    · exact ⟨_, _, _, hv⟩
  go_wp2
  go_ret2
  refine ⟨rfl, ?_, ?_⟩
  · exact Lib.BuilderAtF.put (T := 93) (e := 5) hB hb2 (bs' := bs ++ Lib.strCells s) (by simpa [Lib.strCells_length] using hown') (by decide)
  · exact (hb1.grown hgrow (by have := hb1.size; omega) (fun k hk => (hown.lt k hk).1)).setCell (p := ⟨b, 1, none⟩) hB _

/-- the table of powers of ten -/
def Pow (w : World) : Prop := Lib.TabIs Tryz.prog w "internal/strconv.uint64pow10" .u64 Lib.pow10Tab
theorem Pow.below {w w' : World} (h : Pow w) (hb : Below w.heap.size w w') : Pow w' := by
  unfold Pow Lib.TabIs World.var? at h ⊢
  cases hg : Tryz.prog.globalNamed "internal/strconv.uint64pow10" with
  | none => rw [hg] at h; cases h
  | some g =>
    rw [hg] at h
    simp only [Option.bind_some] at h ⊢
    have hlt : g < w.heap.size := by
      rcases Nat.lt_or_ge g w.heap.size with h' | h'
      · exact h'
      · rw [Array.getElem?_eq_none h'] at h; cases h
    rw [hb.block g hlt]
    exact h
set_option maxHeartbeats 2000000 in
set_option maxRecDepth 100000 in
theorem formatUint_in (u : Nat) (hu64 : u < 18446744073709551616) (w : World) (htab : Pow w) :
    Calls Tryz.prog 84 #[.int .u64 u, .int .i64 10] w fun e w' => e = .returned (.string ⟨(Lib.decDigits u).toArray⟩) ∧ Below w.heap.size w w' := by
  by_cases hs : u < 100
  · go_enter Tryz.func84, Tryz.ntmps84
    go_wp2_with (go_at_call 103; refine (Tryz.internal_strconv_small u hs _).mono ?_; rintro e w' ⟨rfl, rfl⟩)
    go_ret
    exact ⟨rfl, Below.refl _ _⟩
  · have hu1 : 1 ≤ u := by omega
    have hnd20 : Lib.nDigits u ≤ 20 := by have := Lib.numDigits_eq u hu1 hu64; split at this <;> omega
    have hal : Tryz.prog.arrayLen 131 = 24 := by simp [Program.arrayLen, Tryz.underlying131]
    have hsl1 : ∀ W, (Instr.sliceAt 131 (.pointer (some ⟨w.heap.size, 0, none⟩)) none (some (.int .i64 (Lib.nDigits u : Int))) none).run Tryz.prog W = .ok (.slice (some ⟨w.heap.size, 0, none⟩) (Lib.nDigits u) 24) W := fun W => by
      rw [run_sliceAt_array_h W 131 ⟨w.heap.size, 0, none⟩ (by simp [Program.arrayLen, Program.elem, Tryz.underlying131]) .i64 (Lib.nDigits u : Int) (by omega) (by rw [hal]; omega)]
      go_simp
    have hH0 := Lib.holds_zero0 w 131 (Lib.nDigits u) (by omega)
    have hfmt := Tryz.internal_strconv_formatBase10 w.heap.size 0 24 u (Array.replicate (Lib.nDigits u) 0) (w.alloc (.cells Lib.zeros24 131)) hH0 (by rw [Array.size_replicate]; exact Lib.lt_pow_nDigits u) hu64 (by rw [Array.size_replicate]; omega)
    rw [Array.size_replicate] at hfmt
    have HH0 := Lib.hid hH0
    clear hH0 hal
    go_enter Tryz.func84, Tryz.ntmps84
    go_wp2_with (first
      | (go_at_call 104; refine (Tryz.internal_strconv_numDigits u hu1 hu64 _ (Lib.tabIs_alloc htab _)).mono ?_; rintro e w' ⟨rfl, rfl⟩))
    go_at_call 105
    refine hfmt.mono ?_
    rintro e w' ⟨rfl, k, v', dk, rfl, hF⟩
    have hcv : (convert 91 9 (.slice (some ⟨w.heap.size, 0, none⟩) (Lib.nDigits u) 24)).run Tryz.prog ((putRow (fun (b : UInt8) => Value.int .u8 (b.toNat : Int)) (w.alloc (.cells Lib.zeros24 131)) w.heap.size 0 dk).drewN k) =
        .ok (.string ⟨(Lib.decDigits u).toArray⟩) ((putRow (fun (b : UInt8) => Value.int .u8 (b.toNat : Int)) (w.alloc (.cells Lib.zeros24 131)) w.heap.size 0 dk).drewN k) := by
      have h := run_convert_bytes_back (P := Tryz.prog) ((putRow (fun (b : UInt8) => Value.int .u8 (b.toNat : Int)) (w.alloc (.cells Lib.zeros24 131)) w.heap.size 0 dk).drewN k) 91 9 5 ⟨w.heap.size, 0, none⟩ 24 (Lib.decDigits u) Tryz.underlying91 Tryz.underlying5 Tryz.underlying9 (fun j hj => by
        rw [Lib.row_is_numeral hF j hj, Lib.add_plain, World.cell?_drewN]
        exact cell?_putRow (fun (b : UInt8) => Value.int .u8 (b.toNat : Int)) _ w.heap.size 0 _ dk HH0.out (by rw [hF.size, Array.size_replicate]) j (by rw [hF.size]; rw [Lib.decDigits_length] at hj; exact hj))
      rw [Lib.decDigits_length] at h
      exact h
    go_wp2
    go_ret
    obtain ⟨os, eo⟩ := Lib.fin_at w (.cells Lib.zeros24 131) dk k 0
    refine ⟨rfl, ?_⟩
    rw [eo]
    exact Lib.below_grow _ w (Nat.le_refl _) k os
theorem formatUint_calls (u : Nat) (hu64 : u < 18446744073709551616) (w : World) (htab : Pow w) :
    Calls Tryz.prog 62 #[.int .u64 u, .int .i64 10] w fun e w' => e = .returned (.string ⟨(Lib.decDigits u).toArray⟩) ∧ Below w.heap.size w w' := by
  go_enter Tryz.func62, Tryz.ntmps62
  go_wp2_with (go_at_call 84; refine (formatUint_in u hu64 _ htab).mono ?_; rintro e w1 ⟨rfl, hb⟩)
  go_ret
  exact ⟨rfl, hb⟩
end Go.Proofs.YtkaajgcjdgjcbaaGreatDoor.Bu

/- Layer 2, on: rows of strings of the call's own; the pieces of Text. -/
namespace Go.Proofs.YtkaajgcjdgjcbaaGreatDoor.Tx
open Go.RowKit Go.Proofs.YtkaajgcjdgjcbaaGreatDoor.Dig Go.Proofs.YtkaajgcjdgjcbaaGreatDoor.W Go.Proofs.YtkaajgcjdgjcbaaGreatDoor.Nat Go.Proofs.YtkaajgcjdgjcbaaGreatDoor.Wh Go.Proofs.YtkaajgcjdgjcbaaGreatDoor.Td Go.Proofs.YtkaajgcjdgjcbaaGreatDoor.Bu

def strs (Ps : List (List UInt8)) : List Value := Ps.map fun p => .string ⟨p.toArray⟩
theorem strs_length (Ps : List (List UInt8)) : (strs Ps).length = Ps.length := by simp [strs]
theorem strs_append (a b : List (List UInt8)) : strs (a ++ b) = strs a ++ strs b := by simp [strs]
/-- a row of strings of the call's own -/
def Os (w : World) (base : Nat) (v : Value) (Ps : List (List UInt8)) : Prop := w.ownsRow base 9 1 v Ps.length (strs Ps)
theorem Os.nil (w : World) (base : Nat) : Os w base (.slice none 0 0) [] := ⟨by simp [strs], .inl ⟨rfl, rfl⟩⟩
theorem Os.below {w w' : World} {base : Nat} {v : Value} {Ps : List (List UInt8)} (h : Os w base v Ps) (hb : Below w.heap.size w w') : Os w' base v Ps :=
  World.ownsRow.kept h ⟨hb.os, hb.tape, hb.output, hb.size, fun i hi _ => hb.block i hi⟩ (by cases v.ownBlock <;> simp : v.ownBlock = none ∨ v.ownBlock ≠ none)
theorem Os.reads {w : World} {base : Nat} {v : Value} {Ps : List (List UInt8)} (h : Os w base v Ps) : ∃ A n c, v = .slice A n c ∧ n = Ps.length ∧ Sl w 1 A n c (strs Ps) := by
  rcases h.2 with ⟨rfl, h0⟩ | ⟨g, cap, cur, rfl, hb, hh, h1, h2, h3, h4⟩
  · refine ⟨none, 0, 0, rfl, h0.symm, by rw [List.length_eq_zero_iff.1 h0]; rfl, Nat.le_refl _, by omega, fun h => absurd h (by omega)⟩
  · refine ⟨_, _, cap, rfl, rfl, ⟨by rw [strs_length]; omega, h1, h2, fun _ => ⟨g, 0, rfl, fun j u hu => ?_⟩⟩⟩
    have := World.ownsRow.cells h (g := g) rfl j u hu
    rwa [add_at] at this
theorem Os.grown {w : World} {base : Nat} {v : Value} {Ps : List (List UInt8)} (h : Os w base v Ps) : ∀ k, v.ownBlock = some k → base ≤ k := by
  intro k hk
  rcases h.2 with ⟨rfl, _⟩ | ⟨g, cap, cur, rfl, hb, _⟩
  · cases hk
  · cases hk; exact hb
theorem Os.lt {w : World} {base : Nat} {v : Value} {Ps : List (List UInt8)} (h : Os w base v Ps) : ∀ k, v.ownBlock = some k → k < w.heap.size := by
  intro k hk
  rcases h.2 with ⟨rfl, _⟩ | ⟨g, cap, cur, rfl, hb, hh, _⟩
  · cases hk
  · cases hk
    exact (Array.getElem?_eq_some_iff.1 hh).1
theorem lit_str' (w : World) (p : List UInt8) (t : TypeId) (S : ByteArray) (hS : S = ⟨p.toArray⟩) : Sl (w.alloc (.cells #[.string S] t)) 1 (some ⟨w.heap.size, 0, none⟩) 1 1 (strs [p]) :=
  ⟨rfl, Nat.le_refl _, by omega, fun _ => ⟨w.heap.size, 0, rfl, fun j u hu => by
    rw [World.cell?, show (w.alloc (.cells #[.string S] t)).heap[w.heap.size]? = _ from heap_alloc_new w _, hS]
    simpa [strs] using hu⟩⟩
theorem infoS : (Tryz.prog.info? 9).map (fun i => (i.zero, i.size, i.bytes)) = some (some (.string ⟨#[]⟩), 1, 16) := by kernel_rfl
/-- one string more -/
theorem step_append_str {ops : Array Oper} {rest : List Oper} {o : Oper} {a : Act} {Q : Exit → Act → World → Prop} (w : World) (hgd : o.guard = none) (s x : Operand)
    (ho : o.op = .call { callee := .builtin .append, args := #[s, x], argTypes := #[84, 84] })
    (base : Nat) (v : Value) (Ps : List (List UInt8)) (hs : a.eval s = v) (hown : Os w base v Ps)
    (A : Option Addr) (m c : Nat) (p : List UInt8) (hx : a.eval x = .slice A m c) (hm : m = 1) (hr : Sl w 1 A 1 c (strs [p]))
    (hbytes : (Ps.length + 1) * 16 ≤ 140737488355328) (hbase : base ≤ w.heap.size)
    (h : ∀ v' w', Os w' base v' (Ps ++ [p]) → w.grownBy w' v.ownBlock → wpList Tryz.prog ops Q rest (a.put o.dst v') w') : wpList Tryz.prog ops Q (o :: rest) a w := by
  obtain ⟨i0, hi0, hz0, hz1, hz2⟩ := info_parts infoS
  subst hm
  refine wpList_plain hgd fun _ hK => wp_append_sl w s x _ ho base 9 i0 _ 1 16 Tryz.underlying84 hi0 hz0 hz1 hz2 rfl (by omega) v _ _ hs hown A 1 c _ hx hr ?_ ?_ hbytes hbase fun v' w' h2 h3 _ => hK _ _ (h v' w' ?_ h3)
  · intro u hu
    simp only [strs, List.map_cons, List.map_nil, List.mem_singleton] at hu
    subst hu; rfl
  · unfold maxLen; omega
  · unfold Os
    rw [List.length_append, strs_append]
    exact h2
/-- a block's power of ten -/
def K : Nat := 1000000000000000000
theorem K_lt : K < U := by decide
theorem K_pow : K = 10 ^ 18 := by decide
theorem of_block (w : World) : Calls Tryz.prog 54 #[.int .u64 1000000000000000000] w (GivesOwn w 65 .u64 (digs U K)) := of_calls 1000000000000000000 w (by decide)
theorem div_block (A A' : Option Addr) (n c n' c' m : Nat) (L : List Nat) (w : World) (h : SI w .u64 A n c L) (h' : SI w .u64 A' n' c' (digs U K)) (hl : Lt U L) (hm : val U L = m) (hn : n < 1099511627776) :
    Calls Tryz.prog 53 #[.slice A n c, .slice A' n' c'] w (Nat.GivesQR w 65 .u64 (digs U (m / K)) (digs U (m % K))) := by
  have hk : (digs U K).length ≤ 1 := (digs_length_le U_two _ _).2 (by rw [Nat.pow_one]; exact K_lt)
  have e := divmod_calls A A' n c n' c' L (digs U K) w h h' hl (dl K) hn (by rw [← h'.len]; omega) (by rw [val_digs U_two]; decide)
  rw [val_digs U_two, hm] at e
  exact e
theorem uint_d (A : Option Addr) (n c m : Nat) (w : World) (h : SI w .u64 A n c (digs U m)) (hm : m < U) :
    Calls Tryz.prog 61 #[.slice A n c] w fun e w' => e = .returned (.tuple #[.int .u64 (m : Nat), .bool true]) ∧ w = w' := by
  have e := uint_calls A n c (digs U m) w h (dl m)
  rw [val_digs U_two, if_pos hm, decide_eq_true hm] at e
  exact e
/-- a block's digits, as they are told -/
theorem fmt_calls (m : Nat) (hm : m < K) (w : World) (hp : Pow w) :
    Calls Tryz.prog 62 #[.int .u64 (m : Nat), .int .i64 10] w fun e w' => ∃ S : ByteArray, e = .returned (.string S) ∧ S.data.toList = Lib.decDigits m ∧ S.size ≤ 18 ∧ Below w.heap.size w w' := by
  refine (formatUint_calls m (by have := K_lt; unfold U at this; omega) w hp).mono ?_
  rintro e w' ⟨rfl, hb⟩
  refine ⟨_, rfl, by simp, ?_, hb⟩
  have := (pad_dd 18 m (by rw [← K_pow]; exact hm) (by omega)).1
  show (Lib.decDigits m).toArray.size ≤ 18
  rw [List.size_toArray]; exact this
theorem repeatL_one (c : Nat) : Lib.repeatL [48] c = List.replicate c 48 := by
  induction c with
  | zero => rfl
  | succ c ih => rw [Lib.repeatL, ih]; rfl
theorem rep_calls (S : ByteArray) (hS : S.size ≤ 18) (w : World) :
    Calls Tryz.prog 63 #[.string ⟨#[48]⟩, .int .i64 (18 - (S.size : Int))] w fun e w' => e = .returned (.string ⟨(List.replicate (18 - S.size) 48).toArray⟩) ∧ Below w.heap.size w w' := by
  have e := Tryz.strings_Repeat ⟨#[48]⟩ (18 - S.size) w (by omega) (by show 1 * _ ≤ _; omega)
  rw [show ((18 - S.size : Nat) : Int) = 18 - (S.size : Int) by omega] at e
  have e2 : Lib.repeatL (⟨#[48]⟩ : ByteArray).data.toList (18 - S.size) = List.replicate (18 - S.size) 48 := repeatL_one _
  rw [e2] at e
  exact e
/-- the digits of a block, noughts ahead -/
theorem pad_str {S : ByteArray} {m : Nat} (hm : m < K) (h : S.data.toList = Lib.decDigits m) : (⟨Array.replicate (18 - S.size) 48⟩ ++ S : ByteArray) = ⟨(dd 18 m).toArray⟩ := by
  have h1 := (pad_dd 18 m (by rw [← K_pow]; exact hm) (by omega)).2
  rw [← h] at h1
  have h2 : S.size = S.data.toList.length := by rw [Array.length_toList]; rfl
  rw [h2, ← h1]
  apply ByteArray.ext
  simp
/-- where the first loop stands -/
structure TI (M n t m : Nat) (Ps : List (List UInt8)) : Prop where
  val : m = M / 10 ^ (18 * t)
  cat : Ps.reverse.flatten = dd (18 * t) M
  len : Ps.length = t
  le : t ≤ 2 * n + 1
theorem TI.start (M n : Nat) : TI M n 0 M [] := ⟨by simp, rfl, rfl, by omega⟩
theorem TI.less {M n t m : Nat} {Ps : List (List UInt8)} (h : TI M n t m Ps) (hM : M < U ^ n) (h0 : m ≠ 0) : t ≤ 2 * n := by
  rcases Nat.lt_or_ge (2 * n) t with z | z
  · exfalso
    have h1 : 10 ^ (18 * t) ≤ M := by
      rcases Nat.lt_or_ge M (10 ^ (18 * t)) with y | y
      · exact absurd (h.val.trans (Nat.div_eq_of_lt y)) h0
      · exact y
    have h2 : (10 ^ 36) ^ n ≤ 10 ^ (18 * t) := by rw [← Nat.pow_mul]; exact Nat.pow_le_pow_right (by omega) (by omega)
    have h3 : U ^ n ≤ (10 ^ 36) ^ n := Nat.pow_le_pow_left (by decide) n
    omega
  · exact z
theorem TI.round {M n t m : Nat} {Ps : List (List UInt8)} (h : TI M n t m Ps) (hM : M < U ^ n) (h0 : m ≠ 0) : TI M n (t + 1) (m / K) (Ps ++ [dd 18 (m % K)]) := by
  have hl := h.less hM h0
  refine ⟨?_, ?_, by rw [List.length_append, h.len]; rfl, by omega⟩
  · rw [h.val, Nat.div_div_eq_div_mul, K_pow, ← Nat.pow_add]
    congr 2
  · rw [List.reverse_append, List.flatten_append, h.cat, show 18 * (t + 1) = 18 + 18 * t by omega, dd_add, ← h.val, K_pow, dd_mod]
    simp
/-- one piece of a row of the call's own -/
theorem Os.at_ {w : World} {base : Nat} {A : Option Addr} {n c : Nat} {Ps : List (List UInt8)} (h : Os w base (.slice A n c) Ps) {j : Nat} (hj : j < Ps.length) :
    ∃ b o, A = some ⟨b, o, none⟩ ∧ b < w.heap.size ∧ w.cell? ⟨b, o + j, none⟩ = some (.string ⟨(Ps.getD j []).toArray⟩) := by
  have hlt := h.lt
  obtain ⟨A', n', c', e, hn, hsl⟩ := h.reads
  injection e with e1 e2 e3
  subst e1; subst e2; subst e3
  obtain ⟨b, o, rfl, hc⟩ := hsl.get (by omega)
  refine ⟨b, o, rfl, hlt b rfl, hc j _ ?_⟩
  rw [strs, List.getElem?_map, List.getElem?_eq_getElem hj, List.getD_eq_getElem?_getD, List.getElem?_eq_getElem hj]
  rfl
theorem Os.cap_ {w : World} {base : Nat} {A : Option Addr} {n c : Nat} {Ps : List (List UInt8)} (h : Os w base (.slice A n c) Ps) : n ≤ c ∧ c ≤ 9223372036854775807 := by
  obtain ⟨A', n', c', e, hn, hsl⟩ := h.reads
  injection e with e1 e2 e3
  subst e1; subst e2; subst e3
  exact ⟨hsl.le, hsl.cap⟩
/-- the pieces from a place on, the last ahead -/
def back (Ps : List (List UInt8)) (i : Nat) : List UInt8 := (Ps.drop i).reverse.flatten
theorem back_end (Ps : List (List UInt8)) : back Ps Ps.length = [] := by unfold back; rw [List.drop_length]; rfl
theorem back_zero (Ps : List (List UInt8)) : back Ps 0 = Ps.reverse.flatten := rfl
theorem back_step {Ps : List (List UInt8)} {j : Nat} (hj : j < Ps.length) : back Ps j = back Ps (j + 1) ++ Ps.getD j [] := by
  unfold back
  rw [List.drop_eq_getElem_cons hj, List.reverse_cons, List.flatten_append, List.getD_eq_getElem?_getD, List.getElem?_eq_getElem hj]
  simp
theorem back_le (Ps : List (List UInt8)) (j : Nat) : (back Ps j).length ≤ Ps.reverse.flatten.length := by
  have h : Ps.reverse.flatten = back Ps j ++ (Ps.take j).reverse.flatten := by
    unfold back
    rw [← List.flatten_append, ← List.reverse_append, List.take_append_drop]
  rw [h, List.length_append]
  omega
theorem back_cells {Ps : List (List UInt8)} {j : Nat} (hj : j < Ps.length) : Lib.byteCells (back Ps (j + 1)) ++ Lib.strCells ⟨(Ps.getD j []).toArray⟩ = Lib.byteCells (back Ps j) := by
  rw [back_step hj, Lib.byteCells_append]
  rfl
/-- noughts ahead are taken off -/
theorem strip_calls (k M : Nat) (h : M < 10 ^ k) (w : World) :
    Calls Tryz.prog 65 #[.string ⟨(dd k M).toArray⟩, .string ⟨#[48]⟩] w fun e w' => e = .returned (.string ⟨(if M = 0 then [] else Lib.decDigits M).toArray⟩) ∧ w' = w := by
  have e := Tryz.strings_TrimLeft_one ⟨(dd k M).toArray⟩ 48 (by decide) w
  have e2 : Lib.trimLeftB (⟨(dd k M).toArray⟩ : ByteArray).data.toList 48 = if M = 0 then [] else Lib.decDigits M := strip_dd h
  rw [e2] at e
  exact e
end Go.Proofs.YtkaajgcjdgjcbaaGreatDoor.Tx

/- Layer 2, on: Text. -/
namespace Go.Proofs.YtkaajgcjdgjcbaaGreatDoor.Tx
open Go.RowKit Go.Proofs.YtkaajgcjdgjcbaaGreatDoor.Dig Go.Proofs.YtkaajgcjdgjcbaaGreatDoor.W Go.Proofs.YtkaajgcjdgjcbaaGreatDoor.Nat Go.Proofs.YtkaajgcjdgjcbaaGreatDoor.Wh Go.Proofs.YtkaajgcjdgjcbaaGreatDoor.Td Go.Proofs.YtkaajgcjdgjcbaaGreatDoor.Bu

set_option maxHeartbeats 4000000 in
set_option maxRecDepth 100000 in
theorem text_calls (A : Option Addr) (n c : Nat) (l : List Nat) (w : World) (h : SI w .u64 A n c l) (hl : Lt U l) (hn : n ≤ 1000000000000) (hp : Pow w) :
    Calls Tryz.prog 34 #[.slice A n c] w fun e w' => e = .returned (.string ⟨(Lib.decDigits (val U l)).toArray⟩) ∧ Below w.heap.size w w' := by
  have hM : val U l < U ^ n := by rw [← h.len]; exact val_lt U_pos hl
  go_enter Tryz.func34, Tryz.ntmps34
  go_wp2
  go_loopw [0, 3] (fun z p wr => ∃ (t m : Nat) (Ps : List (List UInt8)) (Aa : Option Addr) (na ca : Nat) (L : List Nat) (Ap : Option Addr) (np cp : Nat), z = .slice Aa na ca ∧ p = .slice Ap np cp ∧ np = t ∧ na ≤ 1000000000000 ∧ TI (val U l) n t m Ps ∧ SI wr .u64 Aa na ca L ∧ Lt U L ∧ Hid (val U L = m) ∧ Os wr w.heap.size (.slice Ap np cp) Ps ∧ Below w.heap.size w wr) (fun _ p _ => match p with | .slice _ k _ => 2 * n + 1 - k | _ => 0)
  case atStart => exact ⟨0, val U l, [], _, _, _, l, none, 0, 0, rfl, rfl, rfl, hn, TI.start _ _, h, hl, rfl, Os.nil _ _, Below.refl _ _⟩
  case round =>
    obtain ⟨t, m, Ps, Aa, na, ca, L, Ap, np, cp, rfl, rfl, rfl, hna, hI, hr, hL, HV, hos, hb⟩ := hrel
    by_cases h0 : m = 0
    · subst h0
      have hlt : val U l < 10 ^ (18 * np) := by
        rcases Nat.lt_or_ge (val U l) (10 ^ (18 * np)) with y | y
        · exact y
        · have := Nat.div_pos y (Nat.pow_pos (n := 18 * np) (by omega : 0 < 10))
          have := hI.val
          omega
      have hcat := hI.cat
      have hlen := hI.len
      have hle := hI.le
      have hB := bits_calls Aa na ca L wr hr hL (by omega)
      rw [HV.out, bits_zero] at hB
      have HB := Lib.hid hB
      have HO := Lib.hid hos
      have HC := Lib.hid hcat
      have HW := Lib.hid hb
      clear hB hr hL HV hos hI hp h hl hM hcat hb
      obtain ⟨M, hM⟩ : ∃ M, M = val U l := ⟨_, rfl⟩
      rw [← hM] at hlt HC
      have HM := Lib.hid hM
      clear hM
      go_wp2_with (first
        | (go_at_call 60; (with_reducible refine HB.out.mono ?_); rintro e w1 ⟨rfl, rfl⟩))
      generalize wr = wB at *
      go_loopw [11] (fun z wr => ∃ (i : Nat) (y : Int), z = .int .i64 y ∧ i ≤ np ∧ Hid (y + 1 = i) ∧ Lib.IsBuilderF 93 5 wB.heap.size wB.heap.size (Lib.byteCells (back Ps i)) wr ∧ Below wB.heap.size wB wr) (fun z _ => (intOf z + 1).toNat)
      case atStart => exact ⟨np, (np : Int) - 1, rfl, Nat.le_refl _, by unfold Hid; omega, by rw [← hlen, back_end]; exact .inl ⟨Nat.le_refl _, .slice none 0 0, heap_alloc_new wB _, ⟨rfl, .inl ⟨rfl, rfl⟩⟩, by simp [Value.ownBlock]⟩, alloc_below wB _⟩
      case round =>
        obtain ⟨i, y, rfl, hi, HY, hbu, hbb⟩ := hrel
        cases i with
        | zero =>
          obtain rfl : y = -1 := by have := HY.out; omega
          rw [back_zero, HC.out] at hbu
          have hS := Tryz.Builder_String_any_f wB.heap.size wB.heap.size (dd (18 * np) M) wr hbu hbb.size
          have HS := Lib.hid hS
          have HT := Lib.hid (fun w1 => strip_calls (18 * np) M hlt w1)
          clear hS hbu
          by_cases h0 : M = 0
          · subst h0
            go_wp2_with (first
              | (go_at_call 66; (with_reducible refine HS.out.mono ?_); rintro e w2 ⟨rfl, _, b2⟩)
              | (go_at_call 65; (with_reducible refine (HT.out w2).mono ?_); rintro e w3 ⟨rfl, rfl⟩))
            go_ret
            exact ⟨by rw [← HM.out, dec_small (by omega)]; rfl, HW.out.trans ((hbb.trans b2).mono HW.out.size)⟩
          · have he : (Lib.decDigits M).isEmpty = false := by
              have := dec_len_pos M
              cases hd : Lib.decDigits M with
              | nil => rw [hd] at this; simp at this
              | cons _ _ => rfl
            go_wp2_with (first
              | (go_at_call 66; (with_reducible refine HS.out.mono ?_); rintro e w2 ⟨rfl, _, b2⟩)
              | (go_at_call 65; (with_reducible refine (HT.out w2).mono ?_); rintro e w3 ⟨rfl, rfl⟩))
            go_ret
            exact ⟨by rw [← HM.out]; rfl, HW.out.trans ((hbb.trans b2).mono HW.out.size)⟩
        | succ j =>
          obtain rfl : y = (j : Int) := by have := HY.out; omega
          obtain ⟨b, o, rfl, hblt, hc0⟩ := HO.out.at_ (j := j) (by omega)
          have hc1 := cell_keep hbb hc0
          have hcap := HO.out.cap_
          have hbl := back_le Ps j
          rw [HC.out, dd_len] at hbl
          have hcells := back_cells (Ps := Ps) (j := j) (by omega)
          have hst := back_step (Ps := Ps) (j := j) (by omega)
          generalize Ps.getD j [] = P at *
          have hW := writeString_calls wB.heap.size wB.heap.size _ ⟨P.toArray⟩ wr hbu (by rw [Lib.byteCells_length]; rw [hst, List.length_append] at hbl; show _ + P.toArray.size ≤ _; rw [List.size_toArray]; omega) hbb.size
          rw [hcells] at hW
          have HB2 := Lib.hid hW
          clear hW hcells hst hbl hbu hc0
          go_wp2_with (first
            | (go_at_call 64; (with_reducible refine HB2.out.mono ?_); rintro e w2 ⟨rfl, hb2, b2⟩))
          go_roundw
          case rel => exact ⟨j, (j : Int) - 1, rfl, by omega, by unfold Hid; omega, .inr hb2, hbb.trans b2⟩
          case measure => simp [intOf]
    · have hlt := hI.less hM h0
      have hnew := hI.round hM h0
      have hlen := hI.len
      have hB := bits_calls Aa na ca L wr hr hL (by omega)
      rw [HV.out] at hB
      have hnb : 0 < nbits m := bits_pos h0
      have hmK : m % K < K := Nat.mod_lt _ (by decide)
      have hq : (digs U (m / K)).length ≤ na := by
        have := digs_len_le hL hr.len (Nat.le_refl na)
        rw [HV.out] at this
        exact digs_bound (Nat.div_le_self m K) this
      generalize nbits m = nb at *
      have HB := Lib.hid hB
      have HD := Lib.hid (fun (A3 : Option Addr) (n3 c3 : Nat) (w3 : World) (r3 : SI w3 .u64 A3 n3 c3 (digs U K)) (b3 : Below wr.heap.size wr w3) => div_block Aa A3 na ca n3 c3 m L w3 (hr.below b3) r3 hL HV.out (by omega))
      have HN := Lib.hid hnew
      have HQ := Lib.hid hq
      have HP := Lib.hid (fun (w5 : World) (b5 : Below wr.heap.size wr w5) => (hp.below hb).below b5)
      have HO := Lib.hid hos
      generalize m % K = k at *
      generalize m / K = q at *
      clear hB hnew hq hr hL HV hos hI hp h hl hM
      go_wp2_with (first
        | (go_at_call 60; (with_reducible refine HB.out.mono ?_); rintro e w1 ⟨rfl, rfl⟩)
        | (go_at_call 54; (with_reducible refine (of_block wr).mono ?_); rintro e w3 ⟨v3, rfl, o3, b3⟩; obtain ⟨A3, n3, c3, rfl, r3⟩ := o3.reads_n)
        | (go_at_call 53; (with_reducible refine (HD.out A3 n3 c3 w3 r3 b3).mono ?_); rintro e w4 ⟨v4, v5, rfl, o4, o5, b4⟩; obtain ⟨A4, n4, c4, rfl, r4⟩ := o4.reads_n; obtain ⟨A5, n5, c5, rfl, r5⟩ := o5.reads_n)
        | (go_at_call 61; (with_reducible refine (uint_d A5 n5 c5 k w4 r5 (Nat.lt_trans hmK K_lt)).mono ?_); rintro e w5 ⟨rfl, rfl⟩)
        | (go_at_call 62; (with_reducible refine (fmt_calls k hmK w4 (HP.out w4 (b3.trans (b4.mono b3.size)))).mono ?_); rintro e w6 ⟨S, rfl, hS1, hS2, b6⟩; have HS1 := Lib.hid hS1; clear hS1)
        | (go_at_call 63; (with_reducible refine (rep_calls S hS2 w6).mono ?_); rintro e w7 ⟨rfl, b7⟩)
        | (at_builtin; refine step_append_str _ rfl (.tmp 30) (.tmp 37) rfl w.heap.size (.slice Ap np cp) Ps rfl ((((HO.out.below b3).below b4).below b6).below b7 |>.below (alloc_below _ _)) _ 1 1 (dd 18 k) rfl rfl (lit_str' w7 _ _ _ (pad_str hmK HS1.out)) (by omega) (by have := hb.size; have := b3.size; have := b4.size; have := b6.size; have := b7.size; have := (alloc_below w7 (.cells #[.string (⟨Array.replicate (18 - S.size) 48⟩ ++ S)] 9)).size; omega) ?_; intro v8 w8 os8 g8; obtain ⟨A8, n8, c8, rfl, hn8, hs8⟩ := os8.reads; obtain rfl : n8 = np + 1 := (by rw [hn8, List.length_append, hlen]; rfl); clear hn8 hs8))
      have hbA := alloc_below w7 (.cells #[.string (⟨Array.replicate (18 - S.size) 48⟩ ++ S)] 9)
      have hsz : w.heap.size ≤ w7.heap.size := by have := hb.size; have := b3.size; have := b4.size; have := b6.size; have := b7.size; omega
      have b8 : Below w.heap.size w w8 := ((((((hb.trans (b3.mono hb.size)).trans (b4.mono (by have := hb.size; have := b3.size; omega))).trans (b6.mono (by have := hb.size; have := b3.size; have := b4.size; omega))).trans (b7.mono (by have := hb.size; have := b3.size; have := b4.size; have := b6.size; omega))).trans (hbA.mono hsz))).grown g8 (Nat.le_trans hsz hbA.size) (fun j hj => HO.out.grown j hj)
      have r8 : SI w8 .u64 A4 n4 c4 (digs U q) := Sl.grown ((((r4.below b6).below b7).below hbA)) g8 (fun b o e he => by
        have h1 := HO.out.lt b he.symm
        have h2 := own_from o4 b o none e
        have := b3.size
        omega)
      go_roundw
      case rel => exact ⟨np + 1, q, Ps ++ [dd 18 k], A4, n4, c4, digs U q, A8, np + 1, c8, rfl, rfl, rfl, by rw [← r4.len]; exact Nat.le_trans HQ.out hna, HN.out, r8, dl _, val_digs U_two _, os8, b8⟩
      case measure =>
        simp
        omega
end Go.Proofs.YtkaajgcjdgjcbaaGreatDoor.Tx

/- Layer 2, on: Parse. -/
namespace Go.Proofs.YtkaajgcjdgjcbaaGreatDoor.Tx
open Go.RowKit Go.Proofs.YtkaajgcjdgjcbaaGreatDoor.Dig Go.Proofs.YtkaajgcjdgjcbaaGreatDoor.W Go.Proofs.YtkaajgcjdgjcbaaGreatDoor.Nat Go.Proofs.YtkaajgcjdgjcbaaGreatDoor.Wh Go.Proofs.YtkaajgcjdgjcbaaGreatDoor.Td Go.Proofs.YtkaajgcjdgjcbaaGreatDoor.Bu

def digset : List UInt8 := [48, 49, 50, 51, 52, 53, 54, 55, 56, 57]
theorem digset_has (b : UInt8) : digset.contains b = decide (isDig b) := by
  have h : ∀ n : Fin 256, digset.contains (UInt8.ofNat n.val) = decide (isDig (UInt8.ofNat n.val)) := by decide +kernel
  have e := h ⟨b.toNat, b.toNat_lt⟩
  rwa [UInt8.ofNat_toNat] at e
theorem dropWhile_nil {p : UInt8 → Bool} : ∀ {l : List UInt8}, l.dropWhile p = [] ↔ ∀ x ∈ l, p x = true
  | [] => by simp
  | x :: l => by
    cases h : p x with
    | true => rw [List.dropWhile_cons_of_pos h, dropWhile_nil]; simp [h]
    | false => rw [List.dropWhile_cons_of_neg (by simp [h])]; simp [h]
theorem trim_all {l : List UInt8} (h : ∀ b ∈ l, isDig b) : Lib.trimS l digset = [] := by
  unfold Lib.trimS Lib.trimRightS Lib.trimLeftS
  have : l.reverse.dropWhile (digset.contains ·) = [] := by
    rw [dropWhile_nil]
    intro b hb
    rw [digset_has, decide_eq_true (h b (by simpa using hb))]
  rw [this]
  rfl
theorem takeWhile_has {p : UInt8 → Bool} {b : UInt8} : ∀ {l : List UInt8}, b ∈ l.takeWhile p → p b = true
  | [], h => by simp at h
  | x :: l, h => by
    cases hx : p x with
    | true =>
      rw [List.takeWhile_cons_of_pos hx, List.mem_cons] at h
      rcases h with rfl | h
      · exact hx
      · exact takeWhile_has h
    | false => rw [List.takeWhile_cons_of_neg (by simp [hx])] at h; simp at h
theorem trim_some {l : List UInt8} (h : ¬ ∀ b ∈ l, isDig b) : (Lib.trimS l digset).isEmpty = false := by
  rw [Bool.eq_false_iff]
  intro he
  apply h
  rw [List.isEmpty_iff] at he
  unfold Lib.trimS Lib.trimRightS Lib.trimLeftS at he
  rw [dropWhile_nil] at he
  intro b hb
  have hall : ∀ b ∈ l.reverse.dropWhile (digset.contains ·), isDig b := fun b hb => by
    have := he b (by simpa using hb)
    rw [digset_has] at this
    exact of_decide_eq_true this
  have hs := List.takeWhile_append_dropWhile (p := (digset.contains ·)) (l := l.reverse)
  have hb2 : b ∈ l.reverse := by simpa using hb
  rw [← hs, List.mem_append] at hb2
  rcases hb2 with h1 | h1
  · have := takeWhile_has h1
    rw [digset_has] at this
    exact of_decide_eq_true this
  · exact hall b h1
theorem trimset_calls (s : ByteArray) (hs : s.size ≤ 9223372036854775807) (w : World) :
    Calls Tryz.prog 68 #[.string s, .string ⟨#[48, 49, 50, 51, 52, 53, 54, 55, 56, 57]⟩] w fun e w' => e = .returned (.string ⟨(Lib.trimS s.data.toList digset).toArray⟩) ∧ Below w.heap.size w w' :=
  Any.strings_Trim_laid Tryz.lays160 (by kernel_rfl) s ⟨#[48, 49, 50, 51, 52, 53, 54, 55, 56, 57]⟩ w hs (by decide) (ascii_of_all (by decide))
theorem parse_long (s : ByteArray) (hs : 8192 < s.size) (hs2 : s.size ≤ 9223372036854775807) (w : World) :
    Calls Tryz.prog 37 #[.string s] w fun e w' => e = .returned (.tuple #[.slice none 0 0, .int .i64 21]) ∧ Below w.heap.size w w' := by
  have hd : decide ((8192 : Int) < (s.size : Int)) = true := decide_eq_true (by omega)
  go_enter Tryz.func37, Tryz.ntmps37
  go_wp2
  go_ret2
  exact ⟨rfl, Below.refl _ _⟩
/-- is it a numeral, as Parse takes it? -/
def Numeral (l : List UInt8) : Prop := (∀ b ∈ l, isDig b) ∧ ∃ c r, l = c :: r ∧ (c ≠ 48 ∨ r = [])
theorem empty_of {s : ByteArray} (h : s.size = 0) : s.toList.isEmpty = true := by
  rw [Lib.toList_data, List.isEmpty_iff]
  exact List.eq_nil_of_length_eq_zero (by rw [← Lib.size_eq]; exact h)
theorem not_empty_of {s : ByteArray} (h : 0 < s.size) : s.toList.isEmpty = false := by
  rw [Lib.toList_data, Bool.eq_false_iff]
  intro he
  rw [List.isEmpty_iff] at he
  have := Lib.size_eq s
  rw [he, List.length_nil] at this
  omega
theorem first_of {s : ByteArray} (h : 0 < s.size) {c : UInt8} {r : List UInt8} (hl : s.data.toList = c :: r) : s[0] = c := by
  show s.data[0] = c
  have h2 : s.data.toList[0]? = some c := by rw [hl]; rfl
  rw [Array.getElem?_toList] at h2
  exact (Array.getElem?_eq_some_iff.1 h2).2
set_option maxRecDepth 100000 in
theorem parse_bad (s : ByteArray) (hs : s.size ≤ 8192) (hb : ¬ Numeral s.data.toList) (w : World) :
    Calls Tryz.prog 37 #[.string s] w fun e w' => e = .returned (.tuple #[.slice none 0 0, .int .i64 20]) ∧ Below w.heap.size w w' := by
  have hT := trimset_calls s (by omega) w
  have hd : decide ((8192 : Int) < (s.size : Int)) = false := decide_eq_false (by omega)
  by_cases hall : ∀ b ∈ s.data.toList, isDig b
  · rw [trim_all hall] at hT
    have HT := Lib.hid hT
    clear hT
    rcases Nat.eq_zero_or_pos s.size with h0 | h0
    · have he := empty_of h0
      clear hall hb
      go_enter Tryz.func37, Tryz.ntmps37
      go_wp2_with (go_at_call 68; (with_reducible refine HT.out.mono ?_); rintro e w1 ⟨rfl, b1⟩)
      all_goals (go_ret2; exact ⟨rfl, b1⟩)
    · have he := not_empty_of h0
      obtain ⟨c, r, hl⟩ : ∃ c r, s.data.toList = c :: r := by
        cases hl : s.data.toList with
        | nil => have := Lib.size_eq s; rw [hl, List.length_nil] at this; omega
        | cons c r => exact ⟨c, r, rfl⟩
      have hc : c = 48 ∧ r ≠ [] := ⟨Classical.byContradiction fun hc => hb ⟨hall, c, r, hl, .inl hc⟩, fun hr => hb ⟨hall, c, r, hl, .inr hr⟩⟩
      obtain ⟨rfl, hr⟩ := hc
      have hz : (s[0].toNat : Int) = 48 := by rw [first_of h0 hl]; rfl
      have hn : (s.toList == [48]) = false := by
        rw [beq_eq_false_iff_ne, Lib.toList_data, hl]
        intro e
        injection e with _ e
        exact hr e
      clear hall hb hr hl
      go_enter Tryz.func37, Tryz.ntmps37
      go_wp2_with (go_at_call 68; (with_reducible refine HT.out.mono ?_); rintro e w1 ⟨rfl, b1⟩)
      all_goals (go_ret2; exact ⟨rfl, b1⟩)
  · have he := trim_some hall
    generalize Lib.trimS s.data.toList digset = D at *
    have HT := Lib.hid hT
    clear hT hall hb
    go_enter Tryz.func37, Tryz.ntmps37
    go_wp2_with (go_at_call 68; (with_reducible refine HT.out.mono ?_); rintro e w1 ⟨rfl, b1⟩)
    go_ret2
    exact ⟨rfl, b1⟩
theorem head_list (s : ByteArray) (k : Nat) : (s.extract 0 k).data.toList = s.data.toList.take k := by
  rw [ByteArray.data_extract, Array.toList_extract]
  simp [List.extract_eq_take_drop]
theorem tail_list (s : ByteArray) (k : Nat) : (s.extract k s.size).data.toList = s.data.toList.drop k := by
  rw [Lib.extract_from]
theorem pu_calls (s : ByteArray) (k : Nat) (h1 : 0 < k) (h2 : k ≤ s.size) (h3 : k ≤ 18) (hd : ∀ b ∈ s.data.toList, isDig b) (w : World) :
    Calls Tryz.prog 69 #[.string (s.extract 0 k), .int .i64 10, .int .i64 64] w fun e w' => e = .returned (.tuple #[.int .u64 (nv 0 (s.data.toList.take k) : Nat), .nilIface]) ∧ Below w.heap.size w w' := by
  have hl : (s.data.toList.take k).length = k := by rw [List.length_take, ← Lib.size_eq]; omega
  have hp : Lib.parseUintB 64 (s.extract 0 k).data.toList = .ok (nv 0 (s.data.toList.take k)) := by
    rw [head_list]
    exact parse_dig (fun b hb => hd b (List.mem_of_mem_take hb)) (fun e => by rw [e] at hl; simp at hl; omega) (by omega)
  have hsz : (s.extract 0 k).size = k := by rw [Lib.size_eq, head_list, hl]
  refine (Tryz.strconv_ParseUint_10_at64_ok (s.extract 0 k) (by omega) _ hp w).mono ?_
  rintro e w' ⟨rfl, h⟩
  refine ⟨rfl, ?_⟩
  rcases h with rfl | rfl
  · exact Below.refl _ _
  · exact Joins.below_bytesWorld _ w _ _ (Nat.le_refl _)
theorem pow10_calls (k : Nat) (w : World) (hk : k ≤ 18) : Calls Tryz.prog 57 #[.int .u64 10, .int .i64 (k : Nat)] w (Gives w .u64 (digs U (10 ^ k))) := power_calls 10 k w (by omega) (by omega) (by omega)
theorem nv_short {l : List UInt8} (h : ∀ b ∈ l, isDig b) (hl : l.length ≤ 8192) : (digs U (nv 0 l)).length ≤ 8192 := pow_short (a := 10) (Nat.le_refl _) hl (Nat.le_of_lt (nv_lt h))
set_option maxHeartbeats 4000000 in
set_option maxRecDepth 100000 in
theorem parse_ok1 (s : ByteArray) (hs : s.size ≤ 8192) (h0 : 0 < s.size) (hall : ∀ b ∈ s.data.toList, isDig b) (hz : ¬ (s[0].toNat : Int) = 48) (w : World) :
    Calls Tryz.prog 37 #[.string s] w fun e w' => ∃ A n c, e = .returned (.tuple #[.slice A n c, .int .i64 0]) ∧ SI w' .u64 A n c (digs U (nv 0 s.data.toList)) ∧ Below w.heap.size w w' := by
  have hT := trimset_calls s (by omega) w
  have hd : decide ((8192 : Int) < (s.size : Int)) = false := decide_eq_false (by omega)
  rw [trim_all hall] at hT
  have HT := Lib.hid hT
  have HA := Lib.hid hall
  have he := not_empty_of h0
  have HL := Lib.hid (Lib.size_eq s)
  clear hT hall
  go_enter Tryz.func37, Tryz.ntmps37
  go_wp2_with (go_at_call 68; (with_reducible refine HT.out.mono ?_); rintro e w1 ⟨rfl, b1⟩)
  go_loopw [0, 4] (fun z p wr => ∃ (s' : ByteArray) (pre : List UInt8) (Ao : Option Addr) (no co : Nat), z = .string s' ∧ p = .slice Ao no co ∧ Hid (s.data.toList = pre ++ s'.data.toList) ∧ SI wr .u64 Ao no co (digs U (nv 0 pre)) ∧ Below w.heap.size w wr) (fun z _ _ => match z with | .string s => s.size | _ => 0)
  case atStart => exact ⟨s, [], none, 0, 0, rfl, rfl, rfl, by rw [nv_nil, digs_zero]; exact SI.nil _ _ _ _ (by omega), b1⟩
  case round =>
    obtain ⟨s', pre, Ao, no, co, rfl, rfl, HS, hr, hb⟩ := hrel
    rcases Nat.eq_zero_or_pos s'.size with h1 | h1
    · have he' := empty_of h1
      have hfin : nv 0 s.data.toList = nv 0 pre := by
        rw [HS.out, List.eq_nil_of_length_eq_zero (l := s'.data.toList) (by rw [← Lib.size_eq]; exact h1), List.append_nil]
      have HF := Lib.hid hfin
      clear hfin
      go_wp2
      go_ret2
      exact ⟨_, _, _, rfl, by rw [HF.out]; exact hr, hb⟩
    · have he' := not_empty_of h1
      obtain ⟨k, hk⟩ : ∃ k, min s'.size 18 = k := ⟨_, rfl⟩
      have hk1 : k ≤ s'.size := by omega
      have hk2 : k ≤ 18 := by omega
      have hk3 : 0 < k := by omega
      have hmin : min (s'.size : Int) 18 = (k : Int) := by omega
      clear hk
      have hd' : ∀ b ∈ s'.data.toList, isDig b := fun b hb => HA.out b (by rw [HS.out]; simp [hb])
      have hpd : ∀ b ∈ pre, isDig b := fun b hb => HA.out b (by rw [HS.out]; simp [hb])
      have hpre2 : pre.length + s'.size ≤ 8192 := by have := HS.out; have h2 := congrArg List.length this; rw [List.length_append, ← Lib.size_eq, ← Lib.size_eq] at h2; omega
      have hL1 := nv_short hpd (by omega)
      have hL2 : (digs U (nv 0 (pre ++ s'.data.toList.take k))).length ≤ 8192 := nv_short (fun b hb => by
        rw [List.mem_append] at hb
        rcases hb with hb | hb
        · exact hpd b hb
        · exact hd' b (List.mem_of_mem_take hb)) (by rw [List.length_append, List.length_take]; omega)
      have hval : nv 0 pre * 10 ^ k + nv 0 (s'.data.toList.take k) = nv 0 (pre ++ s'.data.toList.take k) := by
        rw [nv_append, nv_acc (nv 0 pre), List.length_take, ← Lib.size_eq, Nat.min_eq_left hk1]
      have hu : nv 0 (s'.data.toList.take k) < U := by
        refine Nat.lt_trans (nv_lt (fun b hb => hd' b (List.mem_of_mem_take hb))) ?_
        have : (s'.data.toList.take k).length ≤ 18 := by rw [List.length_take]; omega
        exact Nat.lt_of_le_of_lt (Nat.pow_le_pow_right (by omega) this) (by decide)
      have HP := Lib.hid (fun w1 => pu_calls s' k hk3 hk1 hk2 hd' w1)
      have HSN : Hid (s.data.toList = (pre ++ s'.data.toList.take k) ++ (s'.extract k s'.size).data.toList) := by
        show _ = _
        rw [tail_list, List.append_assoc, List.take_append_drop]; exact HS.out
      have htl : (s'.extract k s'.size).size = s'.size - k := by rw [Lib.size_eq, tail_list, List.length_drop, ← Lib.size_eq]
      have HTL := Lib.hid htl
      have hL3 : (digs U (10 ^ k)).length ≤ 8192 := pow_short (a := 10) (Nat.le_refl _) (by omega : k ≤ 8192) (Nat.le_refl _)
      have hL4 : (digs U (nv 0 pre * 10 ^ k)).length ≤ 8192 := digs_bound (Nat.le_add_right _ (nv 0 (s'.data.toList.take k))) (by rw [hval]; exact hL2)
      have hL5 : (digs U (nv 0 (s'.data.toList.take k))).length ≤ 8192 := digs_bound (Nat.le_add_left _ (nv 0 pre * 10 ^ k)) (by rw [hval]; exact hL2)
      have HV := Lib.hid hval
      have H1 := Lib.hid hL1
      have H3 := Lib.hid hL3
      have H4 := Lib.hid hL4
      have H5 := Lib.hid hL5
      clear hd' hpd htl hL1 hL2 hL3 hL4 hL5 hval HS h1
      obtain ⟨N, hN⟩ : ∃ N, nv 0 (pre ++ s'.data.toList.take k) = N := ⟨_, rfl⟩
      rw [hN] at HV
      have HNN := Lib.hid hN
      clear hN
      generalize nv 0 (s'.data.toList.take k) = u at *
      go_wp2_with (first
        | (go_at_call 69; (with_reducible refine (HP.out wr).mono ?_); rintro e w2 ⟨rfl, b2⟩)
        | (go_at_call 57; (with_reducible refine (pow10_calls k w2 hk2).mono ?_); rintro e w3 ⟨A3, n3, c3, rfl, r3, b3⟩)
        | (go_at_call 42; (with_reducible refine (mul_d Ao A3 no co n3 c3 _ _ w3 ((hr.below b2).below b3) r3 (by rw [← hr.len]; have := H1.out; omega) (by rw [← r3.len]; have := H3.out; omega)).mono ?_); rintro e w4 ⟨v4, rfl, o4, b4⟩; obtain ⟨A4, n4, c4, rfl, r4⟩ := o4.reads_n)
        | (go_at_call 54; (with_reducible refine (of_calls u w4 hu).mono ?_); rintro e w5 ⟨v5, rfl, o5, b5⟩; obtain ⟨A5, n5, c5, rfl, r5⟩ := o5.reads_n)
        | (go_at_call 41; (with_reducible refine (add_d A4 A5 n4 c4 n5 c5 _ _ 8192 w5 (r4.below b5) r5 (by omega) H4.out H5.out).mono ?_); rintro e w6 ⟨v6, rfl, o6, b6⟩; obtain ⟨A6, n6, c6, rfl, r6⟩ := o6.reads_n))
      rw [HV.out, ← HNN.out] at r6
      have s2 := b2.size
      have s3 := b3.size
      have s4 := b4.size
      have s5 := b5.size
      have s0 := hb.size
      go_roundw
      case rel => exact ⟨_, _, A6, n6, c6, rfl, rfl, HSN, r6, ((((hb.trans (b2.mono s0)).trans (b3.mono (by omega))).trans (b4.mono (by omega))).trans (b5.mono (by omega))).trans (b6.mono (by omega))⟩
      case measure =>
        have := HTL.out
        simp
        omega
set_option maxHeartbeats 4000000 in
set_option maxRecDepth 100000 in
theorem parse_ok2 (s : ByteArray) (hs : s.size ≤ 8192) (h0 : 0 < s.size) (hall : ∀ b ∈ s.data.toList, isDig b) (hz : (s[0].toNat : Int) = 48) (hn : (s.toList == [48]) = true) (w : World) :
    Calls Tryz.prog 37 #[.string s] w fun e w' => ∃ A n c, e = .returned (.tuple #[.slice A n c, .int .i64 0]) ∧ SI w' .u64 A n c (digs U (nv 0 s.data.toList)) ∧ Below w.heap.size w w' := by
  have hT := trimset_calls s (by omega) w
  have hd : decide ((8192 : Int) < (s.size : Int)) = false := decide_eq_false (by omega)
  rw [trim_all hall] at hT
  have HT := Lib.hid hT
  have HA := Lib.hid hall
  have he := not_empty_of h0
  have HL := Lib.hid (Lib.size_eq s)
  clear hT hall
  go_enter Tryz.func37, Tryz.ntmps37
  go_wp2_with (go_at_call 68; (with_reducible refine HT.out.mono ?_); rintro e w1 ⟨rfl, b1⟩)
  go_loopw [0, 4] (fun z p wr => ∃ (s' : ByteArray) (pre : List UInt8) (Ao : Option Addr) (no co : Nat), z = .string s' ∧ p = .slice Ao no co ∧ Hid (s.data.toList = pre ++ s'.data.toList) ∧ SI wr .u64 Ao no co (digs U (nv 0 pre)) ∧ Below w.heap.size w wr) (fun z _ _ => match z with | .string s => s.size | _ => 0)
  case atStart => exact ⟨s, [], none, 0, 0, rfl, rfl, rfl, by rw [nv_nil, digs_zero]; exact SI.nil _ _ _ _ (by omega), b1⟩
  case round =>
    obtain ⟨s', pre, Ao, no, co, rfl, rfl, HS, hr, hb⟩ := hrel
    rcases Nat.eq_zero_or_pos s'.size with h1 | h1
    · have he' := empty_of h1
      have hfin : nv 0 s.data.toList = nv 0 pre := by
        rw [HS.out, List.eq_nil_of_length_eq_zero (l := s'.data.toList) (by rw [← Lib.size_eq]; exact h1), List.append_nil]
      have HF := Lib.hid hfin
      clear hfin
      go_wp2
      go_ret2
      exact ⟨_, _, _, rfl, by rw [HF.out]; exact hr, hb⟩
    · have he' := not_empty_of h1
      obtain ⟨k, hk⟩ : ∃ k, min s'.size 18 = k := ⟨_, rfl⟩
      have hk1 : k ≤ s'.size := by omega
      have hk2 : k ≤ 18 := by omega
      have hk3 : 0 < k := by omega
      have hmin : min (s'.size : Int) 18 = (k : Int) := by omega
      clear hk
      have hd' : ∀ b ∈ s'.data.toList, isDig b := fun b hb => HA.out b (by rw [HS.out]; simp [hb])
      have hpd : ∀ b ∈ pre, isDig b := fun b hb => HA.out b (by rw [HS.out]; simp [hb])
      have hpre2 : pre.length + s'.size ≤ 8192 := by have := HS.out; have h2 := congrArg List.length this; rw [List.length_append, ← Lib.size_eq, ← Lib.size_eq] at h2; omega
      have hL1 := nv_short hpd (by omega)
      have hL2 : (digs U (nv 0 (pre ++ s'.data.toList.take k))).length ≤ 8192 := nv_short (fun b hb => by
        rw [List.mem_append] at hb
        rcases hb with hb | hb
        · exact hpd b hb
        · exact hd' b (List.mem_of_mem_take hb)) (by rw [List.length_append, List.length_take]; omega)
      have hval : nv 0 pre * 10 ^ k + nv 0 (s'.data.toList.take k) = nv 0 (pre ++ s'.data.toList.take k) := by
        rw [nv_append, nv_acc (nv 0 pre), List.length_take, ← Lib.size_eq, Nat.min_eq_left hk1]
      have hu : nv 0 (s'.data.toList.take k) < U := by
        refine Nat.lt_trans (nv_lt (fun b hb => hd' b (List.mem_of_mem_take hb))) ?_
        have : (s'.data.toList.take k).length ≤ 18 := by rw [List.length_take]; omega
        exact Nat.lt_of_le_of_lt (Nat.pow_le_pow_right (by omega) this) (by decide)
      have HP := Lib.hid (fun w1 => pu_calls s' k hk3 hk1 hk2 hd' w1)
      have HSN : Hid (s.data.toList = (pre ++ s'.data.toList.take k) ++ (s'.extract k s'.size).data.toList) := by
        show _ = _
        rw [tail_list, List.append_assoc, List.take_append_drop]; exact HS.out
      have htl : (s'.extract k s'.size).size = s'.size - k := by rw [Lib.size_eq, tail_list, List.length_drop, ← Lib.size_eq]
      have HTL := Lib.hid htl
      have hL3 : (digs U (10 ^ k)).length ≤ 8192 := pow_short (a := 10) (Nat.le_refl _) (by omega : k ≤ 8192) (Nat.le_refl _)
      have hL4 : (digs U (nv 0 pre * 10 ^ k)).length ≤ 8192 := digs_bound (Nat.le_add_right _ (nv 0 (s'.data.toList.take k))) (by rw [hval]; exact hL2)
      have hL5 : (digs U (nv 0 (s'.data.toList.take k))).length ≤ 8192 := digs_bound (Nat.le_add_left _ (nv 0 pre * 10 ^ k)) (by rw [hval]; exact hL2)
      have HV := Lib.hid hval
      have H1 := Lib.hid hL1
      have H3 := Lib.hid hL3
      have H4 := Lib.hid hL4
      have H5 := Lib.hid hL5
      clear hd' hpd htl hL1 hL2 hL3 hL4 hL5 hval HS h1
      obtain ⟨N, hN⟩ : ∃ N, nv 0 (pre ++ s'.data.toList.take k) = N := ⟨_, rfl⟩
      rw [hN] at HV
      have HNN := Lib.hid hN
      clear hN
      generalize nv 0 (s'.data.toList.take k) = u at *
      go_wp2_with (first
        | (go_at_call 69; (with_reducible refine (HP.out wr).mono ?_); rintro e w2 ⟨rfl, b2⟩)
        | (go_at_call 57; (with_reducible refine (pow10_calls k w2 hk2).mono ?_); rintro e w3 ⟨A3, n3, c3, rfl, r3, b3⟩)
        | (go_at_call 42; (with_reducible refine (mul_d Ao A3 no co n3 c3 _ _ w3 ((hr.below b2).below b3) r3 (by rw [← hr.len]; have := H1.out; omega) (by rw [← r3.len]; have := H3.out; omega)).mono ?_); rintro e w4 ⟨v4, rfl, o4, b4⟩; obtain ⟨A4, n4, c4, rfl, r4⟩ := o4.reads_n)
        | (go_at_call 54; (with_reducible refine (of_calls u w4 hu).mono ?_); rintro e w5 ⟨v5, rfl, o5, b5⟩; obtain ⟨A5, n5, c5, rfl, r5⟩ := o5.reads_n)
        | (go_at_call 41; (with_reducible refine (add_d A4 A5 n4 c4 n5 c5 _ _ 8192 w5 (r4.below b5) r5 (by omega) H4.out H5.out).mono ?_); rintro e w6 ⟨v6, rfl, o6, b6⟩; obtain ⟨A6, n6, c6, rfl, r6⟩ := o6.reads_n))
      rw [HV.out, ← HNN.out] at r6
      have s2 := b2.size
      have s3 := b3.size
      have s4 := b4.size
      have s5 := b5.size
      have s0 := hb.size
      go_roundw
      case rel => exact ⟨_, _, A6, n6, c6, rfl, rfl, HSN, r6, ((((hb.trans (b2.mono s0)).trans (b3.mono (by omega))).trans (b4.mono (by omega))).trans (b5.mono (by omega))).trans (b6.mono (by omega))⟩
      case measure =>
        have := HTL.out
        simp
        omega
theorem parse_good (s : ByteArray) (hs : s.size ≤ 8192) (h : Numeral s.data.toList) (w : World) :
    Calls Tryz.prog 37 #[.string s] w fun e w' => ∃ A n c, e = .returned (.tuple #[.slice A n c, .int .i64 0]) ∧ SI w' .u64 A n c (digs U (nv 0 s.data.toList)) ∧ Below w.heap.size w w' := by
  obtain ⟨hall, c, r, hl, hc⟩ := h
  have h0 : 0 < s.size := by rw [Lib.size_eq, hl, List.length_cons]; omega
  by_cases h48 : c = 48
  · subst h48
    have hr := hc.resolve_left (fun h => h rfl)
    subst hr
    exact parse_ok2 s hs h0 hall (by rw [first_of h0 hl]; rfl) (by rw [Lib.toList_data, hl]; rfl) w
  · refine parse_ok1 s hs h0 hall ?_ w
    rw [first_of h0 hl]
    intro e
    apply h48
    have : c.toNat = 48 := by omega
    rw [← UInt8.ofNat_toNat (x := c), this]
    rfl
end Go.Proofs.YtkaajgcjdgjcbaaGreatDoor.Tx

/- Layer 2's laws: the calls of awake, each at its literals. -/
namespace Go.Proofs.YtkaajgcjdgjcbaaGreatDoor.Aw
open Go.RowKit Go.Proofs.YtkaajgcjdgjcbaaGreatDoor.Dig Go.Proofs.YtkaajgcjdgjcbaaGreatDoor.W Go.Proofs.YtkaajgcjdgjcbaaGreatDoor.Nat Go.Proofs.YtkaajgcjdgjcbaaGreatDoor.Wh Go.Proofs.YtkaajgcjdgjcbaaGreatDoor.Td Go.Proofs.YtkaajgcjdgjcbaaGreatDoor.Bu Go.Proofs.YtkaajgcjdgjcbaaGreatDoor.Tx

theorem lt_one {x : Nat} (h : x < U) : Lt U [x] := fun y hy => by rw [List.mem_singleton] at hy; rw [hy]; exact h
theorem val_one (x : Nat) : val U [x] = x := by rw [val_cons, val_nil, Nat.mul_zero, Nat.add_zero]
theorem digs1 {x : Nat} (h : x < U) (h0 : x ≠ 0) : digs U x = [x] := digs_one U_two h h0
/-- a whole number's row at a literal -/
def GW (w : World) (b : Bool) (l : List Nat) (e : Ending) (w' : World) : Prop := ∃ A n c, e = .returned (.agg #[.bool b, .slice A n c]) ∧ SI w' .u64 A n c l ∧ Below w.heap.size w w'
theorem gw_of {w : World} {z : Int} {b : Bool} {l : List Nat} (hb : decide (z < 0) = b) (hl : digs U z.natAbs = l) {e : Ending} {w' : World} (h : GivesW w z e w') : GW w b l e w' := by
  obtain ⟨A, n, c, rfl, r, _, bl⟩ := h
  exact ⟨A, n, c, by rw [hb], by rw [← hl]; exact r, bl⟩
variable (w : World) (A A' : Option Addr) (n c n' c' : Nat)
theorem aw_div (h : SI w .u64 A n c [7]) (h' : SI w .u64 A' n' c' [2]) :
    Calls Tryz.prog 25 #[.agg #[.bool true, .slice A n c], .agg #[.bool false, .slice A' n' c']] w fun e w' =>
      ∃ A n c A' n' c', e = .returned (.tuple #[.agg #[.bool true, .slice A n c], .agg #[.bool false, .slice A' n' c'], .int .i64 0]) ∧ SI w' .u64 A n c [4] ∧ SI w' .u64 A' n' c' [1] ∧ Below w.heap.size w w' := by
  have hn : n = 1 := h.len.symm
  have hn' : n' = 1 := h'.len.symm
  have e := wdivmod_calls true false A A' n c n' c' [7] [2] w h h' (lt_one (by decide)) (lt_one (by decide)) (by omega) (by omega) (by rw [val_one]; decide)
  rw [val_one, val_one] at e
  refine e.mono ?_
  rintro e w' ⟨A1, n1, c1, A2, n2, c2, rfl, r1, r2, _, _, b⟩
  rw [show (sg true 7 / sg false 2).natAbs = 4 by decide, digs1 (by decide) (by decide)] at r1
  rw [show (sg true 7 % sg false 2).natAbs = 1 by decide, digs1 (by decide) (by decide)] at r2
  exact ⟨A1, n1, c1, A2, n2, c2, rfl, r1, r2, b⟩
theorem aw_div0 (h' : SI w .u64 A' n' c' [0]) :
    Calls Tryz.prog 25 #[.agg #[.bool false, .slice none 0 0], .agg #[.bool true, .slice A' n' c']] w fun e w' =>
      e = .returned (.tuple #[.agg #[.bool false, .slice none 0 0], .agg #[.bool false, .slice none 0 0], .int .i64 22]) ∧ Below w.heap.size w w' :=
  wdivmod_zero false true none A' 0 0 n' c' [] [0] w (SI.nil _ _ _ _ (by omega)) h' (lt_one (by decide)) (val_one 0)
theorem aw_pow5 : Calls Tryz.prog 28 #[.int .i64 3] w (Gives1 w [125]) := by
  have e := pow5_calls 3 w (by omega)
  rw [show 5 ^ 3 = 125 from rfl, digs1 (by decide) (by decide)] at e
  exact e
theorem aw_pow10 : Calls Tryz.prog 29 #[.int .i64 2] w (Gives1 w [100]) := by
  have e := Wh.pow10_calls 2 w (by omega)
  rw [show 10 ^ 2 = 100 from rfl, digs1 (by decide) (by decide)] at e
  exact e
theorem aw_pow10e : Calls Tryz.prog 29 #[.int .i64 8193] w fun e w' => e = .returned (.tuple #[.slice none 0 0, .int .i64 23]) ∧ w = w' := pow10_err 8193 w (by omega)
theorem aw_parse : Calls Tryz.prog 37 #[.string ⟨#[49, 50]⟩] w (Gives1 w [12]) := by
  have e := parse_good ⟨#[49, 50]⟩ (by decide) ⟨by decide, 49, [50], rfl, .inl (by decide)⟩ w
  refine e.mono ?_
  rintro e w' ⟨A, n, c, rfl, r, b⟩
  rw [show nv 0 (⟨#[49, 50]⟩ : ByteArray).data.toList = 12 by decide, digs1 (by decide) (by decide)] at r
  exact ⟨A, n, c, rfl, r, b⟩
theorem aw_parsee : Calls Tryz.prog 37 #[.string ⟨#[48, 49]⟩] w fun e w' => e = .returned (.tuple #[.slice none 0 0, .int .i64 20]) ∧ Below w.heap.size w w' :=
  parse_bad ⟨#[48, 49]⟩ (by decide) (by
    rintro ⟨_, c, r, h, h2⟩
    have e : [48, 49] = c :: r := h
    injection e with e1 e2
    subst e1; subst e2
    rcases h2 with h2 | h2
    · exact h2 rfl
    · cases h2) w
theorem big_text : Lib.decDigits (val U [0, 1]) = [49, 56, 52, 52, 54, 55, 52, 52, 48, 55, 51, 55, 48, 57, 53, 53, 49, 54, 49, 54] := by
  have e := dec_nv (l := [49, 56, 52, 52, 54, 55, 52, 52, 48, 55, 51, 55, 48, 57, 53, 53, 49, 54, 49, 54]) (by decide) ⟨49, _, rfl, .inl (by decide)⟩
  rw [show nv 0 [49, 56, 52, 52, 54, 55, 52, 52, 48, 55, 51, 55, 48, 57, 53, 53, 49, 54, 49, 54] = val U [0, 1] by decide] at e
  exact e
theorem aw_text (h : SI w .u64 A n c [0, 1]) (hp : Pow w) : Calls Tryz.prog 34 #[.slice A n c] w fun e w' => e = .returned (.string ⟨#[49, 56, 52, 52, 54, 55, 52, 52, 48, 55, 51, 55, 48, 57, 53, 53, 49, 54, 49, 54]⟩) ∧ Below w.heap.size w w' := by
  have hn : n = 2 := h.len.symm
  have e := text_calls A n c [0, 1] w h (fun x hx => by simp at hx; rcases hx with rfl | rfl <;> decide) (by omega) hp
  rw [big_text] at e
  exact e
theorem aw_make (h : SI w .u64 A n c [5]) : Calls Tryz.prog 15 #[.bool true, .slice A n c] w (GW w true [5]) := by
  have hn : n = 1 := h.len.symm
  have e := make_calls true A n c [5] w h (lt_one (by decide)) (by omega)
  rw [val_one] at e
  exact e.mono fun _ _ h => gw_of (by decide) (digs1 (by decide) (by decide)) h
theorem aw_cmp (h : SI w .u64 A n c [5]) : Calls Tryz.prog 23 #[.agg #[.bool true, .slice A n c], .agg #[.bool false, .slice none 0 0]] w fun e w' => e = .returned (.int .i64 (-1)) ∧ Below w.heap.size w w' := by
  have hn : n = 1 := h.len.symm
  have e := wcmp_calls true false A none n c 0 0 [5] [] w h (SI.nil _ _ _ _ (by omega)) (lt_one (by decide)) (fun x hx => by simp at hx) (by omega) (by omega)
  rw [val_one, val_nil, show icmp (sg true 5) (sg false 0) = -1 by decide] at e
  exact e
theorem aw_neg : Calls Tryz.prog 16 #[.agg #[.bool false, .slice none 0 0]] w (GW w false []) := by
  have e := neg_calls false none 0 0 [] w (SI.nil _ _ _ _ (by omega)) (fun x hx => by simp at hx) (by omega)
  rw [val_nil] at e
  exact e.mono fun _ _ h => gw_of (z := -(sg false 0)) (by decide) (by rw [show (-(sg false 0)).natAbs = 0 by decide]; exact digs_zero U) h
theorem aw_add (h : SI w .u64 A n c [4]) (h' : SI w .u64 A' n' c' [1]) : Calls Tryz.prog 18 #[.agg #[.bool true, .slice A n c], .agg #[.bool false, .slice A' n' c']] w (GW w true [3]) := by
  have hn : n = 1 := h.len.symm
  have hn' : n' = 1 := h'.len.symm
  have e := wadd_calls true false A A' n c n' c' [4] [1] w h h' (lt_one (by decide)) (lt_one (by decide)) (by omega) (by omega)
  rw [val_one, val_one] at e
  exact e.mono fun _ _ h => gw_of (by decide) (digs1 (by decide) (by decide)) h
theorem aw_sub (h : SI w .u64 A n c [4]) (h' : SI w .u64 A' n' c' [1]) : Calls Tryz.prog 20 #[.agg #[.bool true, .slice A n c], .agg #[.bool false, .slice A' n' c']] w (GW w true [5]) := by
  have hn : n = 1 := h.len.symm
  have hn' : n' = 1 := h'.len.symm
  have e := wsub_calls true false A A' n c n' c' [4] [1] w h h' (lt_one (by decide)) (lt_one (by decide)) (by omega) (by omega)
  rw [val_one, val_one] at e
  exact e.mono fun _ _ h => gw_of (by decide) (digs1 (by decide) (by decide)) h
theorem aw_mul (h : SI w .u64 A n c [4]) : Calls Tryz.prog 21 #[.agg #[.bool true, .slice A n c], .agg #[.bool true, .slice A n c]] w (GW w false [16]) := by
  have hn : n = 1 := h.len.symm
  have e := Wh.mul_calls true true A A n c n c [4] [4] w h h (lt_one (by decide)) (lt_one (by decide)) (by omega) (by omega)
  rw [val_one] at e
  exact e.mono fun _ _ h => gw_of (by decide) (digs1 (by decide) (by decide)) h
theorem lit2 (x y : Nat) (t : TypeId) : SI (w.alloc (.cells #[.int .u64 (x : Nat), .int .u64 (y : Nat)] t)) .u64 (some ⟨w.heap.size, 0, none⟩) 2 2 [x, y] :=
  ⟨rfl, Nat.le_refl _, by omega, fun _ => ⟨w.heap.size, 0, rfl, fun j u hu => by
    rw [World.cell?, show (w.alloc (.cells #[.int .u64 (x : Nat), .int .u64 (y : Nat)] t)).heap[w.heap.size]? = _ from heap_alloc_new w _]
    simpa [nums] using hu⟩⟩
end Go.Proofs.YtkaajgcjdgjcbaaGreatDoor.Aw

/- Layer 2's laws: awake. -/
namespace Go.Proofs.YtkaajgcjdgjcbaaGreatDoor.Aw
open Go.RowKit Go.Proofs.YtkaajgcjdgjcbaaGreatDoor.Dig Go.Proofs.YtkaajgcjdgjcbaaGreatDoor.W Go.Proofs.YtkaajgcjdgjcbaaGreatDoor.Nat Go.Proofs.YtkaajgcjdgjcbaaGreatDoor.Wh Go.Proofs.YtkaajgcjdgjcbaaGreatDoor.Td Go.Proofs.YtkaajgcjdgjcbaaGreatDoor.Bu Go.Proofs.YtkaajgcjdgjcbaaGreatDoor.Tx
open Go.Proofs.YtkaajgcjdgjcbaaGreatDoor.Rw (two12)

/-- what awake holds on to -/
structure Live (w W : World) (g : Nat) (A1 : Option Addr) (n1 c1 : Nat) (A2 : Option Addr) (n2 c2 : Nat) : Prop where
  q : Two W g 24 (.bool true) (.slice A1 n1 c1)
  r : Two W (g + 1) 24 (.bool false) (.slice A2 n2 c2)
  sq : SI W .u64 A1 n1 c1 [4]
  sr : SI W .u64 A2 n2 c2 [1]
  p : Pow W
  bl : Below w.heap.size w W
theorem Live.below {w W W' : World} {g : Nat} {A1 : Option Addr} {n1 c1 : Nat} {A2 : Option Addr} {n2 c2 : Nat} (h : Live w W g A1 n1 c1 A2 n2 c2) (hb : Below W.heap.size W W') : Live w W' g A1 n1 c1 A2 n2 c2 :=
  ⟨h.q.below hb, h.r.below hb, h.sq.below hb, h.sr.below hb, h.p.below hb, h.bl.trans (hb.mono h.bl.size)⟩
theorem Live.alloc {w W : World} {g : Nat} {A1 : Option Addr} {n1 c1 : Nat} {A2 : Option Addr} {n2 c2 : Nat} (h : Live w W g A1 n1 c1 A2 n2 c2) (o : Obj) : Live w (W.alloc o) g A1 n1 c1 A2 n2 c2 := h.below (alloc_below W o)
theorem Live.start {w W : World} {A1 : Option Addr} {n1 c1 : Nat} {A2 : Option Addr} {n2 c2 : Nat} (h1 : SI W .u64 A1 n1 c1 [4]) (h2 : SI W .u64 A2 n2 c2 [1]) (hp : Pow W) (hb : Below w.heap.size w W) :
    Live w ((W.alloc (.cells #[.bool true, .slice A1 n1 c1] 24)).alloc (.cells #[.bool false, .slice A2 n2 c2] 24)) W.heap.size A1 n1 c1 A2 n2 c2 := by
  obtain ⟨t1, t2⟩ := two12 W (.bool true) (.slice A1 n1 c1) (.bool false) (.slice A2 n2 c2) 24 24
  have b2 : Below W.heap.size W ((W.alloc (.cells #[.bool true, .slice A1 n1 c1] 24)).alloc (.cells #[.bool false, .slice A2 n2 c2] 24)) := box_two W _ _ _ _
  exact ⟨t1, t2, h1.below b2, h2.below b2, hp.below b2, hb.trans (b2.mono hb.size)⟩
theorem lit_z (w : World) (x : Nat) {z : Int} (hz : z = x) : SI (w.alloc (.cells #[.int .u64 z] 65)) .u64 (some ⟨w.heap.size, 0, none⟩) 1 1 [x] := by
  subst hz; exact lit_one w x
theorem lit_at (w : World) (m : Nat) (hm : w.heap.size = m) (x : Nat) {z : Int} (hz : z = x) : SI (w.alloc (.cells #[.int .u64 z] 65)) .u64 (some ⟨m, 0, none⟩) 1 1 [x] := by
  subst hm; exact lit_z w x hz
theorem lit2_at (w : World) (m : Nat) (hm : w.heap.size = m) : SI (w.alloc (.cells #[.int .u64 0, .int .u64 1] 65)) .u64 (some ⟨m, 0, none⟩) 2 2 [0, 1] := by
  subst hm; exact lit2 w 0 1 _
set_option maxHeartbeats 16000000 in
set_option maxRecDepth 100000 in
theorem awake_calls (w : World) (hp : Pow w) : Calls Tryz.prog 13 #[] w fun e w' => e = .returned (.bool true) ∧ Below w.heap.size w w' := by
  have hb0 : Below w.heap.size w ((w.alloc (.cells #[.int .u64 7] 65)).alloc (.cells #[.int .u64 2] 65)) := Rw.below12' w _ _
  have HB0 := Lib.hid hb0
  have HPW := Lib.hid hp
  have H1 := Lib.hid (aw_div _ _ _ _ _ _ _ ((lit_at w _ rfl 7 (z := 7) rfl).alloc _) (lit_at (w.alloc _) (w.heap.size + 1) (by simp) 2 (z := 2) rfl))
  clear hb0 hp
  go_enter Tryz.func13, Tryz.ntmps13
  go_wp2_with (first
    | (go_at_call 25; first
      | ((with_reducible refine H1.out.mono ?_); rintro e w1 ⟨A1, n1, c1, A2, n2, c2, rfl, r1, r2, b1⟩; have bl1 := HB0.out.trans (b1.mono HB0.out.size); have L1 := Live.start r1 r2 (HPW.out.below bl1) bl1; clear H1)
      | ((with_reducible refine (aw_div0 _ _ _ _ (lit_at _ _ (by simp) 0 (z := 0) rfl)).mono ?_); rintro e w2 ⟨rfl, b2⟩; have L2 := (L1.alloc _).below b2; clear L1))
    | (go_at_call 28; (with_reducible refine (aw_pow5 _).mono ?_); rintro e w3 ⟨A3, n3, c3, rfl, r3, b3⟩; have L3 := ((L2.alloc _).alloc _).below b3; clear L2)
    | (go_at_call 29; first
      | ((with_reducible refine (aw_pow10 _).mono ?_); rintro e w4 ⟨A4, n4, c4, rfl, r4, b4⟩; have L4 := L3.below b4; have P34 := r3.below b4; clear L3 r3)
      | ((with_reducible refine (aw_pow10e _).mono ?_); rintro e w5 ⟨rfl, rfl⟩))
    | (go_at_call 37; first
      | ((with_reducible refine (aw_parse _).mono ?_); rintro e w6 ⟨A6, n6, c6, rfl, r6, b6⟩; have L6 := L4.below b6; have P36 := P34.below b6; have P46 := r4.below b6; clear L4 P34 r4)
      | ((with_reducible refine (aw_parsee _).mono ?_); rintro e w7 ⟨rfl, b7⟩; have L7 := L6.below b7; have P37 := P36.below b7; have P47 := P46.below b7; have P67 := r6.below b7; clear L6 P36 P46 r6; have q0 := L7.q.c0; have q1 := L7.q.c1))
    | (go_at_call 26; first
      | ((with_reducible refine (Rw.same_calls true A1 _ n1 c1 _ _ [4] _ (L7.alloc _).sq (lit_at _ _ rfl 4 (z := 4) rfl)).mono ?_); rintro e w8 ⟨rfl, b8⟩; have L8 := (L7.alloc _).below b8; have P38 := (P37.alloc _).below b8; have P48 := (P47.alloc _).below b8; have P68 := (P67.alloc _).below b8; clear L7 P37 P47 P67 q0 q1; have q0 := L8.r.c0; have q1 := L8.r.c1)
      | ((with_reducible refine (Rw.same_calls false A2 _ n2 c2 _ _ [1] _ (L8.alloc _).sr (lit_at _ _ rfl 1 (z := 1) rfl)).mono ?_); rintro e w9 ⟨rfl, b9⟩; have L9 := (L8.alloc _).below b9; have P39 := (P38.alloc _).below b9; have P49 := (P48.alloc _).below b9; have P69 := (P68.alloc _).below b9; clear L8 P38 P48 P68 q0 q1)
      | ((with_reducible refine (Rw.same_calls false A16 none n16 c16 0 0 [] w16 r16 (SI.nil _ _ _ _ (by omega))).mono ?_); rintro e w17 ⟨rfl, b17⟩; have L17 := L16.below b17; clear L16; have q0 := L17.q.c0; have q1 := L17.q.c1; have q2 := L17.r.c0; have q3 := L17.r.c1)
      | ((with_reducible refine (Rw.same_calls true A18 _ n18 c18 _ _ [3] _ (r18.alloc _) (lit_at _ _ rfl 3 (z := 3) rfl)).mono ?_); rintro e w19 ⟨rfl, b19⟩; have L19 := (L18.alloc _).below b19; clear L18; have q0 := L19.q.c0; have q1 := L19.q.c1; have q2 := L19.r.c0; have q3 := L19.r.c1)
      | ((with_reducible refine (Rw.same_calls true A20 _ n20 c20 _ _ [5] _ (r20.alloc _) (lit_at _ _ rfl 5 (z := 5) rfl)).mono ?_); rintro e w21 ⟨rfl, b21⟩; have L21 := (L20.alloc _).below b21; clear L20; have q0 := L21.q.c0; have q1 := L21.q.c1)
      | ((with_reducible refine (Rw.same_calls false A22 _ n22 c22 _ _ [16] _ (r22.alloc _) (lit_at _ _ rfl 16 (z := 16) rfl)).mono ?_); rintro e w23 ⟨rfl, b23⟩; have L23 := (L22.alloc _).below b23; clear L22))
    | (go_at_call 31; first
      | ((with_reducible refine (Rf.same_calls A3 _ n3 c3 _ _ [125] _ (P39.alloc _) (lit_at _ _ rfl 125 (z := 125) rfl)).mono ?_); rintro e w10 ⟨rfl, d10⟩; have L10 := (L9.alloc _).below d10.below; have P4a := (P49.alloc _).below d10.below; have P6a := (P69.alloc _).below d10.below; clear L9 P39 P49 P69)
      | ((with_reducible refine (Rf.same_calls A4 _ n4 c4 _ _ [100] _ (P4a.alloc _) (lit_at _ _ rfl 100 (z := 100) rfl)).mono ?_); rintro e w11 ⟨rfl, d11⟩; have L11 := (L10.alloc _).below d11.below; have P6b := (P6a.alloc _).below d11.below; clear L10 P4a P6a)
      | ((with_reducible refine (Rf.same_calls A6 _ n6 c6 _ _ [12] _ (P6b.alloc _) (lit_at _ _ rfl 12 (z := 12) rfl)).mono ?_); rintro e w12 ⟨rfl, d12⟩; have L12 := (L11.alloc _).below d12.below; clear L11 P6b))
    | (go_at_call 34; (with_reducible refine (aw_text _ _ _ _ (lit2_at _ _ rfl) (L12.alloc _).p).mono ?_); rintro e w13 ⟨rfl, b13⟩; have L13 := (L12.alloc _).below b13; clear L12)
    | (go_at_call 15; (with_reducible refine (aw_make _ _ _ _ (lit_at _ _ rfl 5 (z := 5) rfl)).mono ?_); rintro e w14 ⟨A14, n14, c14, rfl, r14, b14⟩; have L14 := (L13.alloc _).below b14; clear L13)
    | (go_at_call 23; (with_reducible refine (aw_cmp _ A14 n14 c14 r14).mono ?_); rintro e w15 ⟨rfl, b15⟩; have L15 := L14.below b15; clear L14)
    | (go_at_call 16; (with_reducible refine (aw_neg _).mono ?_); rintro e w16 ⟨A16, n16, c16, rfl, r16, b16⟩; have L16 := L15.below b16; clear L15)
    | (go_at_call 18; (with_reducible refine (aw_add _ A1 A2 n1 c1 n2 c2 L17.sq L17.sr).mono ?_); rintro e w18 ⟨A18, n18, c18, rfl, r18, b18⟩; have L18 := L17.below b18; clear L17 q0 q1 q2 q3)
    | (go_at_call 20; (with_reducible refine (aw_sub _ A1 A2 n1 c1 n2 c2 L19.sq L19.sr).mono ?_); rintro e w20 ⟨A20, n20, c20, rfl, r20, b20⟩; have L20 := L19.below b20; clear L19 q0 q1 q2 q3)
    | (go_at_call 21; (with_reducible refine (aw_mul _ A1 n1 c1 L21.sq).mono ?_); rintro e w22 ⟨A22, n22, c22, rfl, r22, b22⟩; have L22 := L21.below b22; clear L21 q0 q1))
  go_ret
  exact ⟨rfl, L23.bl⟩
end Go.Proofs.YtkaajgcjdgjcbaaGreatDoor.Aw

/- Layer 2: what every row of the seat needs: a world that holds the listed variables. -/
namespace Go.Proofs.YtkaajgcjdgjcbaaGreatDoor.Row
open Go.ChangeShapes Go.WideShapes Go.ChangeAt Go.RowKit

theorem own : ownKnob Tryz.prog.godebug = none := by kernel_rfl
theorem laidOut : laidOutB Tryz.prog = true := by kernel_rfl
theorem gTab : Tryz.prog.globalNamed "internal/strconv.uint64pow10" = some 2 := by kernel_rfl
mutual
def flatD : DataW Unit → List Value
  | .lit (.int k n) => [.int k n]
  | .agg ps => flatDs ps
  | _ => []
def flatDs : List (DataW Unit) → List Value
  | [] => []
  | d :: r => flatD d ++ flatDs r
end
def putRow (cs : Array Value) : Obj → Obj
  | .cells _ t frozen => .cells cs t frozen
  | o => o
noncomputable def low : Nat := (World.holding Tryz.prog default ⟨#[], #[], []⟩).heap.size
abbrev rangeS : ByteArray := ⟨#[118, 97, 108, 117, 101, 32, 111, 117, 116, 32, 111, 102, 32, 114, 97, 110, 103, 101]⟩
abbrev syntaxS : ByteArray := ⟨#[105, 110, 118, 97, 108, 105, 100, 32, 115, 121, 110, 116, 97, 120]⟩
/-- A WORLD FOR THE WITNESS: the settled one, the listed variables holding what the program's text lays. -/
noncomputable def laidWorld (os : Os) : World :=
  let w0 := World.holding Tryz.prog os ⟨#[.cells #[.string rangeS] 169, .cells #[.string syntaxS] 169], #[], []⟩
  { w0 with heap := ((((((w0.heap.modify 6 (putRow (flatD Rows.laid_unicode_utf8_first).toArray)).modify 7 (putRow (flatD Rows.laid_unicode_utf8_acceptRanges).toArray)).modify 8 (putRow (flatD Rows.laid_math_bits_deBruijn32tab).toArray)).modify 9 (putRow (flatD Rows.laid_math_bits_deBruijn64tab).toArray)).modify 2 (putRow (flatD Rows.laid_internal_strconv_uint64pow10).toArray)).modify 4 (putRow #[.iface 167 (.pointer (some ⟨low, 0, none⟩))])).modify 3 (putRow #[.iface 167 (.pointer (some ⟨low + 1, 0, none⟩))]) }
end Go.Proofs.YtkaajgcjdgjcbaaGreatDoor.Row

/- Layer 2: the table of powers of ten, out of what a row lists. -/
namespace Go.Proofs.YtkaajgcjdgjcbaaGreatDoor.Row
open Go.ChangeShapes Go.WideShapes Go.ChangeAt Go.RowKit

theorem tab_e : (Rows.laid_internal_strconv_uint64pow10 : DataW Unit) = Lib.tabData .u64 Lib.pow10Tab := by kernel_rfl
theorem pow_of_laid {W : World} (h : laidMetH Tryz.prog Rows.wholePowersRow.laid W) : Bu.Pow W := by
  have h1 : laidMet Tryz.prog Rows.wholePowersRow.laid W := h
  have h2 := h1.tail.tail
  rw [tab_e] at h2
  exact Lib.tabIs_of_head (n := 20) (e := 65) gTab (by kernel_rfl) Tryz.underlying150 Tryz.underlying65 (by kernel_rfl) (by kernel_rfl) h2
end Go.Proofs.YtkaajgcjdgjcbaaGreatDoor.Row

/- Layer 2's rows: slices of limbs and whole numbers, opened; what the bound on their bulk gives. -/
namespace Go.Proofs.YtkaajgcjdgjcbaaGreatDoor.Row
open Go.ChangeShapes Go.WideShapes Go.ChangeAt Go.RowKit Go.Proofs.YtkaajgcjdgjcbaaGreatDoor.Open Go.Proofs.YtkaajgcjdgjcbaaGreatDoor.W Go.Proofs.YtkaajgcjdgjcbaaGreatDoor.Dig Go.Proofs.YtkaajgcjdgjcbaaGreatDoor.Nat

theorem si_open {w : World} {v : Value} (h : (L1.row [.int .u64] 8).Is w v) : ∃ (A : Option Addr) (n c : Nat) (l : List Nat), v = .slice A n c ∧ SI w .u64 A n c l ∧ Lt U l := by
  obtain ⟨A, n, c, zs, rfl, h1, h2, _, _, h5, h6⟩ := row_ints h
  have hz : ∀ z ∈ zs, ∃ x : Nat, x < U ∧ z = (x : Int) := fun z hz => by
    obtain ⟨i, hi⟩ := List.getElem?_of_mem hz
    have := (h6 i z hi).1
    simp only [Lit.wf, Bool.and_eq_true, decide_eq_true_eq] at this
    have m1 : IntKind.u64.min = 0 := rfl
    have m2 : IntKind.u64.max = 18446744073709551615 := rfl
    rw [m1, m2] at this
    exact ⟨z.toNat, by unfold U; omega, by omega⟩
  have hback : ∀ z ∈ zs, ((z.toNat : Nat) : Int) = z := fun z hz' => by
    obtain ⟨x, _, rfl⟩ := hz z hz'
    rfl
  refine ⟨A, n, c, zs.map Int.toNat, rfl, ⟨by rw [nums_length, List.length_map, h5, Nat.mul_one], h1, h2, fun hn => ?_⟩, fun x hx => ?_⟩
  · obtain ⟨_, b, o, e, _⟩ := h6 0 zs[0] (List.getElem?_eq_getElem (by omega))
    refine ⟨b, o, e, fun j u hu => ?_⟩
    unfold nums at hu
    rw [List.map_map, List.getElem?_map] at hu
    cases hz2 : zs[j]? with
    | none => rw [hz2] at hu; cases hu
    | some z =>
      rw [hz2] at hu
      simp only [Option.map_some, Option.some.injEq, Function.comp_apply] at hu
      obtain ⟨_, b', o', e', hc⟩ := h6 j z hz2
      rw [e] at e'
      injection e' with e'
      injection e' with e1 e2
      subst e1; subst e2
      rw [hback z (List.mem_of_getElem? hz2)] at hu
      rw [← hu]
      exact hc
  · obtain ⟨z, hz', rfl⟩ := List.mem_map.1 hx
    obtain ⟨y, hy, rfl⟩ := hz z hz'
    exact hy
section
variable {H : Type}
theorem one_le (d : DataW H) : 1 ≤ Rows.uptoBulk d := by
  cases d with
  | lit l => cases l <;> simp [Rows.uptoBulk]
  | nil => simp [Rows.uptoBulk]
  | ptr d => simp [Rows.uptoBulk]
  | slice elems spare => simp [Rows.uptoBulk]
  | agg parts => simp [Rows.uptoBulk]
  | iface t d => simp [Rows.uptoBulk]
  | map entries => simp [Rows.uptoBulk]
  | held h => simp [Rows.uptoBulk]
theorem part_le {d : DataW H} {l : List (DataW H)} (h : d ∈ l) : Rows.uptoBulk d ≤ Rows.uptoBulkAll l := by
  induction l with
  | nil => cases h
  | cons x r ih =>
    simp only [Rows.uptoBulkAll]
    cases List.mem_cons.1 h with
    | inl e => subst e; omega
    | inr e => have := ih e; omega
theorem length_le (l : List (DataW H)) : l.length ≤ Rows.uptoBulkAll l := by
  induction l with
  | nil => simp [Rows.uptoBulkAll]
  | cons x r ih => have := one_le x; simp only [Rows.uptoBulkAll, List.length_cons]; omega
theorem bulk_sl {enc : TypeId × Value → H} {P : Program} {w : World} {base : Nat} {sp : Nat → Bool} {held : Bool} {fuel : Nat} {t e : TypeId} {A : Option Addr} {n c : Nat} {d : DataW H} {ps : List MemPlace} (ht : P.underlying t = some (.slice e))
    (h : DataW.trod enc P w base sp held fuel t [.slice A n c] = some (d, ps)) : n ≤ Rows.uptoBulk d := by
  cases fuel with
  | zero => cases h
  | succ fuel =>
    cases A with
    | none =>
      rcases Nat.eq_zero_or_pos n with h0 | h0
      · omega
      · exfalso
        obtain ⟨m, rfl⟩ : ∃ m, n = m + 1 := ⟨n - 1, by omega⟩
        simp [DataW.trod, ht] at h
    | some a =>
      simp only [DataW.trod, ht] at h
      split at h
      · obtain ⟨elems, he, h⟩ := Option.bind_eq_some_iff.1 h
        obtain ⟨rest, _, h⟩ := Option.map_eq_some_iff.1 h
        have hl := Lib.mapM_length he
        rw [List.length_range] at hl
        injection h with h1 _
        subst h1
        have h2 := length_le (elems.map (·.1))
        rw [List.length_map] at h2
        simp only [Rows.uptoBulk]
        omega
      · cases h
theorem bulk_int {enc : TypeId × Value → H} {w : World} {base : Nat} {sp : Nat → Bool} {held : Bool} {fuel : Nat} {ng : Value} {A : Option Addr} {n c : Nat} {d : DataW H} {ps : List MemPlace}
    (h : DataW.trod enc Tryz.prog w base sp held fuel 24 [ng, .slice A n c] = some (d, ps)) : n ≤ Rows.uptoBulk d := by
  cases fuel with
  | zero => cases h
  | succ fuel =>
    simp only [DataW.trod, Tryz.underlying24] at h
    split at h
    · obtain ⟨xs, hxs, e⟩ := Option.map_eq_some_iff.1 h
      obtain ⟨b, hb, hf⟩ := Lib.mapM_at hxs 1 _ rfl
      have hc : Tryz.prog.cellsOf 22 = 1 := by kernel_rfl
      obtain ⟨b1, b2⟩ := b
      simp only [hc, List.drop_succ_cons, List.drop_zero, List.take_succ_cons, List.take_zero] at hf
      have h1 := bulk_sl Tryz.underlying22 hf
      injection e with e _
      subst e
      have h2 : Rows.uptoBulk b1 ≤ Rows.uptoBulkAll (xs.map (·.1)) := part_le (List.mem_map.2 ⟨(b1, b2), List.mem_of_getElem? hb, rfl⟩)
      simp only [Rows.uptoBulk]
      omega
    · cases h
theorem bulk_bound {l : List (DataW H)} (hk : Rows.uptoSmall H l = true) : Rows.uptoBulkAll l ≤ 1048576 := of_decide_eq_true hk
end
end Go.Proofs.YtkaajgcjdgjcbaaGreatDoor.Row
