/- Texts of one layer, joined: Td, Bu, Tx, Tw, Qf, Qg, Qh, Qi, Tb, Tz, Ty, Ts, Tp, Tr, Uo. -/
import Derived.Lib.ItoaNum
import Derived.Lib.ItoaMem
import Derived.Lib.ParseIntB
import Derived.Test.YtkanddmihmdagaaGreatDoorGA
import Derived.Lib.AppendIntMem
import Derived.Test.YtkanddmihmdagaaGreatDoorGB
import Derived.Test.YtkanddmihmdagaaGreatDoorGD
import Derived.Test.YtkanddmihmdagaaGreatDoorGE
import Derived.Shelf.Strings.SlTrimAscii
import Derived.Lib.SmallJoins
set_option linter.unusedVariables false
set_option linter.unusedSimpArgs false
set_option linter.unusedSectionVars false
/- Decimal digits as bytes: rows of k digits, stripped of noughts ahead, and the number of a row of digits: no program in sight. -/
namespace Go.Proofs.YtkanddmihmdagaaGreatDoor.Td
open Go.Lib

/-- the byte of a digit -/
def db (d : Nat) : UInt8 := UInt8.ofNat (48 + d)
theorem db_nat {d : Nat} (h : d < 10) : (db d).toNat = 48 + d := by
  unfold db
  rw [UInt8.toNat_ofNat', Nat.mod_eq_of_lt (by omega)]
theorem db_zero : db 0 = 48 := rfl
theorem db_ne {d : Nat} (h : d < 10) (h0 : d ≠ 0) : (db d == 48) = false := by
  rw [beq_eq_false_iff_ne]
  intro e
  have := congrArg UInt8.toNat e
  rw [db_nat h] at this
  simp at this
  omega
/-- the last k digits of m, the highest ahead -/
def dd : Nat → Nat → List UInt8
  | 0, _ => []
  | k + 1, m => dd k (m / 10) ++ [db (m % 10)]
theorem dd_len : ∀ k m, (dd k m).length = k
  | 0, _ => rfl
  | k + 1, m => by simp [dd, dd_len k]
theorem dd_add (j : Nat) : ∀ k m, dd (j + k) m = dd j (m / 10 ^ k) ++ dd k m
  | 0, m => by simp [dd]
  | k + 1, m => by
    show dd (j + k) (m / 10) ++ _ = _ ++ (dd k (m / 10) ++ _)
    rw [dd_add j k (m / 10), List.append_assoc, Nat.div_div_eq_div_mul, Nat.pow_succ, Nat.mul_comm 10]
theorem dd_zero : ∀ k, dd k 0 = List.replicate k 48
  | 0 => rfl
  | k + 1 => by
    show dd k (0 / 10) ++ [db (0 % 10)] = _
    rw [Nat.zero_div, dd_zero k, List.replicate_succ']
    rfl
theorem dd_mod : ∀ k m, dd k (m % 10 ^ k) = dd k m
  | 0, _ => rfl
  | k + 1, m => by
    show dd k (m % 10 ^ (k + 1) / 10) ++ [db (m % 10 ^ (k + 1) % 10)] = dd k (m / 10) ++ [db (m % 10)]
    have h1 : m % 10 ^ (k + 1) / 10 = (m / 10) % 10 ^ k := by
      rw [Nat.pow_succ, Nat.mul_comm]
      exact Nat.mod_mul_right_div_self m 10 (10 ^ k)
    have h2 : m % 10 ^ (k + 1) % 10 = m % 10 := by
      rw [Nat.pow_succ]
      exact Nat.mod_mul_left_mod m (10 ^ k) 10
    rw [h1, h2, dd_mod k]
theorem dec_small {u : Nat} (h : u < 10) : decDigits u = [db u] := by rw [decDigits, dif_pos h]; rfl
theorem dec_big {u : Nat} (h : ¬ u < 10) : decDigits u = decDigits (u / 10) ++ [db (u % 10)] := by rw [decDigits, dif_neg h]; rfl
theorem dec_len_pos (u : Nat) : 0 < (decDigits u).length := by
  by_cases h : u < 10
  · rw [dec_small h]; simp
  · rw [dec_big h]; simp
/-- a numeral of at most k digits, noughts ahead -/
theorem pad_dd : ∀ k m, m < 10 ^ k → 0 < k → (decDigits m).length ≤ k ∧ List.replicate (k - (decDigits m).length) 48 ++ decDigits m = dd k m
  | 0, _, _, h => absurd h (by omega)
  | k + 1, m, h, _ => by
    by_cases h10 : m < 10
    · rw [dec_small h10]
      refine ⟨by simp, ?_⟩
      show _ = dd k (m / 10) ++ [db (m % 10)]
      rw [Nat.div_eq_of_lt h10, Nat.mod_eq_of_lt h10, dd_zero]
      simp
    · have hk : 0 < k := by
        rcases Nat.eq_zero_or_pos k with z | z
        · subst z; simp at h; omega
        · exact z
      obtain ⟨h1, h2⟩ := pad_dd k (m / 10) (by rw [Nat.pow_succ] at h; omega) hk
      rw [dec_big h10]
      refine ⟨by simp; omega, ?_⟩
      show _ = dd k (m / 10) ++ [db (m % 10)]
      rw [← h2, List.length_append, List.length_singleton, ← List.append_assoc, Nat.add_sub_add_right]
theorem dec_head : ∀ u, u ≠ 0 → ∃ c r, decDigits u = c :: r ∧ (c == 48) = false := by
  intro u
  induction u using Nat.strongRecOn with
  | _ u ih =>
    intro h0
    by_cases h : u < 10
    · exact ⟨db u, [], dec_small h, db_ne h h0⟩
    · obtain ⟨c, r, e, hc⟩ := ih (u / 10) (by omega) (by omega)
      exact ⟨c, r ++ [db (u % 10)], by rw [dec_big h, e]; rfl, hc⟩
theorem drop_noughts (j : Nat) (l : List UInt8) : (List.replicate j 48 ++ l).dropWhile (· == 48) = l.dropWhile (· == 48) := by
  induction j with
  | zero => rfl
  | succ j ih => rw [List.replicate_succ, List.cons_append, List.dropWhile_cons_of_pos (by rfl), ih]
/-- a row of digits without the noughts ahead -/
theorem strip_dd {k m : Nat} (h : m < 10 ^ k) : (dd k m).dropWhile (· == 48) = if m = 0 then [] else decDigits m := by
  by_cases h0 : m = 0
  · subst h0
    have := drop_noughts k []
    rw [List.append_nil] at this
    rw [dd_zero, this, if_pos rfl]
    rfl
  · have hk : 0 < k := by
      rcases Nat.eq_zero_or_pos k with z | z
      · subst z; simp at h; omega
      · exact z
    obtain ⟨c, r, e, hc⟩ := dec_head m h0
    rw [← (pad_dd k m h hk).2, drop_noughts, if_neg h0, e, List.dropWhile_cons_of_neg (by simp [hc])]
/-- is it a digit? -/
def isDig (b : UInt8) : Prop := 48 ≤ b.toNat ∧ b.toNat ≤ 57
instance (b : UInt8) : Decidable (isDig b) := by unfold isDig; infer_instance
/-- one digit behind others -/
def stp (a : Nat) (c : UInt8) : Nat := a * 10 + (c.toNat - 48)
/-- the number of a row of digits behind others -/
def nv (acc : Nat) (l : List UInt8) : Nat := l.foldl stp acc
theorem nv_cons (acc : Nat) (c : UInt8) (r : List UInt8) : nv acc (c :: r) = nv (acc * 10 + (c.toNat - 48)) r := by
  unfold nv
  rw [List.foldl_cons, stp]
theorem nv_nil (acc : Nat) : nv acc [] = acc := rfl
theorem nv_append (acc : Nat) (l l' : List UInt8) : nv acc (l ++ l') = nv (nv acc l) l' := by
  induction l generalizing acc with
  | nil => rfl
  | cons c r ih => rw [List.cons_append, nv_cons, nv_cons, ih]
theorem nv_acc (acc : Nat) (l : List UInt8) : nv acc l = acc * 10 ^ l.length + nv 0 l := by
  induction l generalizing acc with
  | nil => rw [nv_nil, nv_nil, List.length_nil, Nat.pow_zero, Nat.mul_one, Nat.add_zero]
  | cons c r ih =>
    rw [nv_cons, nv_cons, ih, ih (0 * 10 + (c.toNat - 48)), List.length_cons, Nat.pow_succ, Nat.zero_mul, Nat.zero_add, Nat.add_mul, Nat.mul_assoc, Nat.mul_comm 10, Nat.add_assoc]
theorem nv_lt {l : List UInt8} (h : ∀ b ∈ l, isDig b) : nv 0 l < 10 ^ l.length := by
  induction l with
  | nil => rw [nv_nil]; exact Nat.pow_pos (by omega)
  | cons c r ih =>
    have hc := h c (by simp)
    have := ih (fun b hb => h b (by simp [hb]))
    rw [nv_cons, nv_acc, Nat.zero_mul, Nat.zero_add, List.length_cons, Nat.pow_succ]
    unfold isDig at hc
    have : (c.toNat - 48) * 10 ^ r.length ≤ 9 * 10 ^ r.length := Nat.mul_le_mul_right _ (by omega)
    omega
theorem parse_ok {M : Nat} (hM : 1000000000000000000 ≤ M) {l : List UInt8} (h : ∀ b ∈ l, isDig b) (acc : Nat) (ha : nv acc l < 1000000000000000000) : parseUintM M acc l = .ok (nv acc l) := by
  induction l generalizing acc with
  | nil => rfl
  | cons c r ih =>
    have hc := h c (by simp)
    have ha' : nv (acc * 10 + (c.toNat - 48)) r < 1000000000000000000 := by rw [← nv_cons]; exact ha
    have hle : acc * 10 + (c.toNat - 48) ≤ nv (acc * 10 + (c.toNat - 48)) r := by
      rw [nv_acc]
      have : (acc * 10 + (c.toNat - 48)) * 1 ≤ (acc * 10 + (c.toNat - 48)) * 10 ^ r.length := Nat.mul_le_mul_left _ (Nat.pow_pos (by omega))
      omega
    unfold isDig at hc
    unfold parseUintM
    rw [if_pos hc, if_neg (by omega), if_neg (by omega), nv_cons]
    exact ih (fun b hb => h b (by simp [hb])) _ ha'
theorem parse_dig {l : List UInt8} (h : ∀ b ∈ l, isDig b) (h0 : l ≠ []) (hl : l.length ≤ 18) : parseUintB 64 l = .ok (nv 0 l) := by
  unfold parseUintB
  rw [if_neg h0]
  exact parse_ok (by decide) h 0 (Nat.lt_of_lt_of_le (nv_lt h) (Nat.le_trans (Nat.pow_le_pow_right (by omega) hl) (by decide)))
theorem db_isDig {d : Nat} (h : d < 10) : isDig (db d) := by
  unfold isDig
  rw [db_nat h]
  omega
theorem dec_isDig (u : Nat) : ∀ b ∈ decDigits u, isDig b := by
  induction u using Nat.strongRecOn with
  | _ u ih =>
    intro b hb
    by_cases h : u < 10
    · rw [dec_small h, List.mem_singleton] at hb; subst hb; exact db_isDig h
    · rw [dec_big h, List.mem_append, List.mem_singleton] at hb
      rcases hb with hb | rfl
      · exact ih _ (by omega) b hb
      · exact db_isDig (by omega)
/-- digits there and back -/
theorem nv_dec (u : Nat) : nv 0 (decDigits u) = u := by
  induction u using Nat.strongRecOn with
  | _ u ih =>
    by_cases h : u < 10
    · rw [dec_small h]
      rw [nv_cons, nv_nil]
      rw [db_nat h]; omega
    · rw [dec_big h, nv_append, ih _ (by omega)]
      rw [nv_cons, nv_nil]
      rw [db_nat (by omega)]; omega
theorem isDig_db {b : UInt8} (h : isDig b) : db (b.toNat - 48) = b := by
  unfold isDig at h
  unfold db
  rw [show 48 + (b.toNat - 48) = b.toNat by omega]
  exact UInt8.ofNat_toNat
/-- back and there: digits without a nought ahead -/
theorem dec_nv {l : List UInt8} (h : ∀ b ∈ l, isDig b) (h1 : ∃ c r, l = c :: r ∧ (c ≠ 48 ∨ r = [])) : decDigits (nv 0 l) = l := by
  obtain ⟨c, r, rfl, hc⟩ := h1
  have hcd := h c (by simp)
  have key : ∀ (r' : List UInt8) (a : Nat), 0 < a → (∀ b ∈ r', isDig b) → decDigits (nv a r') = decDigits a ++ r' := by
    intro r'
    induction r' with
    | nil => intro a _ _; rw [nv_nil, List.append_nil]
    | cons d r' ih =>
      intro a ha hd
      have hdd := hd d (by simp)
      have hd2 := hdd
      unfold isDig at hd2
      rw [nv_cons, ih _ (by omega) (fun b hb => hd b (by simp [hb])), dec_big (by omega), show (a * 10 + (d.toNat - 48)) / 10 = a by omega, show (a * 10 + (d.toNat - 48)) % 10 = d.toNat - 48 by omega, isDig_db hdd, List.append_assoc]
      rfl
  have hc2 := hcd
  unfold isDig at hc2
  rw [nv_cons]
  rcases hc with hc | rfl
  · have : c.toNat ≠ 48 := fun e => hc (by rw [← UInt8.ofNat_toNat (x := c), e]; rfl)
    rw [key r _ (by omega) (fun b hb => h b (by simp [hb])), dec_small (by omega), show 0 * 10 + (c.toNat - 48) = c.toNat - 48 by omega, isDig_db hcd]
    rfl
  · rw [nv_nil, dec_small (by omega), show 0 * 10 + (c.toNat - 48) = c.toNat - 48 by omega, isDig_db hcd]
end Go.Proofs.YtkanddmihmdagaaGreatDoor.Td

/- A strings.Builder of the call's own: copyCheck, WriteString; strconv.FormatUint at base 10. -/
namespace Go.Proofs.YtkanddmihmdagaaGreatDoor.Bu
open Go.RowKit Go.Lib Go.Sort

theorem sizeB : (Tryz.prog.info? 110).map (·.size) = some 2 := by kernel_rfl
theorem liesB : liesAt Tryz.prog Tryz.prog.depth 110 (2 / Tryz.prog.cellsOf 110) 0 110 1 = true := by kernel_rfl
theorem infoB : (Tryz.prog.info? 5).map (fun i => (i.zero, i.size, i.bytes)) = some (some (.int .u8 0), 1, 1) := by kernel_rfl
set_option maxHeartbeats 1000000 in
set_option maxRecDepth 100000 in
theorem copyCheck_fresh (b : Nat) (w : World) (h0 : w.cell? ⟨b, 0, none⟩ = some (.pointer none)) (hsh : w.shape? b = some (110, 2)) (hfz : w.frozen? ⟨b, 0, none⟩ = false) :
    Calls Tryz.prog 128 #[.pointer (some ⟨b, 0, none⟩)] w fun e w' => e = .returned (.tuple #[]) ∧ w' = w.setCell ⟨b, 0, none⟩ (.pointer (some ⟨b, 0, none⟩)) := by
  obtain ⟨j, hj, hjs⟩ := Option.map_eq_some_iff.1 sizeB
  go_enter Tryz.func128, Tryz.ntmps128
  go_wp2
  rw [Lib.run_to_unsafe w ⟨b, 0, none⟩ Tryz.underlying108 Tryz.underlying167 hj (by rw [hjs]; decide) hsh (Nat.zero_lt_succ 1)]
  simp only [Result.andThen]
  rw [Oper.upon_value]
  go_wp2
  rw [run_callFunc_extern Tryz.func155 (by kernel_rfl) (by kernel_rfl) (by kernel_rfl) (e := Extern.AbiNoEscape.same) (by kernel_rfl)]
  rw [Lib.run_noEscape]
  simp only [Result.andThen]
  rw [Oper.upon_value]
  go_wp2
  rw [Lib.run_from_unsafe w ⟨b, 0, none⟩ Tryz.underlying167 Tryz.underlying108 hj hsh liesB]
  simp only [Result.andThen]
  rw [Oper.upon_value]
  go_wp2
  go_end0
  exact ⟨rfl, rfl⟩
set_option maxHeartbeats 1000000 in
set_option maxRecDepth 100000 in
theorem copyCheck_used (b : Nat) (w : World) (h0 : w.cell? ⟨b, 0, none⟩ = some (.pointer (some ⟨b, 0, none⟩))) :
    Calls Tryz.prog 128 #[.pointer (some ⟨b, 0, none⟩)] w fun e w' => e = .returned (.tuple #[]) ∧ w' = w := by
  obtain ⟨j, hj, _⟩ := Option.map_eq_some_iff.1 sizeB
  go_enter Tryz.func128, Tryz.ntmps128
  go_wp2
  rw [Lib.run_neq_ptr_same w _ Tryz.underlying108 hj]
  go_wp2
  go_end0
  exact ⟨rfl, rfl⟩
theorem copyCheck_calls (B b : Nat) (bs : List Value) (w : World) (h : Lib.IsBuilderF 110 5 B b bs w) :
    Calls Tryz.prog 128 #[.pointer (some ⟨b, 0, none⟩)] w fun e w' => e = .returned (.tuple #[]) ∧ (Lib.BuilderAtF 110 5 B b (.pointer (some ⟨b, 0, none⟩)) bs w' ∧ Below B w w') := by
  rcases h with h | h
  · refine (copyCheck_fresh b w h.cell0 h.shape h.frozen0).mono ?_
    rintro e w' ⟨rfl, rfl⟩
    exact ⟨rfl, h.used _, (Below.refl B w).setCell (p := ⟨b, 0, none⟩) h.1 _⟩
  · refine (copyCheck_used b w h.cell0).mono ?_
    rintro e w' ⟨rfl, rfl⟩
    exact ⟨rfl, h, Below.refl B _⟩
set_option maxHeartbeats 1000000 in
set_option maxRecDepth 100000 in
/-- s's bytes are written behind what was written before -/
theorem writeString_calls (B b : Nat) (bs : List Value) (s : ByteArray) (w : World) (h : Lib.IsBuilderF 110 5 B b bs w) (hlen : bs.length + s.size ≤ 140737488355328) (hBw : B ≤ w.heap.size) :
    Calls Tryz.prog 86 #[.pointer (some ⟨b, 0, none⟩), .string s] w fun e w' => e = .returned (.tuple #[.int .i64 s.size, .nilIface]) ∧ (Lib.BuilderAtF 110 5 B b (.pointer (some ⟨b, 0, none⟩)) (bs ++ Lib.strCells s) w' ∧ Below B w w') := by
  obtain ⟨i0, hi, hz0, hz1, hz2⟩ := info_parts infoB
  go_enter Tryz.func86, Tryz.ntmps86
  go_wp2_with (go_at_call 128; refine (copyCheck_calls B b bs _ h).mono ?_)
  rintro e w1 ⟨rfl, h1, hb1⟩
  obtain ⟨hB, v, hbk, hown, hne⟩ := h1
  have c0 : w1.cell? ⟨b, 0, none⟩ = some (.pointer (some ⟨b, 0, none⟩)) := by rw [Lib.cell_of_heap hbk]; rfl
  have c1 : w1.cell? ⟨b, 1, none⟩ = some v := by rw [Lib.cell_of_heap hbk]; rfl
  go_wp2_with (at_builtin; refine Lib.wpList_append_own_stringF _ rfl _ _ 49 9 rfl B 5 i0 Tryz.underlying49 Tryz.underlying9 hi hz0 hz1 hz2 _ _ _ rfl hown s rfl ?c3 ?c4 ?c5 ?_)
  case c3 => unfold maxLen; omega
  case c4 => omega
  case c5 => have := hb1.size; omega
  intro v' w2 hown' hgrow _
  have hlt : b < w1.heap.size := by
    rcases Nat.lt_or_ge b w1.heap.size with h' | h'
    · exact h'
    · simp [Array.getElem?_eq_none h'] at hbk
  have hb2 : w2.heap[b]? = some (.cells #[.pointer (some ⟨b, 0, none⟩), v] 110 (0, 0)) := by
    rw [hgrow.block b hlt (fun e => hne e.symm)]
    exact hbk
  have d0 : w2.cell? ⟨b, 0, none⟩ = some (.pointer (some ⟨b, 0, none⟩)) := by rw [Lib.cell_of_heap hb2]; rfl
  have d1 : w2.cell? ⟨b, 1, none⟩ = some v := by rw [Lib.cell_of_heap hb2]; rfl
  have f1 : w2.frozen? ⟨b, 1, none⟩ = false := Lib.frozen_of_heap hb2 1
  obtain ⟨ao, n', cap, rfl⟩ : ∃ ao n' cap, v' = .slice ao n' cap := by
    rcases hown'.2 with ⟨hv, _⟩ | ⟨g, cap, cur, fz, hv, _⟩
    · exact ⟨_, _, _, hv⟩
    · exact ⟨_, _, _, hv⟩
  go_wp2
  go_ret2
  refine ⟨rfl, ?_, ?_⟩
  · exact Lib.BuilderAtF.put (T := 110) (e := 5) hB hb2 (bs' := bs ++ Lib.strCells s) (by simpa [Lib.strCells_length] using hown') (by decide)
  · exact (hb1.grown hgrow (by have := hb1.size; omega) (fun k hk => (hown.lt k hk).1)).setCell (p := ⟨b, 1, none⟩) hB _

/-- the table of powers of ten -/
def Pow (w : World) : Prop := Lib.TabIs Tryz.prog w "internal/strconv.uint64pow10" .u64 Lib.pow10Tab
theorem Pow.below {w w' : World} (h : Pow w) (hb : Below w.heap.size w w') : Pow w' := by
  unfold Pow Lib.TabIs World.var? at h ⊢
  cases hg : Tryz.prog.globalNamed "internal/strconv.uint64pow10" with
  | none => rw [hg] at h; cases h
  | some g =>
    rw [hg] at h
    simp only [Option.bind_some] at h ⊢
    have hlt : g < w.heap.size := by
      rcases Nat.lt_or_ge g w.heap.size with h' | h'
      · exact h'
      · rw [Array.getElem?_eq_none h'] at h; cases h
    rw [hb.block g hlt]
    exact h
set_option maxHeartbeats 2000000 in
set_option maxRecDepth 100000 in
theorem formatUint_in (u : Nat) (hu64 : u < 18446744073709551616) (w : World) (htab : Pow w) :
    Calls Tryz.prog 124 #[.int .u64 u, .int .i64 10] w fun e w' => e = .returned (.string ⟨(Lib.decDigits u).toArray⟩) ∧ Below w.heap.size w w' := by
  by_cases hs : u < 100
  · go_enter Tryz.func124, Tryz.ntmps124
    go_wp2_with (go_at_call 145; refine (Tryz.internal_strconv_small u hs _).mono ?_; rintro e w' ⟨rfl, rfl⟩)
    go_ret
    exact ⟨rfl, Below.refl _ _⟩
  · have hu1 : 1 ≤ u := by omega
    have hnd20 : Lib.nDigits u ≤ 20 := by have := Lib.numDigits_eq u hu1 hu64; split at this <;> omega
    have hal : Tryz.prog.arrayLen 158 = 24 := by simp [Program.arrayLen, Tryz.underlying158]
    have hsl1 : ∀ W, (Instr.sliceAt 158 (.pointer (some ⟨w.heap.size, 0, none⟩)) none (some (.int .i64 (Lib.nDigits u : Int))) none).run Tryz.prog W = .ok (.slice (some ⟨w.heap.size, 0, none⟩) (Lib.nDigits u) 24) W := fun W => by
      rw [run_sliceAt_array_h W 158 ⟨w.heap.size, 0, none⟩ (by simp [Program.arrayLen, Program.elem, Tryz.underlying158]) .i64 (Lib.nDigits u : Int) (by omega) (by rw [hal]; omega)]
      go_simp
    have hH0 := Lib.holds_zero0 w 158 (Lib.nDigits u) (by omega)
    have hfmt := Tryz.internal_strconv_formatBase10 w.heap.size 0 24 u (Array.replicate (Lib.nDigits u) 0) (w.alloc (.cells Lib.zeros24 158)) hH0 (by rw [Array.size_replicate]; exact Lib.lt_pow_nDigits u) hu64 (by rw [Array.size_replicate]; omega)
    rw [Array.size_replicate] at hfmt
    have HH0 := Lib.hid hH0
    clear hH0 hal
    go_enter Tryz.func124, Tryz.ntmps124
    go_wp2_with (first
      | (go_at_call 146; refine (Tryz.internal_strconv_numDigits u hu1 hu64 _ (Lib.tabIs_alloc htab _)).mono ?_; rintro e w' ⟨rfl, rfl⟩))
    go_at_call 147
    refine hfmt.mono ?_
    rintro e w' ⟨rfl, k, v', dk, rfl, hF⟩
    have hcv : (convert 49 9 (.slice (some ⟨w.heap.size, 0, none⟩) (Lib.nDigits u) 24)).run Tryz.prog ((putRow (fun (b : UInt8) => Value.int .u8 (b.toNat : Int)) (w.alloc (.cells Lib.zeros24 158)) w.heap.size 0 dk).drewN k) =
        .ok (.string ⟨(Lib.decDigits u).toArray⟩) ((putRow (fun (b : UInt8) => Value.int .u8 (b.toNat : Int)) (w.alloc (.cells Lib.zeros24 158)) w.heap.size 0 dk).drewN k) := by
      have h := run_convert_bytes_back (P := Tryz.prog) ((putRow (fun (b : UInt8) => Value.int .u8 (b.toNat : Int)) (w.alloc (.cells Lib.zeros24 158)) w.heap.size 0 dk).drewN k) 49 9 5 ⟨w.heap.size, 0, none⟩ 24 (Lib.decDigits u) Tryz.underlying49 Tryz.underlying5 Tryz.underlying9 (fun j hj => by
        rw [Lib.row_is_numeral hF j hj, Lib.add_plain, World.cell?_drewN]
        exact cell?_putRow (fun (b : UInt8) => Value.int .u8 (b.toNat : Int)) _ w.heap.size 0 _ dk HH0.out (by rw [hF.size, Array.size_replicate]) j (by rw [hF.size]; rw [Lib.decDigits_length] at hj; exact hj))
      rw [Lib.decDigits_length] at h
      exact h
    go_wp2
    go_ret
    obtain ⟨os, eo⟩ := Lib.fin_at w (.cells Lib.zeros24 158) dk k 0
    refine ⟨rfl, ?_⟩
    rw [eo]
    exact Lib.below_grow _ w (Nat.le_refl _) k os
theorem formatUint_calls (u : Nat) (hu64 : u < 18446744073709551616) (w : World) (htab : Pow w) :
    Calls Tryz.prog 84 #[.int .u64 u, .int .i64 10] w fun e w' => e = .returned (.string ⟨(Lib.decDigits u).toArray⟩) ∧ Below w.heap.size w w' := by
  go_enter Tryz.func84, Tryz.ntmps84
  go_wp2_with (go_at_call 124; refine (formatUint_in u hu64 _ htab).mono ?_; rintro e w1 ⟨rfl, hb⟩)
  go_ret
  exact ⟨rfl, hb⟩
end Go.Proofs.YtkanddmihmdagaaGreatDoor.Bu

/- Layer 2, on: rows of strings of the call's own; the pieces of Text. -/
namespace Go.Proofs.YtkanddmihmdagaaGreatDoor.Tx
open Go.RowKit Go.Proofs.YtkanddmihmdagaaGreatDoor.Dig Go.Proofs.YtkanddmihmdagaaGreatDoor.W Go.Proofs.YtkanddmihmdagaaGreatDoor.Nat Go.Proofs.YtkanddmihmdagaaGreatDoor.Wh Go.Proofs.YtkanddmihmdagaaGreatDoor.Td Go.Proofs.YtkanddmihmdagaaGreatDoor.Bu

def strs (Ps : List (List UInt8)) : List Value := Ps.map fun p => .string ⟨p.toArray⟩
theorem strs_length (Ps : List (List UInt8)) : (strs Ps).length = Ps.length := by simp [strs]
theorem strs_append (a b : List (List UInt8)) : strs (a ++ b) = strs a ++ strs b := by simp [strs]
/-- a row of strings of the call's own -/
def Os (w : World) (base : Nat) (v : Value) (Ps : List (List UInt8)) : Prop := w.ownsRow base 9 1 v Ps.length (strs Ps)
theorem Os.nil (w : World) (base : Nat) : Os w base (.slice none 0 0) [] := ⟨by simp [strs], .inl ⟨rfl, rfl⟩⟩
theorem Os.below {w w' : World} {base : Nat} {v : Value} {Ps : List (List UInt8)} (h : Os w base v Ps) (hb : Below w.heap.size w w') : Os w' base v Ps :=
  World.ownsRow.kept h ⟨hb.os, hb.tape, hb.output, hb.size, fun i hi _ => hb.block i hi⟩ (by cases v.ownBlock <;> simp : v.ownBlock = none ∨ v.ownBlock ≠ none)
theorem Os.reads {w : World} {base : Nat} {v : Value} {Ps : List (List UInt8)} (h : Os w base v Ps) : ∃ A n c, v = .slice A n c ∧ n = Ps.length ∧ Sl w 1 A n c (strs Ps) := by
  rcases h.2 with ⟨rfl, h0⟩ | ⟨g, cap, cur, rfl, hb, hh, h1, h2, h3, h4⟩
  · refine ⟨none, 0, 0, rfl, h0.symm, by rw [List.length_eq_zero_iff.1 h0]; rfl, Nat.le_refl _, by omega, fun h => absurd h (by omega)⟩
  · refine ⟨_, _, cap, rfl, rfl, ⟨by rw [strs_length]; omega, h1, h2, fun _ => ⟨g, 0, rfl, fun j u hu => ?_⟩⟩⟩
    have := World.ownsRow.cells h (g := g) rfl j u hu
    rwa [add_at] at this
theorem Os.grown {w : World} {base : Nat} {v : Value} {Ps : List (List UInt8)} (h : Os w base v Ps) : ∀ k, v.ownBlock = some k → base ≤ k := by
  intro k hk
  rcases h.2 with ⟨rfl, _⟩ | ⟨g, cap, cur, rfl, hb, _⟩
  · cases hk
  · cases hk; exact hb
theorem Os.lt {w : World} {base : Nat} {v : Value} {Ps : List (List UInt8)} (h : Os w base v Ps) : ∀ k, v.ownBlock = some k → k < w.heap.size := by
  intro k hk
  rcases h.2 with ⟨rfl, _⟩ | ⟨g, cap, cur, rfl, hb, hh, _⟩
  · cases hk
  · cases hk
    exact (Array.getElem?_eq_some_iff.1 hh).1
theorem lit_str' (w : World) (p : List UInt8) (t : TypeId) (S : ByteArray) (hS : S = ⟨p.toArray⟩) : Sl (w.alloc (.cells #[.string S] t)) 1 (some ⟨w.heap.size, 0, none⟩) 1 1 (strs [p]) :=
  ⟨rfl, Nat.le_refl _, by omega, fun _ => ⟨w.heap.size, 0, rfl, fun j u hu => by
    rw [World.cell?, show (w.alloc (.cells #[.string S] t)).heap[w.heap.size]? = _ from heap_alloc_new w _, hS]
    simpa [strs] using hu⟩⟩
theorem infoS : (Tryz.prog.info? 9).map (fun i => (i.zero, i.size, i.bytes)) = some (some (.string ⟨#[]⟩), 1, 16) := by kernel_rfl
/-- one string more -/
theorem step_append_str {ops : Array Oper} {rest : List Oper} {o : Oper} {a : Act} {Q : Exit → Act → World → Prop} (w : World) (hgd : o.guard = none) (s x : Operand)
    (ho : o.op = .call { callee := .builtin .append, args := #[s, x], argTypes := #[99, 99] })
    (base : Nat) (v : Value) (Ps : List (List UInt8)) (hs : a.eval s = v) (hown : Os w base v Ps)
    (A : Option Addr) (m c : Nat) (p : List UInt8) (hx : a.eval x = .slice A m c) (hm : m = 1) (hr : Sl w 1 A 1 c (strs [p]))
    (hbytes : (Ps.length + 1) * 16 ≤ 140737488355328) (hbase : base ≤ w.heap.size)
    (h : ∀ v' w', Os w' base v' (Ps ++ [p]) → w.grownBy w' v.ownBlock → wpList Tryz.prog ops Q rest (a.put o.dst v') w') : wpList Tryz.prog ops Q (o :: rest) a w := by
  obtain ⟨i0, hi0, hz0, hz1, hz2⟩ := info_parts infoS
  subst hm
  refine wpList_plain hgd fun _ hK => wp_append_sl w s x _ ho base 9 i0 _ 1 16 Tryz.underlying99 hi0 hz0 hz1 hz2 rfl (by omega) v _ _ hs hown A 1 c _ hx hr ?_ ?_ hbytes hbase fun v' w' h2 h3 _ => hK _ _ (h v' w' ?_ h3)
  · intro u hu
    simp only [strs, List.map_cons, List.map_nil, List.mem_singleton] at hu
    subst hu; rfl
  · unfold maxLen; omega
  · unfold Os
    rw [List.length_append, strs_append]
    exact h2
/-- a block's power of ten -/
def K : Nat := 1000000000000000000
theorem K_lt : K < U := by decide
theorem K_pow : K = 10 ^ 18 := by decide
theorem of_block (w : World) : Calls Tryz.prog 82 #[.int .u64 1000000000000000000] w (GivesOwn w 88 .u64 (digs U K)) := of_calls 1000000000000000000 w (by decide)
theorem div_block (A A' : Option Addr) (n c n' c' m : Nat) (L : List Nat) (w : World) (h : SI w .u64 A n c L) (h' : SI w .u64 A' n' c' (digs U K)) (hl : Lt U L) (hm : val U L = m) (hn : n < 1099511627776) :
    Calls Tryz.prog 81 #[.slice A n c, .slice A' n' c'] w (Nat.GivesQR w 88 .u64 (digs U (m / K)) (digs U (m % K))) := by
  have hk : (digs U K).length ≤ 1 := (digs_length_le U_two _ _).2 (by rw [Nat.pow_one]; exact K_lt)
  have e := divmod_calls A A' n c n' c' L (digs U K) w h h' hl (dl K) hn (by rw [← h'.len]; omega) (by rw [val_digs U_two]; decide)
  rw [val_digs U_two, hm] at e
  exact e
theorem uint_d (A : Option Addr) (n c m : Nat) (w : World) (h : SI w .u64 A n c (digs U m)) (hm : m < U) :
    Calls Tryz.prog 83 #[.slice A n c] w fun e w' => e = .returned (.tuple #[.int .u64 (m : Nat), .bool true]) ∧ w = w' := by
  have e := uint_calls A n c (digs U m) w h (dl m)
  rw [val_digs U_two, if_pos hm, decide_eq_true hm] at e
  exact e
/-- a block's digits, as they are told -/
theorem fmt_calls (m : Nat) (hm : m < K) (w : World) (hp : Pow w) :
    Calls Tryz.prog 84 #[.int .u64 (m : Nat), .int .i64 10] w fun e w' => ∃ S : ByteArray, e = .returned (.string S) ∧ S.data.toList = Lib.decDigits m ∧ S.size ≤ 18 ∧ Below w.heap.size w w' := by
  refine (formatUint_calls m (by have := K_lt; unfold U at this; omega) w hp).mono ?_
  rintro e w' ⟨rfl, hb⟩
  refine ⟨_, rfl, by simp, ?_, hb⟩
  have := (pad_dd 18 m (by rw [← K_pow]; exact hm) (by omega)).1
  show (Lib.decDigits m).toArray.size ≤ 18
  rw [List.size_toArray]; exact this
theorem repeatL_one (c : Nat) : Lib.repeatL [48] c = List.replicate c 48 := by
  induction c with
  | zero => rfl
  | succ c ih => rw [Lib.repeatL, ih]; rfl
theorem rep_calls (S : ByteArray) (hS : S.size ≤ 18) (w : World) :
    Calls Tryz.prog 85 #[.string ⟨#[48]⟩, .int .i64 (18 - (S.size : Int))] w fun e w' => e = .returned (.string ⟨(List.replicate (18 - S.size) 48).toArray⟩) ∧ Below w.heap.size w w' := by
  have e := Tryz.strings_Repeat ⟨#[48]⟩ (18 - S.size) w (by omega) (by show 1 * _ ≤ _; omega)
  rw [show ((18 - S.size : Nat) : Int) = 18 - (S.size : Int) by omega] at e
  have e2 : Lib.repeatL (⟨#[48]⟩ : ByteArray).data.toList (18 - S.size) = List.replicate (18 - S.size) 48 := repeatL_one _
  rw [e2] at e
  exact e
/-- the digits of a block, noughts ahead -/
theorem pad_str {S : ByteArray} {m : Nat} (hm : m < K) (h : S.data.toList = Lib.decDigits m) : (⟨Array.replicate (18 - S.size) 48⟩ ++ S : ByteArray) = ⟨(dd 18 m).toArray⟩ := by
  have h1 := (pad_dd 18 m (by rw [← K_pow]; exact hm) (by omega)).2
  rw [← h] at h1
  have h2 : S.size = S.data.toList.length := by rw [Array.length_toList]; rfl
  rw [h2, ← h1]
  apply ByteArray.ext
  simp
/-- where the first loop stands -/
structure TI (M n t m : Nat) (Ps : List (List UInt8)) : Prop where
  val : m = M / 10 ^ (18 * t)
  cat : Ps.reverse.flatten = dd (18 * t) M
  len : Ps.length = t
  le : t ≤ 2 * n + 1
theorem TI.start (M n : Nat) : TI M n 0 M [] := ⟨by simp, rfl, rfl, by omega⟩
theorem TI.less {M n t m : Nat} {Ps : List (List UInt8)} (h : TI M n t m Ps) (hM : M < U ^ n) (h0 : m ≠ 0) : t ≤ 2 * n := by
  rcases Nat.lt_or_ge (2 * n) t with z | z
  · exfalso
    have h1 : 10 ^ (18 * t) ≤ M := by
      rcases Nat.lt_or_ge M (10 ^ (18 * t)) with y | y
      · exact absurd (h.val.trans (Nat.div_eq_of_lt y)) h0
      · exact y
    have h2 : (10 ^ 36) ^ n ≤ 10 ^ (18 * t) := by rw [← Nat.pow_mul]; exact Nat.pow_le_pow_right (by omega) (by omega)
    have h3 : U ^ n ≤ (10 ^ 36) ^ n := Nat.pow_le_pow_left (by decide) n
    omega
  · exact z
theorem TI.round {M n t m : Nat} {Ps : List (List UInt8)} (h : TI M n t m Ps) (hM : M < U ^ n) (h0 : m ≠ 0) : TI M n (t + 1) (m / K) (Ps ++ [dd 18 (m % K)]) := by
  have hl := h.less hM h0
  refine ⟨?_, ?_, by rw [List.length_append, h.len]; rfl, by omega⟩
  · rw [h.val, Nat.div_div_eq_div_mul, K_pow, ← Nat.pow_add]
    congr 2
  · rw [List.reverse_append, List.flatten_append, h.cat, show 18 * (t + 1) = 18 + 18 * t by omega, dd_add, ← h.val, K_pow, dd_mod]
    simp
/-- one piece of a row of the call's own -/
theorem Os.at_ {w : World} {base : Nat} {A : Option Addr} {n c : Nat} {Ps : List (List UInt8)} (h : Os w base (.slice A n c) Ps) {j : Nat} (hj : j < Ps.length) :
    ∃ b o, A = some ⟨b, o, none⟩ ∧ b < w.heap.size ∧ w.cell? ⟨b, o + j, none⟩ = some (.string ⟨(Ps.getD j []).toArray⟩) := by
  have hlt := h.lt
  obtain ⟨A', n', c', e, hn, hsl⟩ := h.reads
  injection e with e1 e2 e3
  subst e1; subst e2; subst e3
  obtain ⟨b, o, rfl, hc⟩ := hsl.get (by omega)
  refine ⟨b, o, rfl, hlt b rfl, hc j _ ?_⟩
  rw [strs, List.getElem?_map, List.getElem?_eq_getElem hj, List.getD_eq_getElem?_getD, List.getElem?_eq_getElem hj]
  rfl
theorem Os.cap_ {w : World} {base : Nat} {A : Option Addr} {n c : Nat} {Ps : List (List UInt8)} (h : Os w base (.slice A n c) Ps) : n ≤ c ∧ c ≤ 9223372036854775807 := by
  obtain ⟨A', n', c', e, hn, hsl⟩ := h.reads
  injection e with e1 e2 e3
  subst e1; subst e2; subst e3
  exact ⟨hsl.le, hsl.cap⟩
/-- the pieces from a place on, the last ahead -/
def back (Ps : List (List UInt8)) (i : Nat) : List UInt8 := (Ps.drop i).reverse.flatten
theorem back_end (Ps : List (List UInt8)) : back Ps Ps.length = [] := by unfold back; rw [List.drop_length]; rfl
theorem back_zero (Ps : List (List UInt8)) : back Ps 0 = Ps.reverse.flatten := rfl
theorem back_step {Ps : List (List UInt8)} {j : Nat} (hj : j < Ps.length) : back Ps j = back Ps (j + 1) ++ Ps.getD j [] := by
  unfold back
  rw [List.drop_eq_getElem_cons hj, List.reverse_cons, List.flatten_append, List.getD_eq_getElem?_getD, List.getElem?_eq_getElem hj]
  simp
theorem back_le (Ps : List (List UInt8)) (j : Nat) : (back Ps j).length ≤ Ps.reverse.flatten.length := by
  have h : Ps.reverse.flatten = back Ps j ++ (Ps.take j).reverse.flatten := by
    unfold back
    rw [← List.flatten_append, ← List.reverse_append, List.take_append_drop]
  rw [h, List.length_append]
  omega
theorem back_cells {Ps : List (List UInt8)} {j : Nat} (hj : j < Ps.length) : Lib.byteCells (back Ps (j + 1)) ++ Lib.strCells ⟨(Ps.getD j []).toArray⟩ = Lib.byteCells (back Ps j) := by
  rw [back_step hj, Lib.byteCells_append]
  rfl
/-- noughts ahead are taken off -/
theorem strip_calls (k M : Nat) (h : M < 10 ^ k) (w : World) :
    Calls Tryz.prog 62 #[.string ⟨(dd k M).toArray⟩, .string ⟨#[48]⟩] w fun e w' => e = .returned (.string ⟨(if M = 0 then [] else Lib.decDigits M).toArray⟩) ∧ w' = w := by
  have e := Tryz.strings_TrimLeft_one ⟨(dd k M).toArray⟩ 48 (by decide) w
  have e2 : Lib.trimLeftB (⟨(dd k M).toArray⟩ : ByteArray).data.toList 48 = if M = 0 then [] else Lib.decDigits M := strip_dd h
  rw [e2] at e
  exact e
end Go.Proofs.YtkanddmihmdagaaGreatDoor.Tx

/- Layer 2, on: Text. -/
namespace Go.Proofs.YtkanddmihmdagaaGreatDoor.Tx
open Go.RowKit Go.Proofs.YtkanddmihmdagaaGreatDoor.Dig Go.Proofs.YtkanddmihmdagaaGreatDoor.W Go.Proofs.YtkanddmihmdagaaGreatDoor.Nat Go.Proofs.YtkanddmihmdagaaGreatDoor.Wh Go.Proofs.YtkanddmihmdagaaGreatDoor.Td Go.Proofs.YtkanddmihmdagaaGreatDoor.Bu

set_option maxHeartbeats 4000000 in
set_option maxRecDepth 100000 in
theorem text_calls (A : Option Addr) (n c : Nat) (l : List Nat) (w : World) (h : SI w .u64 A n c l) (hl : Lt U l) (hn : n ≤ 1000000000000) (hp : Pow w) :
    Calls Tryz.prog 48 #[.slice A n c] w fun e w' => e = .returned (.string ⟨(Lib.decDigits (val U l)).toArray⟩) ∧ Below w.heap.size w w' := by
  have hM : val U l < U ^ n := by rw [← h.len]; exact val_lt U_pos hl
  go_enter Tryz.func48, Tryz.ntmps48
  go_wp2
  go_loopw [0, 3] (fun z p wr => ∃ (t m : Nat) (Ps : List (List UInt8)) (Aa : Option Addr) (na ca : Nat) (L : List Nat) (Ap : Option Addr) (np cp : Nat), z = .slice Aa na ca ∧ p = .slice Ap np cp ∧ np = t ∧ na ≤ 1000000000000 ∧ TI (val U l) n t m Ps ∧ SI wr .u64 Aa na ca L ∧ Lt U L ∧ Hid (val U L = m) ∧ Os wr w.heap.size (.slice Ap np cp) Ps ∧ Below w.heap.size w wr) (fun _ p _ => match p with | .slice _ k _ => 2 * n + 1 - k | _ => 0)
  case atStart => exact ⟨0, val U l, [], _, _, _, l, none, 0, 0, rfl, rfl, rfl, hn, TI.start _ _, h, hl, rfl, Os.nil _ _, Below.refl _ _⟩
  case round =>
    obtain ⟨t, m, Ps, Aa, na, ca, L, Ap, np, cp, rfl, rfl, rfl, hna, hI, hr, hL, HV, hos, hb⟩ := hrel
    by_cases h0 : m = 0
    · subst h0
      have hlt : val U l < 10 ^ (18 * np) := by
        rcases Nat.lt_or_ge (val U l) (10 ^ (18 * np)) with y | y
        · exact y
        · have := Nat.div_pos y (Nat.pow_pos (n := 18 * np) (by omega : 0 < 10))
          have := hI.val
          omega
      have hcat := hI.cat
      have hlen := hI.len
      have hle := hI.le
      have hB := bits_calls Aa na ca L wr hr hL (by omega)
      rw [HV.out, bits_zero] at hB
      have HB := Lib.hid hB
      have HO := Lib.hid hos
      have HC := Lib.hid hcat
      have HW := Lib.hid hb
      clear hB hr hL HV hos hI hp h hl hM hcat hb
      obtain ⟨M, hM⟩ : ∃ M, M = val U l := ⟨_, rfl⟩
      rw [← hM] at hlt HC
      have HM := Lib.hid hM
      clear hM
      go_wp2_with (first
        | (go_at_call 80; (with_reducible refine HB.out.mono ?_); rintro e w1 ⟨rfl, rfl⟩))
      generalize wr = wB at *
      go_loopw [11] (fun z wr => ∃ (i : Nat) (y : Int), z = .int .i64 y ∧ i ≤ np ∧ Hid (y + 1 = i) ∧ Lib.IsBuilderF 110 5 wB.heap.size wB.heap.size (Lib.byteCells (back Ps i)) wr ∧ Below wB.heap.size wB wr) (fun z _ => (intOf z + 1).toNat)
      case atStart => exact ⟨np, (np : Int) - 1, rfl, Nat.le_refl _, by unfold Hid; omega, by rw [← hlen, back_end]; exact .inl ⟨Nat.le_refl _, .slice none 0 0, heap_alloc_new wB _, ⟨rfl, .inl ⟨rfl, rfl⟩⟩, by simp [Value.ownBlock]⟩, alloc_below wB _⟩
      case round =>
        obtain ⟨i, y, rfl, hi, HY, hbu, hbb⟩ := hrel
        cases i with
        | zero =>
          obtain rfl : y = -1 := by have := HY.out; omega
          rw [back_zero, HC.out] at hbu
          have hS := Tryz.Builder_String_any_f wB.heap.size wB.heap.size (dd (18 * np) M) wr hbu hbb.size
          have HS := Lib.hid hS
          have HT := Lib.hid (fun w1 => strip_calls (18 * np) M hlt w1)
          clear hS hbu
          by_cases h0 : M = 0
          · subst h0
            go_wp2_with (first
              | (go_at_call 87; (with_reducible refine HS.out.mono ?_); rintro e w2 ⟨rfl, _, b2⟩)
              | (go_at_call 62; (with_reducible refine (HT.out w2).mono ?_); rintro e w3 ⟨rfl, rfl⟩))
            go_ret
            exact ⟨by rw [← HM.out, dec_small (by omega)]; rfl, HW.out.trans ((hbb.trans b2).mono HW.out.size)⟩
          · have he : (Lib.decDigits M).isEmpty = false := by
              have := dec_len_pos M
              cases hd : Lib.decDigits M with
              | nil => rw [hd] at this; simp at this
              | cons _ _ => rfl
            go_wp2_with (first
              | (go_at_call 87; (with_reducible refine HS.out.mono ?_); rintro e w2 ⟨rfl, _, b2⟩)
              | (go_at_call 62; (with_reducible refine (HT.out w2).mono ?_); rintro e w3 ⟨rfl, rfl⟩))
            go_ret
            exact ⟨by rw [← HM.out]; rfl, HW.out.trans ((hbb.trans b2).mono HW.out.size)⟩
        | succ j =>
          obtain rfl : y = (j : Int) := by have := HY.out; omega
          obtain ⟨b, o, rfl, hblt, hc0⟩ := HO.out.at_ (j := j) (by omega)
          have hc1 := cell_keep hbb hc0
          have hcap := HO.out.cap_
          have hbl := back_le Ps j
          rw [HC.out, dd_len] at hbl
          have hcells := back_cells (Ps := Ps) (j := j) (by omega)
          have hst := back_step (Ps := Ps) (j := j) (by omega)
          generalize Ps.getD j [] = P at *
          have hW := writeString_calls wB.heap.size wB.heap.size _ ⟨P.toArray⟩ wr hbu (by rw [Lib.byteCells_length]; rw [hst, List.length_append] at hbl; show _ + P.toArray.size ≤ _; rw [List.size_toArray]; omega) hbb.size
          rw [hcells] at hW
          have HB2 := Lib.hid hW
          clear hW hcells hst hbl hbu hc0
          go_wp2_with (first
            | (go_at_call 86; (with_reducible refine HB2.out.mono ?_); rintro e w2 ⟨rfl, hb2, b2⟩))
          go_roundw
          case rel => exact ⟨j, (j : Int) - 1, rfl, by omega, by unfold Hid; omega, .inr hb2, hbb.trans b2⟩
          case measure => simp [intOf]
    · have hlt := hI.less hM h0
      have hnew := hI.round hM h0
      have hlen := hI.len
      have hB := bits_calls Aa na ca L wr hr hL (by omega)
      rw [HV.out] at hB
      have hnb : 0 < nbits m := bits_pos h0
      have hmK : m % K < K := Nat.mod_lt _ (by decide)
      have hq : (digs U (m / K)).length ≤ na := by
        have := digs_len_le hL hr.len (Nat.le_refl na)
        rw [HV.out] at this
        exact digs_bound (Nat.div_le_self m K) this
      generalize nbits m = nb at *
      have HB := Lib.hid hB
      have HD := Lib.hid (fun (A3 : Option Addr) (n3 c3 : Nat) (w3 : World) (r3 : SI w3 .u64 A3 n3 c3 (digs U K)) (b3 : Below wr.heap.size wr w3) => div_block Aa A3 na ca n3 c3 m L w3 (hr.below b3) r3 hL HV.out (by omega))
      have HN := Lib.hid hnew
      have HQ := Lib.hid hq
      have HP := Lib.hid (fun (w5 : World) (b5 : Below wr.heap.size wr w5) => (hp.below hb).below b5)
      have HO := Lib.hid hos
      generalize m % K = k at *
      generalize m / K = q at *
      clear hB hnew hq hr hL HV hos hI hp h hl hM
      go_wp2_with (first
        | (go_at_call 80; (with_reducible refine HB.out.mono ?_); rintro e w1 ⟨rfl, rfl⟩)
        | (go_at_call 82; (with_reducible refine (of_block wr).mono ?_); rintro e w3 ⟨v3, rfl, o3, b3⟩; obtain ⟨A3, n3, c3, rfl, r3⟩ := o3.reads_n)
        | (go_at_call 81; (with_reducible refine (HD.out A3 n3 c3 w3 r3 b3).mono ?_); rintro e w4 ⟨v4, v5, rfl, o4, o5, b4⟩; obtain ⟨A4, n4, c4, rfl, r4⟩ := o4.reads_n; obtain ⟨A5, n5, c5, rfl, r5⟩ := o5.reads_n)
        | (go_at_call 83; (with_reducible refine (uint_d A5 n5 c5 k w4 r5 (Nat.lt_trans hmK K_lt)).mono ?_); rintro e w5 ⟨rfl, rfl⟩)
        | (go_at_call 84; (with_reducible refine (fmt_calls k hmK w4 (HP.out w4 (b3.trans (b4.mono b3.size)))).mono ?_); rintro e w6 ⟨S, rfl, hS1, hS2, b6⟩; have HS1 := Lib.hid hS1; clear hS1)
        | (go_at_call 85; (with_reducible refine (rep_calls S hS2 w6).mono ?_); rintro e w7 ⟨rfl, b7⟩)
        | (at_builtin; refine step_append_str _ rfl (.tmp 30) (.tmp 37) rfl w.heap.size (.slice Ap np cp) Ps rfl ((((HO.out.below b3).below b4).below b6).below b7 |>.below (alloc_below _ _)) _ 1 1 (dd 18 k) rfl rfl (lit_str' w7 _ _ _ (pad_str hmK HS1.out)) (by omega) (by have := hb.size; have := b3.size; have := b4.size; have := b6.size; have := b7.size; have := (alloc_below w7 (.cells #[.string (⟨Array.replicate (18 - S.size) 48⟩ ++ S)] 9)).size; omega) ?_; intro v8 w8 os8 g8; obtain ⟨A8, n8, c8, rfl, hn8, hs8⟩ := os8.reads; obtain rfl : n8 = np + 1 := (by rw [hn8, List.length_append, hlen]; rfl); clear hn8 hs8))
      have hbA := alloc_below w7 (.cells #[.string (⟨Array.replicate (18 - S.size) 48⟩ ++ S)] 9)
      have hsz : w.heap.size ≤ w7.heap.size := by have := hb.size; have := b3.size; have := b4.size; have := b6.size; have := b7.size; omega
      have b8 : Below w.heap.size w w8 := ((((((hb.trans (b3.mono hb.size)).trans (b4.mono (by have := hb.size; have := b3.size; omega))).trans (b6.mono (by have := hb.size; have := b3.size; have := b4.size; omega))).trans (b7.mono (by have := hb.size; have := b3.size; have := b4.size; have := b6.size; omega))).trans (hbA.mono hsz))).grown g8 (Nat.le_trans hsz hbA.size) (fun j hj => HO.out.grown j hj)
      have r8 : SI w8 .u64 A4 n4 c4 (digs U q) := Sl.grown ((((r4.below b6).below b7).below hbA)) g8 (fun b o e he => by
        have h1 := HO.out.lt b he.symm
        have h2 := own_from o4 b o none e
        have := b3.size
        omega)
      go_roundw
      case rel => exact ⟨np + 1, q, Ps ++ [dd 18 k], A4, n4, c4, digs U q, A8, np + 1, c8, rfl, rfl, rfl, by rw [← r4.len]; exact Nat.le_trans HQ.out hna, HN.out, r8, dl _, val_digs U_two _, os8, b8⟩
      case measure =>
        simp
        omega
end Go.Proofs.YtkanddmihmdagaaGreatDoor.Tx

/- The document's answer of layer 2, on: Add of like signs. -/
namespace Go.Proofs.YtkanddmihmdagaaGreatDoor.Rw
open Go.RowKit Go.Proofs.YtkanddmihmdagaaGreatDoor.Dig Go.Proofs.YtkanddmihmdagaaGreatDoor.W Go.Proofs.YtkanddmihmdagaaGreatDoor.Nat Go.Proofs.YtkanddmihmdagaaGreatDoor.Wh
open Go.Proofs.YtkanddmihmdagaaGreatDoor.Rf (V V_two V_pos)

theorem len_addR {l l' : List Nat} {n n' M : Nat} (hl : Lt V l) (hl' : Lt V l') (h : l.length = n) (h' : l'.length = n') (hn : n ≤ M) (hn' : n' ≤ M) : (digs V (val V l + val V l')).length ≤ M + 1 := by
  have h1 := val_lt V_pos hl
  have h2 := val_lt V_pos hl'
  have p1 : V ^ l.length ≤ V ^ M := Nat.pow_le_pow_right V_pos (by omega)
  have p2 : V ^ l'.length ≤ V ^ M := Nat.pow_le_pow_right V_pos (by omega)
  have p3 : V ^ M * 2 ≤ V ^ (M + 1) := by rw [Nat.pow_succ]; exact Nat.mul_le_mul_left _ V_two
  exact (digs_length_le V_two _ _).2 (by omega)
set_option maxHeartbeats 4000000 in
set_option maxRecDepth 100000 in
theorem radd_f (A A' : Option Addr) (n c n' c' : Nat) (l l' : List Nat) (w : World) (h : SI w .u32 A n c l) (h' : SI w .u32 A' n' c' l') (hl : Lt V l) (hl' : Lt V l') (hn : n ≤ 1099511627776) (hn' : n' ≤ 1099511627776) :
    Calls Tryz.prog 89 #[.agg #[.bool false, .slice A n c], .agg #[.bool false, .slice A' n' c']] w (GivesR w (sg false (val V l + val V l'))) := by
  have hB := BoxR.start w (.bool false) (.slice A n c) (.bool false) (.slice A' n' c')
  obtain ⟨W, hW⟩ : ∃ W, W = WR3 w (.bool false) (.slice A n c) (.bool false) (.slice A' n' c') := ⟨_, rfl⟩
  rw [← hW] at hB
  have HW := Lib.hid hW
  unfold WR3 at HW
  have hB2 := hB.below (Below.refl W.heap.size W).drew
  have kp := hB2.rd
  have hA := Rf.add_calls A A' n c n' c' l l' W.drew (h.below hB2.bl) (h'.below hB2.bl) hl hl' (by omega) (by omega)
  have hlen := len_addR hl hl' h.len h'.len hn hn'
  generalize val V l + val V l' = m at *
  have HA := Lib.hid hA
  have HL := Lib.hid hlen
  clear hA hlen hW h h' hB
  unfold Rd4 at kp
  go_enter Tryz.func89, Tryz.ntmps89
  go_wp2
  rw [← HW.out]
  clear HW
  go_region_held3 (fun w' => w'.cell? ⟨w.heap.size, 0, none⟩ = some (.bool false) ∧ w'.cell? ⟨w.heap.size, 1, none⟩ = some (.slice A n c) ∧ w'.cell? ⟨w.heap.size + 1, 0, none⟩ = some (.bool false) ∧ w'.cell? ⟨w.heap.size + 1, 1, none⟩ = some (.slice A' n' c'))
    (first
      | exact kp
      | exact k1
      | exact k2
      | exact k2.far _ _)
    (first
      | (go_at_call 113; (with_reducible refine HA.out.mono ?_); rintro e w1 ⟨A1, n1, c1, rfl, r1, u1, b1⟩; have x1 := hB2.below b1; have k1 := x1.rd)
      | (go_at_call 74; (with_reducible refine (rmake_d false A1 n1 c1 m w1 r1 (by have := r1.len; have := HL.out; omega)).mono ?_); rintro e w2 ⟨A2, n2, c2, rfl, r2, f2, b2⟩; have x2 := x1.below b2; have k2 := x2.rd; have q0 := x2.r.c0; have q1 := x2.r.c1; have g0 := x2.r.f0; have g1 := x2.r.f1))
  go_wp2
  obtain ⟨p1, p2, p3⟩ := put_resR (a := .bool (decide (sg false m < 0))) (b := .slice A2 n2 c2) x1.bl x1.r (by omega) r2 f2 b2
  exact bodyPost_ret (two_resultsR rfl _ (x2.r.store _ _) rfl) rfl ⟨A2, n2, c2, rfl, p1, p2, p3⟩
set_option maxHeartbeats 4000000 in
set_option maxRecDepth 100000 in
theorem radd_t (A A' : Option Addr) (n c n' c' : Nat) (l l' : List Nat) (w : World) (h : SI w .u32 A n c l) (h' : SI w .u32 A' n' c' l') (hl : Lt V l) (hl' : Lt V l') (hn : n ≤ 1099511627776) (hn' : n' ≤ 1099511627776) :
    Calls Tryz.prog 89 #[.agg #[.bool true, .slice A n c], .agg #[.bool true, .slice A' n' c']] w (GivesR w (sg true (val V l + val V l'))) := by
  have hB := BoxR.start w (.bool true) (.slice A n c) (.bool true) (.slice A' n' c')
  obtain ⟨W, hW⟩ : ∃ W, W = WR3 w (.bool true) (.slice A n c) (.bool true) (.slice A' n' c') := ⟨_, rfl⟩
  rw [← hW] at hB
  have HW := Lib.hid hW
  unfold WR3 at HW
  have hB2 := hB.below (Below.refl W.heap.size W).drew
  have kp := hB2.rd
  have hA := Rf.add_calls A A' n c n' c' l l' W.drew (h.below hB2.bl) (h'.below hB2.bl) hl hl' (by omega) (by omega)
  have hlen := len_addR hl hl' h.len h'.len hn hn'
  generalize val V l + val V l' = m at *
  have HA := Lib.hid hA
  have HL := Lib.hid hlen
  clear hA hlen hW h h' hB
  unfold Rd4 at kp
  go_enter Tryz.func89, Tryz.ntmps89
  go_wp2
  rw [← HW.out]
  clear HW
  go_region_held3 (fun w' => w'.cell? ⟨w.heap.size, 0, none⟩ = some (.bool true) ∧ w'.cell? ⟨w.heap.size, 1, none⟩ = some (.slice A n c) ∧ w'.cell? ⟨w.heap.size + 1, 0, none⟩ = some (.bool true) ∧ w'.cell? ⟨w.heap.size + 1, 1, none⟩ = some (.slice A' n' c'))
    (first
      | exact kp
      | exact k1
      | exact k2
      | exact k2.far _ _)
    (first
      | (go_at_call 113; (with_reducible refine HA.out.mono ?_); rintro e w1 ⟨A1, n1, c1, rfl, r1, u1, b1⟩; have x1 := hB2.below b1; have k1 := x1.rd)
      | (go_at_call 74; (with_reducible refine (rmake_d true A1 n1 c1 m w1 r1 (by have := r1.len; have := HL.out; omega)).mono ?_); rintro e w2 ⟨A2, n2, c2, rfl, r2, f2, b2⟩; have x2 := x1.below b2; have k2 := x2.rd; have q0 := x2.r.c0; have q1 := x2.r.c1; have g0 := x2.r.f0; have g1 := x2.r.f1))
  go_wp2
  obtain ⟨p1, p2, p3⟩ := put_resR (a := .bool (decide (sg true m < 0))) (b := .slice A2 n2 c2) x1.bl x1.r (by omega) r2 f2 b2
  exact bodyPost_ret (two_resultsR rfl _ (x2.r.store _ _) rfl) rfl ⟨A2, n2, c2, rfl, p1, p2, p3⟩
end Go.Proofs.YtkanddmihmdagaaGreatDoor.Rw

/- The document's answer of layer 2, on: Add of any signs. -/
namespace Go.Proofs.YtkanddmihmdagaaGreatDoor.Rw
open Go.RowKit Go.Proofs.YtkanddmihmdagaaGreatDoor.Dig Go.Proofs.YtkanddmihmdagaaGreatDoor.W Go.Proofs.YtkanddmihmdagaaGreatDoor.Nat Go.Proofs.YtkanddmihmdagaaGreatDoor.Wh
open Go.Proofs.YtkanddmihmdagaaGreatDoor.Rf (V V_two V_pos)

set_option maxHeartbeats 4000000 in
set_option maxRecDepth 100000 in
theorem radd_ft_ge (A A' : Option Addr) (n c n' c' : Nat) (l l' : List Nat) (w : World) (h : SI w .u32 A n c l) (h' : SI w .u32 A' n' c' l') (hl : Lt V l) (hl' : Lt V l') (hn : n ≤ 1099511627776) (hn' : n' ≤ 1099511627776) (hle : val V l' ≤ val V l) :
    Calls Tryz.prog 89 #[.agg #[.bool false, .slice A n c], .agg #[.bool true, .slice A' n' c']] w (GivesR w (sg false (val V l - val V l'))) := by
  have hB := BoxR.start w (.bool false) (.slice A n c) (.bool true) (.slice A' n' c')
  obtain ⟨W, hW⟩ : ∃ W, W = WR3 w (.bool false) (.slice A n c) (.bool true) (.slice A' n' c') := ⟨_, rfl⟩
  rw [← hW] at hB
  have HW := Lib.hid hW
  unfold WR3 at HW
  obtain ⟨z, hz, hz0⟩ : ∃ z, cmp (val V l) (val V l') = z ∧ 0 ≤ z := ⟨_, rfl, by unfold cmp; rw [if_neg (by omega)]; split <;> omega⟩
  have hz1 : decide (0 ≤ z) = true := decide_eq_true hz0
  have hC := Rf.cmp_calls A A' n c n' c' l l' W (h.below hB.bl) (h'.below hB.bl) hl hl'
  rw [hz] at hC
  have hv := val_lt V_pos hl
  have hlen : (digs V (val V l - val V l')).length ≤ n := (digs_length_le V_two _ _).2 (by rw [h.len] at hv; omega)
  have HLE := Lib.hid hle
  have Hh := Lib.hid h
  have Hh' := Lib.hid h'
  have HS := fun (w0 : World) (hB2 : BoxR w w0.drew (.bool false) (.slice A n c) (.bool true) (.slice A' n' c')) => Rf.sub_fresh A A' n c n' c' l l' w0.drew (Hh.out.below hB2.bl) (Hh'.out.below hB2.bl) hl hl' (by omega) HLE.out
  generalize val V l - val V l' = m at hlen HS ⊢
  have HS2 := Lib.hid HS
  have HL := Lib.hid hlen
  have HB := Lib.hid hB
  have HC := Lib.hid hC
  rw [HW.out] at HB HC
  clear hC hB hlen HS hW h h' hv hz hle
  go_enter Tryz.func89, Tryz.ntmps89
  go_wp2_with (go_at_call 129; (with_reducible refine HC.out.mono ?_); rintro e w0 ⟨rfl, d0⟩; have x0 := HB.out.below d0.below)
  have hB2 := x0.below (Below.refl w0.heap.size w0).drew
  have kp := hB2.rd
  unfold Rd4 at kp
  have HA := Lib.hid (HS2.out w0 hB2)
  go_region_held3 (fun w' => w'.cell? ⟨w.heap.size, 0, none⟩ = some (.bool false) ∧ w'.cell? ⟨w.heap.size, 1, none⟩ = some (.slice A n c) ∧ w'.cell? ⟨w.heap.size + 1, 0, none⟩ = some (.bool true) ∧ w'.cell? ⟨w.heap.size + 1, 1, none⟩ = some (.slice A' n' c'))
    (first
      | exact kp
      | exact k1
      | exact k2
      | exact k2.far _ _)
    (first
      | (go_at_call 130; (with_reducible refine HA.out.mono ?_); rintro e w1 ⟨A1, n1, c1, rfl, r1, u1, b1⟩; have x1 := hB2.below b1; have k1 := x1.rd)
      | (go_at_call 74; (with_reducible refine (rmake_d false A1 n1 c1 m w1 r1 (by have := r1.len; have := HL.out; omega)).mono ?_); rintro e w2 ⟨A2, n2, c2, rfl, r2, f2, b2⟩; have x2 := x1.below b2; have k2 := x2.rd; have q0 := x2.r.c0; have q1 := x2.r.c1; have g0 := x2.r.f0; have g1 := x2.r.f1))
  go_wp2
  obtain ⟨p1, p2, p3⟩ := put_resR (a := .bool (decide (sg false m < 0))) (b := .slice A2 n2 c2) x1.bl x1.r (by omega) r2 f2 b2
  exact bodyPost_ret (two_resultsR rfl _ (x2.r.store _ _) rfl) rfl ⟨A2, n2, c2, rfl, p1, p2, p3⟩
set_option maxHeartbeats 4000000 in
set_option maxRecDepth 100000 in
theorem radd_ft_lt (A A' : Option Addr) (n c n' c' : Nat) (l l' : List Nat) (w : World) (h : SI w .u32 A n c l) (h' : SI w .u32 A' n' c' l') (hl : Lt V l) (hl' : Lt V l') (hn : n ≤ 1099511627776) (hn' : n' ≤ 1099511627776) (hle : val V l < val V l') :
    Calls Tryz.prog 89 #[.agg #[.bool false, .slice A n c], .agg #[.bool true, .slice A' n' c']] w (GivesR w (sg true (val V l' - val V l))) := by
  have hB := BoxR.start w (.bool false) (.slice A n c) (.bool true) (.slice A' n' c')
  obtain ⟨W, hW⟩ : ∃ W, W = WR3 w (.bool false) (.slice A n c) (.bool true) (.slice A' n' c') := ⟨_, rfl⟩
  rw [← hW] at hB
  have HW := Lib.hid hW
  unfold WR3 at HW
  obtain ⟨z, hz, hz0⟩ : ∃ z, cmp (val V l) (val V l') = z ∧ z < 0 := ⟨_, rfl, by rw [Rf.cmp_lt hle]; omega⟩
  have hz1 : decide (0 ≤ z) = false := decide_eq_false (by omega)
  have hz2 : ¬ 0 ≤ z := by omega
  have hC := Rf.cmp_calls A A' n c n' c' l l' W (h.below hB.bl) (h'.below hB.bl) hl hl'
  rw [hz] at hC
  have hv := val_lt V_pos hl'
  have hlen : (digs V (val V l' - val V l)).length ≤ n' := (digs_length_le V_two _ _).2 (by rw [h'.len] at hv; omega)
  have HLE := Lib.hid hle
  have Hh := Lib.hid h
  have Hh' := Lib.hid h'
  have HS := fun (w0 : World) (hB2 : BoxR w w0.drew (.bool false) (.slice A n c) (.bool true) (.slice A' n' c')) => Rf.sub_fresh A' A n' c' n c l' l w0.drew (Hh'.out.below hB2.bl) (Hh.out.below hB2.bl) hl' hl (by omega) (Nat.le_of_lt HLE.out)
  generalize val V l' - val V l = m at hlen HS ⊢
  have HS2 := Lib.hid HS
  have HL := Lib.hid hlen
  have HB := Lib.hid hB
  have HC := Lib.hid hC
  rw [HW.out] at HB HC
  clear hC hB hlen HS hW h h' hv hz hle
  go_enter Tryz.func89, Tryz.ntmps89
  go_wp2_with (go_at_call 129; (with_reducible refine HC.out.mono ?_); rintro e w0 ⟨rfl, d0⟩; have x0 := HB.out.below d0.below)
  have hB2 := x0.below (Below.refl w0.heap.size w0).drew
  have kp := hB2.rd
  unfold Rd4 at kp
  have HA := Lib.hid (HS2.out w0 hB2)
  go_region_held3 (fun w' => w'.cell? ⟨w.heap.size, 0, none⟩ = some (.bool false) ∧ w'.cell? ⟨w.heap.size, 1, none⟩ = some (.slice A n c) ∧ w'.cell? ⟨w.heap.size + 1, 0, none⟩ = some (.bool true) ∧ w'.cell? ⟨w.heap.size + 1, 1, none⟩ = some (.slice A' n' c'))
    (first
      | exact kp
      | exact k1
      | exact k2
      | exact k2.far _ _)
    (first
      | (go_at_call 130; (with_reducible refine HA.out.mono ?_); rintro e w1 ⟨A1, n1, c1, rfl, r1, u1, b1⟩; have x1 := hB2.below b1; have k1 := x1.rd)
      | (go_at_call 74; (with_reducible refine (rmake_d true A1 n1 c1 m w1 r1 (by have := r1.len; have := HL.out; omega)).mono ?_); rintro e w2 ⟨A2, n2, c2, rfl, r2, f2, b2⟩; have x2 := x1.below b2; have k2 := x2.rd; have q0 := x2.r.c0; have q1 := x2.r.c1; have g0 := x2.r.f0; have g1 := x2.r.f1))
  go_wp2
  obtain ⟨p1, p2, p3⟩ := put_resR (a := .bool (decide (sg true m < 0))) (b := .slice A2 n2 c2) x1.bl x1.r (by omega) r2 f2 b2
  exact bodyPost_ret (two_resultsR rfl _ (x2.r.store _ _) rfl) rfl ⟨A2, n2, c2, rfl, p1, p2, p3⟩
set_option maxHeartbeats 4000000 in
set_option maxRecDepth 100000 in
theorem radd_tf_ge (A A' : Option Addr) (n c n' c' : Nat) (l l' : List Nat) (w : World) (h : SI w .u32 A n c l) (h' : SI w .u32 A' n' c' l') (hl : Lt V l) (hl' : Lt V l') (hn : n ≤ 1099511627776) (hn' : n' ≤ 1099511627776) (hle : val V l' ≤ val V l) :
    Calls Tryz.prog 89 #[.agg #[.bool true, .slice A n c], .agg #[.bool false, .slice A' n' c']] w (GivesR w (sg true (val V l - val V l'))) := by
  have hB := BoxR.start w (.bool true) (.slice A n c) (.bool false) (.slice A' n' c')
  obtain ⟨W, hW⟩ : ∃ W, W = WR3 w (.bool true) (.slice A n c) (.bool false) (.slice A' n' c') := ⟨_, rfl⟩
  rw [← hW] at hB
  have HW := Lib.hid hW
  unfold WR3 at HW
  obtain ⟨z, hz, hz0⟩ : ∃ z, cmp (val V l) (val V l') = z ∧ 0 ≤ z := ⟨_, rfl, by unfold cmp; rw [if_neg (by omega)]; split <;> omega⟩
  have hz1 : decide (0 ≤ z) = true := decide_eq_true hz0
  have hC := Rf.cmp_calls A A' n c n' c' l l' W (h.below hB.bl) (h'.below hB.bl) hl hl'
  rw [hz] at hC
  have hv := val_lt V_pos hl
  have hlen : (digs V (val V l - val V l')).length ≤ n := (digs_length_le V_two _ _).2 (by rw [h.len] at hv; omega)
  have HLE := Lib.hid hle
  have Hh := Lib.hid h
  have Hh' := Lib.hid h'
  have HS := fun (w0 : World) (hB2 : BoxR w w0.drew (.bool true) (.slice A n c) (.bool false) (.slice A' n' c')) => Rf.sub_fresh A A' n c n' c' l l' w0.drew (Hh.out.below hB2.bl) (Hh'.out.below hB2.bl) hl hl' (by omega) HLE.out
  generalize val V l - val V l' = m at hlen HS ⊢
  have HS2 := Lib.hid HS
  have HL := Lib.hid hlen
  have HB := Lib.hid hB
  have HC := Lib.hid hC
  rw [HW.out] at HB HC
  clear hC hB hlen HS hW h h' hv hz hle
  go_enter Tryz.func89, Tryz.ntmps89
  go_wp2_with (go_at_call 129; (with_reducible refine HC.out.mono ?_); rintro e w0 ⟨rfl, d0⟩; have x0 := HB.out.below d0.below)
  have hB2 := x0.below (Below.refl w0.heap.size w0).drew
  have kp := hB2.rd
  unfold Rd4 at kp
  have HA := Lib.hid (HS2.out w0 hB2)
  go_region_held3 (fun w' => w'.cell? ⟨w.heap.size, 0, none⟩ = some (.bool true) ∧ w'.cell? ⟨w.heap.size, 1, none⟩ = some (.slice A n c) ∧ w'.cell? ⟨w.heap.size + 1, 0, none⟩ = some (.bool false) ∧ w'.cell? ⟨w.heap.size + 1, 1, none⟩ = some (.slice A' n' c'))
    (first
      | exact kp
      | exact k1
      | exact k2
      | exact k2.far _ _)
    (first
      | (go_at_call 130; (with_reducible refine HA.out.mono ?_); rintro e w1 ⟨A1, n1, c1, rfl, r1, u1, b1⟩; have x1 := hB2.below b1; have k1 := x1.rd)
      | (go_at_call 74; (with_reducible refine (rmake_d true A1 n1 c1 m w1 r1 (by have := r1.len; have := HL.out; omega)).mono ?_); rintro e w2 ⟨A2, n2, c2, rfl, r2, f2, b2⟩; have x2 := x1.below b2; have k2 := x2.rd; have q0 := x2.r.c0; have q1 := x2.r.c1; have g0 := x2.r.f0; have g1 := x2.r.f1))
  go_wp2
  obtain ⟨p1, p2, p3⟩ := put_resR (a := .bool (decide (sg true m < 0))) (b := .slice A2 n2 c2) x1.bl x1.r (by omega) r2 f2 b2
  exact bodyPost_ret (two_resultsR rfl _ (x2.r.store _ _) rfl) rfl ⟨A2, n2, c2, rfl, p1, p2, p3⟩
set_option maxHeartbeats 4000000 in
set_option maxRecDepth 100000 in
theorem radd_tf_lt (A A' : Option Addr) (n c n' c' : Nat) (l l' : List Nat) (w : World) (h : SI w .u32 A n c l) (h' : SI w .u32 A' n' c' l') (hl : Lt V l) (hl' : Lt V l') (hn : n ≤ 1099511627776) (hn' : n' ≤ 1099511627776) (hle : val V l < val V l') :
    Calls Tryz.prog 89 #[.agg #[.bool true, .slice A n c], .agg #[.bool false, .slice A' n' c']] w (GivesR w (sg false (val V l' - val V l))) := by
  have hB := BoxR.start w (.bool true) (.slice A n c) (.bool false) (.slice A' n' c')
  obtain ⟨W, hW⟩ : ∃ W, W = WR3 w (.bool true) (.slice A n c) (.bool false) (.slice A' n' c') := ⟨_, rfl⟩
  rw [← hW] at hB
  have HW := Lib.hid hW
  unfold WR3 at HW
  obtain ⟨z, hz, hz0⟩ : ∃ z, cmp (val V l) (val V l') = z ∧ z < 0 := ⟨_, rfl, by rw [Rf.cmp_lt hle]; omega⟩
  have hz1 : decide (0 ≤ z) = false := decide_eq_false (by omega)
  have hz2 : ¬ 0 ≤ z := by omega
  have hC := Rf.cmp_calls A A' n c n' c' l l' W (h.below hB.bl) (h'.below hB.bl) hl hl'
  rw [hz] at hC
  have hv := val_lt V_pos hl'
  have hlen : (digs V (val V l' - val V l)).length ≤ n' := (digs_length_le V_two _ _).2 (by rw [h'.len] at hv; omega)
  have HLE := Lib.hid hle
  have Hh := Lib.hid h
  have Hh' := Lib.hid h'
  have HS := fun (w0 : World) (hB2 : BoxR w w0.drew (.bool true) (.slice A n c) (.bool false) (.slice A' n' c')) => Rf.sub_fresh A' A n' c' n c l' l w0.drew (Hh'.out.below hB2.bl) (Hh.out.below hB2.bl) hl' hl (by omega) (Nat.le_of_lt HLE.out)
  generalize val V l' - val V l = m at hlen HS ⊢
  have HS2 := Lib.hid HS
  have HL := Lib.hid hlen
  have HB := Lib.hid hB
  have HC := Lib.hid hC
  rw [HW.out] at HB HC
  clear hC hB hlen HS hW h h' hv hz hle
  go_enter Tryz.func89, Tryz.ntmps89
  go_wp2_with (go_at_call 129; (with_reducible refine HC.out.mono ?_); rintro e w0 ⟨rfl, d0⟩; have x0 := HB.out.below d0.below)
  have hB2 := x0.below (Below.refl w0.heap.size w0).drew
  have kp := hB2.rd
  unfold Rd4 at kp
  have HA := Lib.hid (HS2.out w0 hB2)
  go_region_held3 (fun w' => w'.cell? ⟨w.heap.size, 0, none⟩ = some (.bool true) ∧ w'.cell? ⟨w.heap.size, 1, none⟩ = some (.slice A n c) ∧ w'.cell? ⟨w.heap.size + 1, 0, none⟩ = some (.bool false) ∧ w'.cell? ⟨w.heap.size + 1, 1, none⟩ = some (.slice A' n' c'))
    (first
      | exact kp
      | exact k1
      | exact k2
      | exact k2.far _ _)
    (first
      | (go_at_call 130; (with_reducible refine HA.out.mono ?_); rintro e w1 ⟨A1, n1, c1, rfl, r1, u1, b1⟩; have x1 := hB2.below b1; have k1 := x1.rd)
      | (go_at_call 74; (with_reducible refine (rmake_d false A1 n1 c1 m w1 r1 (by have := r1.len; have := HL.out; omega)).mono ?_); rintro e w2 ⟨A2, n2, c2, rfl, r2, f2, b2⟩; have x2 := x1.below b2; have k2 := x2.rd; have q0 := x2.r.c0; have q1 := x2.r.c1; have g0 := x2.r.f0; have g1 := x2.r.f1))
  go_wp2
  obtain ⟨p1, p2, p3⟩ := put_resR (a := .bool (decide (sg false m < 0))) (b := .slice A2 n2 c2) x1.bl x1.r (by omega) r2 f2 b2
  exact bodyPost_ret (two_resultsR rfl _ (x2.r.store _ _) rfl) rfl ⟨A2, n2, c2, rfl, p1, p2, p3⟩
theorem radd_calls (ng ng' : Bool) (A A' : Option Addr) (n c n' c' : Nat) (l l' : List Nat) (w : World) (h : SI w .u32 A n c l) (h' : SI w .u32 A' n' c' l') (hl : Lt V l) (hl' : Lt V l') (hn : n ≤ 1099511627776) (hn' : n' ≤ 1099511627776) :
    Calls Tryz.prog 89 #[.agg #[.bool ng, .slice A n c], .agg #[.bool ng', .slice A' n' c']] w (GivesR w (sg ng (val V l) + sg ng' (val V l'))) := by
  cases ng <;> cases ng'
  · have e := radd_f A A' n c n' c' l l' w h h' hl hl' hn hn'
    rwa [show sg false (val V l + val V l') = sg false (val V l) + sg false (val V l') by simp [sg]] at e
  · rcases Nat.lt_or_ge (val V l) (val V l') with hx | hx
    · have e := radd_ft_lt A A' n c n' c' l l' w h h' hl hl' hn hn' hx
      rwa [show sg true (val V l' - val V l) = sg false (val V l) + sg true (val V l') by simp [sg]; omega] at e
    · have e := radd_ft_ge A A' n c n' c' l l' w h h' hl hl' hn hn' hx
      rwa [show sg false (val V l - val V l') = sg false (val V l) + sg true (val V l') by simp [sg]; omega] at e
  · rcases Nat.lt_or_ge (val V l) (val V l') with hx | hx
    · have e := radd_tf_lt A A' n c n' c' l l' w h h' hl hl' hn hn' hx
      rwa [show sg false (val V l' - val V l) = sg true (val V l) + sg false (val V l') by simp [sg]; omega] at e
    · have e := radd_tf_ge A A' n c n' c' l l' w h h' hl hl' hn hn' hx
      rwa [show sg true (val V l - val V l') = sg true (val V l) + sg false (val V l') by simp [sg]; omega] at e
  · have e := radd_t A A' n c n' c' l l' w h h' hl hl' hn hn'
    rwa [show sg true (val V l + val V l') = sg true (val V l) + sg true (val V l') by simp [sg]; omega] at e
end Go.Proofs.YtkanddmihmdagaaGreatDoor.Rw

/- The document's answer of layer 2, on: Cmp. -/
namespace Go.Proofs.YtkanddmihmdagaaGreatDoor.Rw
open Go.RowKit Go.Proofs.YtkanddmihmdagaaGreatDoor.Dig Go.Proofs.YtkanddmihmdagaaGreatDoor.W Go.Proofs.YtkanddmihmdagaaGreatDoor.Nat Go.Proofs.YtkanddmihmdagaaGreatDoor.Wh
open Go.Proofs.YtkanddmihmdagaaGreatDoor.Rf (V V_two V_pos)

/-- how two whole numbers stand -/
def cmpz (x y : Int) : Int := if x < y then -1 else if y < x then 1 else 0
theorem sg_of (z : Int) : sg (decide (z < 0)) z.natAbs = z := by
  unfold sg
  split <;> simp at * <;> omega
end Go.Proofs.YtkanddmihmdagaaGreatDoor.Rw

/- The document's answer of layer 2, on: DivMod. -/
namespace Go.Proofs.YtkanddmihmdagaaGreatDoor.Rw
open Go.RowKit Go.Proofs.YtkanddmihmdagaaGreatDoor.Dig Go.Proofs.YtkanddmihmdagaaGreatDoor.W Go.Proofs.YtkanddmihmdagaaGreatDoor.Nat Go.Proofs.YtkanddmihmdagaaGreatDoor.Wh
open Go.Proofs.YtkanddmihmdagaaGreatDoor.Rf (V V_two V_pos)

def WR4 (w : World) (u v u' v' : Value) : World := (WR3 w u v u' v').alloc (.cells #[.bool false, .slice none 0 0] 58)
structure Box3R (w W : World) (u v u' v' : Value) : Prop where
  a : Two W w.heap.size 58 u v
  b : Two W (w.heap.size + 1) 58 u' v'
  r : Two W (w.heap.size + 1 + 1) 58 (.bool false) (.slice none 0 0)
  s : Two W (w.heap.size + 1 + 1 + 1) 58 (.bool false) (.slice none 0 0)
  bl : Below w.heap.size w W
theorem WR3_size (w : World) (u v u' v' : Value) : (WR3 w u v u' v').heap.size = w.heap.size + 1 + 1 + 1 := by simp [WR3]
theorem Box3R.start (w : World) (u v u' v' : Value) : Box3R w (WR4 w u v u' v') u v u' v' := by
  have hB := BoxR.start w u v u' v'
  have hb := alloc_below (WR3 w u v u' v') (.cells #[.bool false, .slice none 0 0] 58)
  have h4 := Two.start (WR3 w u v u' v') (.bool false) (.slice none 0 0) 58
  rw [WR3_size] at h4
  exact ⟨hB.a.below hb, hB.b.below hb, hB.r.below hb, h4, hB.bl.alloc hB.bl.size _⟩
theorem Box3R.below {w W W' : World} {u v u' v' : Value} (h : Box3R w W u v u' v') (hb : Below W.heap.size W W') : Box3R w W' u v u' v' :=
  ⟨h.a.below hb, h.b.below hb, h.r.below hb, h.s.below hb, h.bl.trans (hb.mono h.bl.size)⟩
theorem Box3R.put {w W : World} {u v u' v' : Value} (h : Box3R w W u v u' v') (a b a' b' : Value) :
    Two (Put4 W (w.heap.size + 1 + 1) a b a' b') (w.heap.size + 1 + 1) 58 a b ∧ Two (Put4 W (w.heap.size + 1 + 1) a b a' b') (w.heap.size + 1 + 1 + 1) 58 a' b' ∧ Below w.heap.size w (Put4 W (w.heap.size + 1 + 1) a b a' b') :=
  ⟨Two.far (h.r.store a b) (by omega) a' b', (Two.far h.s (by omega) a b).store a' b',
   (((h.bl.setCell (by show _ ≤ w.heap.size + 1 + 1; omega) _).setCell (by show _ ≤ w.heap.size + 1 + 1; omega) _).setCell (by show _ ≤ w.heap.size + 1 + 1 + 1; omega) _).setCell (by show _ ≤ w.heap.size + 1 + 1 + 1; omega) _⟩
theorem results_ccR {fn : Func} {p q : Tmp} (h : fn.results = #[.cell p 58, .cell q 58]) (tmps : Array Value) {w : World} {g g' : Nat} {a b a' b' : Value} (hg : Two w g 58 a b) (hg' : Two w g' 58 a' b')
    (hp : tmps.getD p undef = .pointer (some ⟨g, 0, none⟩)) (hq : tmps.getD q undef = .pointer (some ⟨g', 0, none⟩)) : (results fn tmps).run Tryz.prog w = .ok (.tuple #[.agg #[a, b], .agg #[a', b']]) w := by
  have hp' : tmps[p]?.getD undef = .pointer (some ⟨g, 0, none⟩) := by simpa using hp
  have hq' : tmps[q]?.getD undef = .pointer (some ⟨g', 0, none⟩) := by simpa using hq
  have e1 := run_loadVar_row (P := Tryz.prog) w g 58 58 #[a, b] (0, 0) _ hg Tryz.underlying58 rfl (by kernel_rfl)
  have e2 := run_loadVar_row (P := Tryz.prog) w g' 58 58 #[a', b'] (0, 0) _ hg' Tryz.underlying58 rfl (by kernel_rfl)
  simp [results, h, hp', hq', asAddr, e1, e2]
def GivesDR (w : World) (q r : Int) (e : Ending) (w' : World) : Prop :=
  ∃ A n c A' n' c', e = .returned (.tuple #[.agg #[.bool (decide (q < 0)), .slice A n c], .agg #[.bool (decide (r < 0)), .slice A' n' c']]) ∧
    SI w' .u32 A n c (digs V q.natAbs) ∧ SI w' .u32 A' n' c' (digs V r.natAbs) ∧ Below w.heap.size w w'
theorem len_succR {a M : Nat} (h : (digs V a).length ≤ M) : (digs V (a + 1)).length ≤ M + 1 := by
  have h1 := (digs_length_le V_two _ _).1 h
  refine (digs_length_le V_two _ _).2 ?_
  have p3 : V ^ M * 2 ≤ V ^ (M + 1) := by rw [Nat.pow_succ]; exact Nat.mul_le_mul_left _ V_two
  generalize V ^ M = P at *
  omega
theorem digs_len_leR {l : List Nat} {n M : Nat} (hl : Lt V l) (h : l.length = n) (hn : n ≤ M) : (digs V (val V l)).length ≤ M := by
  have h1 := val_lt V_pos hl
  rw [h] at h1
  exact (digs_length_le V_two _ _).2 (Nat.lt_of_lt_of_le h1 (Nat.pow_le_pow_right V_pos hn))
theorem digs_boundR {a b M : Nat} (h : a ≤ b) (hb : (digs V b).length ≤ M) : (digs V a).length ≤ M := Nat.le_trans (digs_length_mono V_two h) hb
theorem lit1R (w : World) (m : Nat) (hm : w.heap.size = m) : SI (w.alloc (.cells #[.int .u32 1] 129)) .u32 (some ⟨m, 0, none⟩) 1 1 [1] := by
  subst hm
  exact ⟨rfl, Nat.le_refl _, by omega, fun _ => ⟨w.heap.size, 0, rfl, fun j u hu => by
    rw [World.cell?, show (w.alloc (.cells #[.int .u32 1] 129)).heap[w.heap.size]? = _ from heap_alloc_new w _]
    simpa [nums] using hu⟩⟩
theorem radd_1 (A A' : Option Addr) (n c n' c' m M : Nat) (w : World) (h : SI w .u32 A n c (digs V m)) (h' : SI w .u32 A' n' c' [1]) (hM : M ≤ 4398046511104) (hn : (digs V m).length ≤ M) :
    Calls Tryz.prog 113 #[.slice A n c, .slice A' n' c'] w (Rf.GivesF w .u32 (digs V (m + 1))) := by
  have hn' : n' = 1 := h'.len.symm
  have e := Rf.add_calls A A' n c n' c' _ _ w h h' (dv m) (fun x hx => by rw [List.mem_singleton] at hx; subst hx; decide) (by rw [← h.len]; omega) (by omega)
  rw [val_digs V_two, val_cons, val_nil, Nat.mul_zero, Nat.add_zero] at e
  exact e
theorem rsub_d (A A' : Option Addr) (n c n' c' m' : Nat) (l : List Nat) (w : World) (h : SI w .u32 A n c l) (hl : Lt V l) (h' : SI w .u32 A' n' c' (digs V m')) (hn : n ≤ 4398046511104) (hle : m' ≤ val V l) :
    Calls Tryz.prog 130 #[.slice A n c, .slice A' n' c'] w (Rf.GivesF w .u32 (digs V (val V l - m'))) := by
  have e := Rf.sub_fresh A A' n c n' c' _ _ w h h' hl (dv m') hn (by rw [val_digs V_two]; exact hle)
  rw [val_digs V_two] at e
  exact e
theorem rmake_m (ng : Bool) (A : Option Addr) (n c m M : Nat) (w : World) (h : SI w .u32 A n c (digs V m)) (hM : M ≤ 4398046511104) (hn : (digs V m).length ≤ M) : Calls Tryz.prog 74 #[.bool ng, .slice A n c] w (GivesR w (sg ng m)) :=
  rmake_d ng A n c m w h (by rw [← h.len]; omega)
end Go.Proofs.YtkanddmihmdagaaGreatDoor.Rw

/- The document's answer of layer 2, on: by. -/
namespace Go.Proofs.YtkanddmihmdagaaGreatDoor.Rw
open Go.RowKit Go.Proofs.YtkanddmihmdagaaGreatDoor.Dig Go.Proofs.YtkanddmihmdagaaGreatDoor.W Go.Proofs.YtkanddmihmdagaaGreatDoor.Nat Go.Proofs.YtkanddmihmdagaaGreatDoor.Wh
open Go.Proofs.YtkanddmihmdagaaGreatDoor.Rf (V V_two V_pos)

/-- the word that is divided -/
def xw (r d : Nat) : Nat := r * 65536 + d
theorem xw_lt {r d : Nat} (hr : r < 10000) (hd : d < 65536) : xw r d < 655360000 := by unfold xw; omega
theorem by_or {r d : Nat} (hr : r < 10000) (hd : d < V) : Go.bits .or .u32 ((r : Int) * 65536) (d : Int) = (xw r d : Nat) := by
  have hd' : d < 2 ^ 16 := hd
  have e := Nat.two_pow_add_eq_or_of_lt hd' r
  have h1 := u32_or_nat (2 ^ 16 * r) d (by omega) (by unfold Rf.V at hd; omega)
  rw [← e] at h1
  rw [show (r : Int) * 65536 = ((2 ^ 16 * r : Nat) : Int) by omega, h1]
  unfold xw
  congr 1
  omega
theorem by_rem (x : Nat) : ((x : Nat) : Int).tmod 10000 = ((x % 10000 : Nat) : Int) := by
  rw [Int.tmod_eq_emod_of_nonneg (by omega)]; omega
theorem by_quo {x : Nat} (h : x < 655360000) : ((x : Nat) : Int).tdiv 10000 % 4294967296 = ((x / 10000 : Nat) : Int) := by
  rw [Int.tdiv_eq_ediv_of_nonneg (by omega)]; omega
/-- where by stands: the digits from i on are divided -/
structure ByI (l O : List Nat) (n i r : Nat) : Prop where
  len : O.length = n
  lt : Lt V O
  zero : O.take i = List.replicate i 0
  inv : V ^ i * (10000 * val V (O.drop i) + r) = V ^ i * val V (l.drop i)
  rlt : r < 10000
theorem ByI.start {l : List Nat} {n : Nat} (h : l.length = n) : ByI l (List.replicate n 0) n n 0 :=
  ⟨by simp, fun x hx => by rw [(List.mem_replicate.1 hx).2]; exact V_pos, by rw [List.take_of_length_le (by simp)], by
    rw [← h, List.drop_length, List.drop_of_length_le (by simp)]; simp [val_nil], by omega⟩
theorem ByI.round {l O : List Nat} {n i r : Nat} (h : ByI l O n (i + 1) r) (hl : Lt V l) (hn : l.length = n) (hi : i < n) :
    ByI l (O.set i (xw r (rd l i) / 10000)) n i (xw r (rd l i) % 10000) := by
  have hd := rd_lt hl V_pos i
  have hx : xw r (rd l i) / 10000 < V := by
    have := h.rlt
    have h1 : xw r (rd l i) < 10000 * 65536 := by unfold xw; unfold Rf.V at hd; omega
    unfold Rf.V
    omega
  have hval : 10000 * val V (O.drop (i + 1)) + r = val V (l.drop (i + 1)) := Nat.eq_of_mul_eq_mul_left (Nat.pow_pos V_pos) h.inv
  refine ⟨by rw [List.length_set, h.len], set_lt h.lt hx, ?_, ?_, Nat.mod_lt _ (by omega)⟩
  · rw [List.take_set_of_le (Nat.le_refl i)]
    have := congrArg (List.take i) h.zero
    rw [List.take_take, Nat.min_eq_left (by omega), List.take_replicate, Nat.min_eq_left (by omega)] at this
    exact this
  · congr 1
    rw [drop_rd (by omega : i < l.length), val_cons, ← hval, drop_rd (by rw [List.length_set, h.len]; exact hi), val_cons, rd_set (by rw [h.len]; exact hi), if_pos rfl, List.drop_set_of_lt (by omega)]
    have e := Nat.mod_add_div (xw r (rd l i)) 10000
    have ev : V = 65536 := rfl
    unfold xw at e ⊢
    rw [ev] at *
    generalize val 65536 (O.drop (i + 1)) = q at *
    omega
theorem ByI.done {l O : List Nat} {n r : Nat} (h : ByI l O n 0 r) : val V O = val V l / 10000 ∧ r = val V l % 10000 := by
  have e := h.inv
  rw [Nat.pow_zero, Nat.one_mul, Nat.one_mul, List.drop_zero, List.drop_zero] at e
  have := h.rlt
  omega
set_option maxHeartbeats 4000000 in
set_option maxRecDepth 100000 in
theorem by_calls (A : Option Addr) (n c : Nat) (l : List Nat) (w : World) (h : SI w .u32 A n c l) (hl : Lt V l) (hn : n ≤ 4398046511104) :
    Calls Tryz.prog 108 #[.slice A n c, .int .u32 10000] w fun e w' => ∃ A1 n1 c1, e = .returned (.tuple #[.slice A1 n1 c1, .int .u32 (val V l % 10000 : Nat)]) ∧ Ow w' w.heap.size 129 .u32 (.slice A1 n1 c1) (digs V (val V l / 10000)) ∧ Below w.heap.size w w' := by
  have hL := Lib.hid h.len
  have hc := Sl.le h
  have hcm := Sl.cap h
  go_enter Tryz.func108, Tryz.ntmps108
  go_wp2_with (at_make; refine wpList_make_nums _ rfl (.tmp 12) (.tmp 12) 56 rfl w.heap.size 129 .u32 4 Tryz.underlying56 Rf.info32 .i64 .i64 _ _ n rfl rfl (by simp) (by simp) (by omega) (by omega) (Nat.le_refl _) ?_; intro w1 hown1 hg1)
  have hb1 := grown_below hg1
  obtain ⟨g, hgw⟩ : ∃ g, w.heap.size = g := ⟨_, rfl⟩
  rw [hgw] at hown1 hb1 ⊢
  go_loopw [7, 8] (fun rv z wr => ∃ (i r : Nat) (y : Int) (O : List Nat), rv = .int .u32 (r : Nat) ∧ z = .int .i64 y ∧ i ≤ n ∧ Hid (y + 1 = i) ∧ ByI l O n i r ∧ Ow wr g 129 .u32 (.slice (some ⟨g, 0, none⟩) n n) O ∧ Below g w wr) (fun _ z _ => (intOf z + 1).toNat)
  case atStart => exact ⟨n, 0, (n : Int) - 1, _, rfl, rfl, Nat.le_refl _, by unfold Hid; omega, ByI.start h.len, hown1, hb1⟩
  case round =>
    obtain ⟨i, r, y, O, rfl, rfl, hi, HY, hI, hown, hb⟩ := hrel
    cases i with
    | zero =>
      obtain rfl : y = -1 := by have := HY.out; omega
      obtain ⟨f1, f2⟩ := hI.done
      have hs0 : SI wr .u32 (some ⟨g, 0, none⟩) n n O := by
        obtain ⟨A', n', c', e, hsi⟩ := hown.reads_n
        injection e with e1 e2 e3
        subst e1; subst e2; subst e3
        exact hsi
      have hs : Ow wr g 129 .u32 (.slice (some ⟨g, 0, none⟩) (trimN O n) n) (digs V (val V l / 10000)) := by
        have h1 := hown.take (trimN_le O n)
        have h2 := trim_digs V_two hI.lt
        rw [hI.len, f1] at h2
        rwa [h2] at h1
      subst f2
      have HS := Lib.hid hs
      have HB := Lib.hid hb
      have hc2 := Sl.cap hs0
      have HS0 := Lib.hid hs0
      clear hs hb hI hs0 hL
      obtain ⟨R, hR⟩ : ∃ R, R = val V l % 10000 := ⟨_, rfl⟩
      have HR := Lib.hid hR
      rw [← hR]
      clear hR
      go_wp2
      go_loop [10] (fun t => ∃ m : Nat, m ≤ n ∧ t = .int .i64 (m : Nat) ∧ Hid (trimN O m = trimN O n)) (fun t => (intOf t).toNat)
      case atStart => exact ⟨n, Nat.le_refl _, rfl, rfl⟩
      case round =>
        obtain ⟨m, hmx, rfl, HT⟩ := hrel
        cases m with
        | zero =>
          go_wp2
          go_ret2
          have e0 : trimN O n = 0 := HT.out.symm
          have hs := HS.out
          rw [e0] at hs
          exact ⟨_, _, _, (by have hR := HR.out; subst hR; rfl), by first | exact hs | (rw [hgw]; exact hs), by first | exact HB.out | (rw [hgw]; exact HB.out)⟩
        | succ m =>
          obtain ⟨b, o, e, h1⟩ := HS0.out.at_ (j := m) (by omega)
          injection e with e
          injection e with e1 e2
          subst e1; subst e2
          rw [Nat.zero_add] at h1
          by_cases h0 : rd O m = 0
          · have hb : (((rd O m : Nat) : Int) == 0) = true := by simp [h0]
            have HE := Lib.hid h0
            clear h0
            go_wp2
            go_round
            case rel => exact ⟨m, by omega, by go_num, by show _ = _; rw [← HT.out]; simp [trimN, HE.out]⟩
            case measure => simp [intOf]
          · have hb : (((rd O m : Nat) : Int) == 0) = false := by simp [h0]
            have HE := Lib.hid h0
            clear h0
            go_wp2
            go_ret2
            have e0 : trimN O n = m + 1 := by rw [← HT.out]; simp [trimN, HE.out]
            have hs := HS.out
            rw [e0] at hs
            exact ⟨_, _, _, (by have hR := HR.out; subst hR; rfl), by first | exact hs | (rw [hgw]; exact hs), by first | exact HB.out | (rw [hgw]; exact HB.out)⟩
    | succ j =>
      obtain rfl : y = (j : Int) := by have := HY.out; omega
      have hbw : Below w.heap.size w wr := by rw [hgw]; exact hb
      obtain ⟨b, o, rfl, hc0⟩ := h.at_ (j := j) (by omega)
      have hc1 := cell_keep hbw hc0
      have hr := hI.rlt
      have hd := rd_lt hl V_pos j
      have hfr := hown.frozenAt j
      have hcq := hown.cellAt (j := j) (by omega)
      have hor := by_or hr hd
      have hx := xw_lt hr hd
      have hnew := hI.round hl h.len (by omega)
      have HN := Lib.hid hnew
      have HO := Lib.hid hown
      have HB := Lib.hid hb
      clear hnew hown hb hI hc0 hbw
      obtain ⟨X, hX⟩ : ∃ X, X = xw r (rd l j) := ⟨_, rfl⟩
      rw [← hX] at hor hx HN
      have hrem := by_rem X
      have hquo := by_quo hx
      clear hX
      go_wp2
      go_roundw
      case rel => exact ⟨j, X % 10000, (j : Int) - 1, _, rfl, rfl, by omega, by unfold Hid; omega, HN.out, HO.out.store _ _, HB.out.setCell (Nat.le_refl _) _⟩
      case measure => simp [intOf]
end Go.Proofs.YtkanddmihmdagaaGreatDoor.Rw

/- The document's answer of layer 2, on: Text. -/
namespace Go.Proofs.YtkanddmihmdagaaGreatDoor.Rw
open Go.RowKit Go.Proofs.YtkanddmihmdagaaGreatDoor.Dig Go.Proofs.YtkanddmihmdagaaGreatDoor.W Go.Proofs.YtkanddmihmdagaaGreatDoor.Nat Go.Proofs.YtkanddmihmdagaaGreatDoor.Wh Go.Proofs.YtkanddmihmdagaaGreatDoor.Td
open Go.Proofs.YtkanddmihmdagaaGreatDoor.Rf (V V_two V_pos)

/-- bytes as numbers -/
def bN (l : List UInt8) : List Nat := l.map UInt8.toNat
theorem bN_len (l : List UInt8) : (bN l).length = l.length := by simp [bN]
theorem bN_app (a b : List UInt8) : bN (a ++ b) = bN a ++ bN b := by simp [bN]
theorem bN_rd {l : List UInt8} {j : Nat} (h : j < l.length) : rd (bN l) j = l[j].toNat := by
  unfold rd bN
  rw [List.getD_eq_getElem?_getD, List.getElem?_map, List.getElem?_eq_getElem h]
  rfl
theorem info8 : (Tryz.prog.info? 5).map (fun i => (i.zero, i.size, i.bytes)) = some (some (.int .u8 0), 1, 1) := by kernel_rfl
theorem own_empty8 (w : World) : Ow (w.alloc (.cells #[] 5)) w.heap.size 5 .u8 (.slice (some ⟨w.heap.size, 0, none⟩) 0 0) [] :=
  ⟨rfl, .inr ⟨w.heap.size, 0, #[], rfl, Nat.le_refl _, heap_alloc_new w _, Nat.le_refl _, by unfold maxLen; omega, rfl, rfl⟩⟩
theorem lit8 (w : World) (x : Nat) {z : Int} (hz : z = x) : SI (w.alloc (.cells #[.int .u8 z] 5)) .u8 (some ⟨w.heap.size, 0, none⟩) 1 1 [x] := by
  subst hz
  exact ⟨rfl, Nat.le_refl _, by omega, fun _ => ⟨w.heap.size, 0, rfl, fun j u hu => by
    rw [World.cell?, show (w.alloc (.cells #[.int .u8 (x : Nat)] 5)).heap[w.heap.size]? = _ from heap_alloc_new w _]
    simpa [nums] using hu⟩⟩
theorem dd_cons (k m : Nat) : dd (k + 1) m = db (m / 10 ^ k % 10) :: dd k m := by
  rw [Nat.add_comm, dd_add]
  rfl
/-- the digits of M without noughts ahead -/
def strip (M : Nat) : List UInt8 := if M = 0 then [] else Lib.decDigits M
theorem strip_row {K M : Nat} (h : M < 10 ^ K) (h0 : M = 0 ∨ 0 < K) : (strip M).length ≤ K ∧ (dd K M).reverse = (strip M).reverse ++ List.replicate (K - (strip M).length) 48 := by
  unfold strip
  by_cases hM : M = 0
  · subst hM
    rw [if_pos rfl, dd_zero]
    simp
  · rw [if_neg hM]
    have h1 := pad_dd K M h (h0.resolve_left hM)
    refine ⟨h1.1, ?_⟩
    rw [← h1.2, List.reverse_append, List.reverse_replicate]
theorem strip_top {M : Nat} (h : 0 < (strip M).length) : ∃ c, (strip M).head? = some c ∧ (c == 48) = false := by
  unfold strip at h ⊢
  by_cases hM : M = 0
  · rw [if_pos hM] at h; simp at h
  · rw [if_neg hM]
    obtain ⟨c, r, e, hc⟩ := dec_head M hM
    exact ⟨c, by rw [e]; rfl, hc⟩
/-- what low reads at a place -/
theorem low_hi {M K j : Nat} {B : List UInt8} (hB : B = (strip M).reverse ++ List.replicate (K - (strip M).length) 48) (h1 : (strip M).length ≤ j) (h2 : j < K) : rd (bN B) j = 48 := by
  subst hB
  rw [bN_app, rd_append_right (by rw [bN_len, List.length_reverse]; exact h1), bN_len, List.length_reverse, bN_rd (by rw [List.length_replicate]; omega), List.getElem_replicate]
  rfl
theorem low_top {M K : Nat} {B : List UInt8} (hB : B = (strip M).reverse ++ List.replicate (K - (strip M).length) 48) {N : Nat} (hN : (strip M).length = N + 1) : rd (bN B) N ≠ 48 := by
  subst hB
  obtain ⟨c, hc, hne⟩ := strip_top (M := M) (by omega)
  rw [bN_app, rd_append_left (by rw [bN_len, List.length_reverse]; omega), bN_rd (by rw [List.length_reverse]; omega), List.getElem_reverse]
  have h0 : (strip M)[(strip M).length - 1 - N]'(by omega) = c := by
    have e : (strip M).length - 1 - N = 0 := by omega
    rw [List.head?_eq_getElem?, List.getElem?_eq_getElem (by omega)] at hc
    injection hc with hc
    simp only [e]
    exact hc
  rw [h0]
  intro e
  rw [beq_eq_false_iff_ne] at hne
  apply hne
  rw [← UInt8.ofNat_toNat (x := c), e]
  rfl
theorem low_at {M K : Nat} {B : List UInt8} (hB : B = (strip M).reverse ++ List.replicate (K - (strip M).length) 48) {j : Nat} (hj : j < (strip M).length) :
    rd (bN B) j = rd (bN (strip M)) ((strip M).length - (j + 1)) := by
  subst hB
  rw [bN_app, rd_append_left (by rw [bN_len, List.length_reverse]; omega), bN_rd (by rw [List.length_reverse]; omega), bN_rd (by omega), List.getElem_reverse]
  congr 2
  omega
theorem take_next {E : List Nat} {N j : Nat} (hN : E.length = N) (hj : j < N) : E.take (N - (j + 1)) ++ [rd E (N - (j + 1))] = E.take (N - j) := by
  rw [show N - j = N - (j + 1) + 1 by omega, take_succ_rd (by omega)]
theorem byte_row {w : World} {A : Option Addr} {n c : Nat} {E : List UInt8} (h : SI w .u8 A n c (bN E)) (hn : 0 < n) :
    (convert 49 9 (.slice A n c)).run Tryz.prog w = .ok (.string ⟨E.toArray⟩) w := by
  obtain ⟨b, o, rfl, hc⟩ := h.all_ hn
  have hl := h.len
  rw [bN_len] at hl
  subst hl
  refine run_convert_bytes_back (P := Tryz.prog) w 49 9 5 ⟨b, o, none⟩ c E Tryz.underlying49 Tryz.underlying5 Tryz.underlying9 (fun j hj => ?_)
  rw [add_at, hc j hj, bN_rd hj]
/-- where Text's first loop stands -/
structure RT (M t m : Nat) (B : List UInt8) : Prop where
  q : m = M / 10 ^ (4 * t)
  row : B = (dd (4 * t) M).reverse
theorem RT.start (M : Nat) : RT M 0 M [] := ⟨by simp, rfl⟩
theorem RT.round {M t m : Nat} {B : List UInt8} (h : RT M t m B) : RT M (t + 1) (m / 10000) (B ++ (dd 4 (m % 10000)).reverse) := by
  refine ⟨?_, ?_⟩
  · rw [h.q, Nat.div_div_eq_div_mul, show 10000 = 10 ^ 4 from rfl, ← Nat.pow_add]
    congr 2
  · rw [h.row, ← List.reverse_append, show 4 * (t + 1) = 4 + 4 * t by omega, dd_add, ← h.q, show 10000 = 10 ^ 4 from rfl, dd_mod]
theorem RT.len {M t m : Nat} {B : List UInt8} (h : RT M t m B) : B.length = 4 * t := by rw [h.row, List.length_reverse, dd_len]
theorem RT.less {M t m n : Nat} {B : List UInt8} (h : RT M t m B) (hM : M < V ^ n) (h0 : m ≠ 0) : t ≤ 2 * n := by
  rcases Nat.lt_or_ge (2 * n) t with z | z
  · exfalso
    have h1 : 10 ^ (4 * t) ≤ M := by
      rcases Nat.lt_or_ge M (10 ^ (4 * t)) with y | y
      · exact absurd (h.q.trans (Nat.div_eq_of_lt y)) h0
      · exact y
    have h2 : (10 ^ 8) ^ n ≤ 10 ^ (4 * t) := by rw [← Nat.pow_mul]; exact Nat.pow_le_pow_right (by omega) (by omega)
    have h3 : V ^ n ≤ (10 ^ 8) ^ n := Nat.pow_le_pow_left (by decide) n
    omega
  · exact z
/-- rows of unlike types lie apart -/
theorem ow_apart {w : World} {b1 b2 : Nat} {e1 e2 : TypeId} {k1 k2 : IntKind} {v1 v2 : Value} {l1 l2 : List Nat} (h1 : Ow w b1 e1 k1 v1 l1) (h2 : Ow w b2 e2 k2 v2 l2) (hne : e1 ≠ e2) : v1.ownBlock = none ∨ v1.ownBlock ≠ v2.ownBlock := by
  rcases h1.2 with ⟨rfl, _⟩ | ⟨g, cap, cur, rfl, _, hg, _⟩
  · exact .inl rfl
  · refine .inr ?_
    rcases h2.2 with ⟨rfl, _⟩ | ⟨g2, cap2, cur2, rfl, _, hg2, _⟩
    · simp [Value.ownBlock]
    · intro he
      simp only [Value.ownBlock, Option.some.injEq] at he
      subst he
      rw [hg] at hg2
      injection hg2 with hg2
      injection hg2 with _ hg2 _
      exact hne hg2
theorem ow_grown {w w' : World} {b1 b2 : Nat} {e1 e2 : TypeId} {k1 k2 : IntKind} {v1 v2 : Value} {l1 l2 : List Nat} (h1 : Ow w b1 e1 k1 v1 l1) (h2 : Ow w b2 e2 k2 v2 l2) (hne : e1 ≠ e2) (hg : w.grownBy w' v2.ownBlock) : Ow w' b1 e1 k1 v1 l1 :=
  World.ownsRow.kept h1 hg (ow_apart h1 h2 hne)
theorem by_d (A : Option Addr) (n c m : Nat) (w : World) (h : SI w .u32 A n c (digs V m)) (hn : n ≤ 4398046511104) :
    Calls Tryz.prog 108 #[.slice A n c, .int .u32 10000] w fun e w' => ∃ A1 n1 c1, e = .returned (.tuple #[.slice A1 n1 c1, .int .u32 (m % 10000 : Nat)]) ∧ Ow w' w.heap.size 129 .u32 (.slice A1 n1 c1) (digs V (m / 10000)) ∧ Below w.heap.size w w' := by
  have e := by_calls A n c (digs V m) w h (dv m) hn
  rw [val_digs V_two] at e
  exact e
end Go.Proofs.YtkanddmihmdagaaGreatDoor.Rw

/- The document's answer of layer 2, on: Text whole. -/
namespace Go.Proofs.YtkanddmihmdagaaGreatDoor.Rw
open Go.RowKit Go.Proofs.YtkanddmihmdagaaGreatDoor.Dig Go.Proofs.YtkanddmihmdagaaGreatDoor.W Go.Proofs.YtkanddmihmdagaaGreatDoor.Nat Go.Proofs.YtkanddmihmdagaaGreatDoor.Wh Go.Proofs.YtkanddmihmdagaaGreatDoor.Td
open Go.Proofs.YtkanddmihmdagaaGreatDoor.Rf (V V_two V_pos)

set_option maxHeartbeats 8000000 in
set_option maxRecDepth 100000 in
theorem rtext_calls (A : Option Addr) (n c M : Nat) (w : World) (h : SI w .u32 A n c (digs V M)) (hn : n ≤ 1000000000000) :
    Calls Tryz.prog 67 #[.slice A n c] w fun e w' => e = .returned (.string ⟨(Lib.decDigits M).toArray⟩) ∧ Below w.heap.size w w' := by
  have hM : M < V ^ n := by rw [← h.len]; exact lt_pow_length V_two M
  go_enter Tryz.func67, Tryz.ntmps67
  go_wp2
  go_loopw [0, 3] (fun z p wr => ∃ (t m : Nat) (B : List UInt8) (Aa : Option Addr) (na ca : Nat) (Ap : Option Addr) (np cp : Nat), z = .slice Aa na ca ∧ p = .slice Ap np cp ∧ Hid (np = 4 * t) ∧ na ≤ n ∧ Hid (RT M t m B) ∧ t ≤ 2 * n + 1 ∧ SI wr .u32 Aa na ca (digs V m) ∧ Ow wr w.heap.size 5 .u8 (.slice Ap np cp) (bN B) ∧ Below w.heap.size w wr) (fun _ p _ => match p with | .slice _ k _ => 8 * n + 4 - k | _ => 0)
  case atStart => exact ⟨0, M, [], _, _, _, _, 0, _, rfl, rfl, rfl, Nat.le_refl _, RT.start M, by omega, h.alloc _, own_empty8 w, alloc_below w _⟩
  case round =>
    obtain ⟨t, m, B, Aa, na, ca, Ap, np, cp, rfl, rfl, hnp, hna, HI, ht, hr, how, hb⟩ := hrel
    by_cases h0 : m = 0
    · subst h0
      have hna0 : na = 0 := by have := hr.len; rw [digs_zero] at this; exact this.symm
      subst hna0
      have hlt : M < 10 ^ (4 * t) := by
        rcases Nat.lt_or_ge M (10 ^ (4 * t)) with y | y
        · exact y
        · have h1 := Nat.div_pos y (Nat.pow_pos (n := 4 * t) (by omega : 0 < 10))
          have h2 := HI.out.q
          omega
      have hsr := strip_row hlt (by
        rcases Nat.eq_zero_or_pos M with z | z
        · exact .inl z
        · refine .inr ?_
          rcases Nat.eq_zero_or_pos (4 * t) with y | y
          · rw [y] at hlt; simp at hlt; omega
          · exact y)
      have hB := HI.out.row
      rw [hsr.2] at hB
      have hNle := hsr.1
      have hnpt := hnp.out
      have hsi : SI wr .u8 Ap np cp (bN B) := by
        obtain ⟨A', n', c', e, hsi⟩ := how.reads_n
        injection e with e1 e2 e3
        subst e1; subst e2; subst e3
        exact hsi
      obtain ⟨N, hN⟩ : ∃ N, (strip M).length = N := ⟨_, rfl⟩
      rw [hN] at hNle
      have hcap := how.cap_
      have HB := Lib.hid hB
      have HN := Lib.hid hN
      have HSI := Lib.hid hsi
      have HW := Lib.hid hb
      have hNnp : N ≤ np := by omega
      clear hsr hB hsi hN how hr hb h hM HI hlt hNle hnpt
      go_wp2
      go_loop [7] (fun z => ∃ j : Nat, z = .int .i64 (j : Nat) ∧ N ≤ j ∧ j ≤ np) (fun z => (intOf z).toNat)
      case atStart => exact ⟨np, rfl, hNnp, Nat.le_refl _⟩
      case round =>
        obtain ⟨j, rfl, hj1, hj2⟩ := hrel
        rcases Nat.lt_or_ge N j with hjN | hjN
        · obtain ⟨p, rfl⟩ : ∃ p, j = p + 1 := ⟨j - 1, by omega⟩
          obtain ⟨b, o, rfl, hc0⟩ := HSI.out.at_ (j := p) (by omega)
          rw [low_hi HB.out (by rw [HN.out]; omega) (by have := hnp.out; omega)] at hc0
          go_wp2
          go_round
          case rel => exact ⟨p, by go_num, by omega, by omega⟩
          case measure => simp [intOf]
        · obtain rfl : j = N := by omega
          rcases Nat.eq_zero_or_pos j with hz | hz
          · subst hz
            have hM0 : M = 0 := by
              have := HN.out
              unfold strip at this
              by_cases hM : M = 0
              · exact hM
              · rw [if_neg hM] at this
                have := dec_len_pos M
                omega
            have HM0 := Lib.hid hM0
            clear hM0
            go_wp2
            go_ret
            exact ⟨by rw [HM0.out, dec_small (by omega)]; rfl, HW.out⟩
          · obtain ⟨p, rfl⟩ : ∃ p, j = p + 1 := ⟨j - 1, by omega⟩
            obtain ⟨b, o, rfl, hc0⟩ := HSI.out.at_ (j := p) (by omega)
            have hne := low_top HB.out HN.out
            have hne2 : (((rd (bN B) p : Nat) : Int) == 48) = false := by simp; omega
            clear hne hc0
            have hc1 := (HSI.out.at_ (j := p) (by omega))
            obtain ⟨b', o', e', hc0⟩ := hc1
            injection e' with e'
            injection e' with e1 e2
            subst e1; subst e2
            have hMs : strip M = Lib.decDigits M := by
              have := HN.out
              unfold strip at this ⊢
              by_cases hM : M = 0
              · rw [if_pos hM] at this; simp at this
              · rw [if_neg hM]
            have HMS := Lib.hid hMs
            clear hMs
            go_wp2
            generalize wr = wB at *
            go_loopw [8, 9] (fun q z wr => ∃ (i : Nat) (y : Int) (Ao : Option Addr) (no co : Nat), q = .slice Ao no co ∧ z = .int .i64 y ∧ i ≤ p + 1 ∧ Hid (y + 1 = i) ∧ Ow wr wB.heap.size 5 .u8 (.slice Ao no co) ((bN (strip M)).take (p + 1 - i)) ∧ Below wB.heap.size wB wr) (fun _ z _ => (intOf z + 1).toNat)
            case atStart => exact ⟨p + 1, (p : Int), _, _, _, rfl, rfl, Nat.le_refl _, by unfold Hid; omega, by rw [Nat.sub_self, List.take_zero]; exact own_empty8 wB, alloc_below wB _⟩
            case round =>
              obtain ⟨i, y, Ao, no, co, rfl, rfl, hi, HY, hou, hbb⟩ := hrel
              cases i with
              | zero =>
                obtain rfl : y = -1 := by have := HY.out; omega
                rw [Nat.sub_zero, List.take_of_length_le (by rw [bN_len, HN.out]; omega)] at hou
                have hlen := hou.len_
                rw [bN_len, HN.out] at hlen
                obtain ⟨A', n', c', e, hsi⟩ := hou.reads_n
                injection e with e1 e2 e3
                subst e1; subst e2; subst e3
                have hcv := byte_row hsi (by omega)
                clear hou hsi hlen
                go_wp2
                go_ret
                exact ⟨by rw [← HMS.out]; rfl, HW.out.trans (hbb.mono HW.out.size)⟩
              | succ j =>
                obtain rfl : y = (j : Int) := by have := HY.out; omega
                obtain ⟨b2, o2, e2, hc2⟩ := HSI.out.at_ (j := j) (by omega)
                injection e2 with e2
                injection e2 with e3 e4
                subst e3; subst e4
                rw [low_at HB.out (by rw [HN.out]; omega), HN.out] at hc2
                have hc3 := cell_keep hbb hc2
                have hnext := take_next (E := bN (strip M)) (N := p + 1) (j := j) (by rw [bN_len, HN.out]) (by omega)
                have hlen := hou.len_
                rw [List.length_take, bN_len, HN.out] at hlen
                have HNX := Lib.hid hnext
                have HL := Lib.hid hlen
                have HBB := Lib.hid hbb
                clear hnext hlen hc2 hc0
                obtain ⟨X, hX⟩ : ∃ X, rd (bN (strip M)) (p + 1 - (j + 1)) = X := ⟨_, rfl⟩
                rw [hX] at hc3 HNX
                clear hX
                go_wp2_with (at_builtin; refine wpList_append_nums _ rfl (.tmp 56) (.tmp 61) 49 rfl wB.heap.size 5 .u8 1 Tryz.underlying49 info8 (.slice Ao no co) _ rfl (hou.below (alloc_below _ _)) _ 1 _ [X] rfl (lit8 wr X rfl) (by rw [List.length_take, bN_len, HN.out]; have := hnp.out; omega) (by omega) (by have := HBB.out.size; simp; omega) ?_; intro v3 w3 how3 hg3; rw [HNX.out] at how3; obtain ⟨A3, n3, c3, rfl, hs3⟩ := how3.reads_n)
                have hb3 := (HBB.out.trans ((alloc_below wr (.cells #[.int .u8 (X : Int)] 5)).mono HBB.out.size)).grown hg3 (by have := HBB.out.size; have := (alloc_below wr (.cells #[.int .u8 (X : Int)] 5)).size; omega) (fun g hg => hou.base_ g hg)
                go_roundw
                case rel => exact ⟨j, (j : Int) - 1, A3, n3, c3, rfl, rfl, by omega, by unfold Hid; omega, how3, hb3⟩
                case measure => simp [intOf]
    · have hpos : 0 < na := by rw [← hr.len]; exact digs_length_pos V_two h0
      have hlt := HI.out.less hM h0
      have HD := Lib.hid (by_d Aa na ca m wr hr (by omega))
      have HN : Hid (RT M (t + 1) (m / 10000) (B ++ (dd 4 (m % 10000)).reverse)) := HI.out.round
      have hq : (digs V (m / 10000)).length ≤ na := by rw [← hr.len]; exact digs_length_mono V_two (Nat.div_le_self _ _)
      have HQ := Lib.hid hq
      have HO := Lib.hid how
      have HB := Lib.hid hb
      have hk4 : m % 10000 < 10000 := Nat.mod_lt _ (by omega)
      generalize m % 10000 = k at *
      generalize m / 10000 = q at *
      clear hq hr how hb h hM HI
      go_wp2_with (first
        | (go_at_call 108; (with_reducible refine HD.out.mono ?_); rintro e w1 ⟨A1, n1, c1, rfl, r1, b1⟩))
      have how1 := HO.out.below b1
      have o1 := r1.lower HB.out.size
      have hb1 := HB.out.trans (b1.mono HB.out.size)
      generalize hw1 : w1 = W1 at *
      go_loopw [3, 5, 6] (fun p rv kv wr => ∃ (j e : Nat) (Aq : Option Addr) (nq cq : Nat), p = .slice Aq nq cq ∧ rv = .int .u32 (e : Nat) ∧ kv = .int .i64 (j : Nat) ∧ j ≤ 4 ∧ Hid (e = k / 10 ^ j) ∧ e < 10000 ∧ Hid (nq = 4 * t + j) ∧ Ow wr w.heap.size 5 .u8 (.slice Aq nq cq) (bN (B ++ (dd j k).reverse)) ∧ Ow wr w.heap.size 129 .u32 (.slice A1 n1 c1) (digs V q) ∧ Below w.heap.size w wr) (fun _ _ kv _ => 4 - (intOf kv).toNat)
      case atStart => exact ⟨0, k, Ap, np, cp, rfl, rfl, rfl, by omega, by unfold Hid; simp, hk4, hnp, by simpa [dd] using how1, o1, hb1⟩
      case round =>
        clear how1 hb1 o1
        obtain ⟨j, e, Aq, nq, cq, rfl, rfl, rfl, hj, HE, he, HNQ, how, hs, hb⟩ := hrel
        by_cases hj4 : j = 4
        · subst hj4
          obtain ⟨A1', n1', c1', e1, hs⟩ := hs.reads_n
          injection e1 with e1 e2 e3
          subst e1; subst e2; subst e3
          have hs1 : n1 ≤ n := by rw [← hs.len]; exact Nat.le_trans HQ.out hna
          have HO2 := Lib.hid how
          have HB2 := Lib.hid hb
          have HS2 := Lib.hid hs
          have hnq2 := HNQ.out
          have hnp2 := hnp.out
          clear how hb hs
          go_wp2
          go_roundw
          case rel => exact ⟨t + 1, q, B ++ (dd 4 k).reverse, A1, n1, c1, Aq, nq, cq, rfl, rfl, by unfold Hid; omega, hs1, HN, by omega, HS2.out, HO2.out, HB2.out⟩
          case measure => simp; omega
        · have hj3 : j < 4 := by omega
          obtain ⟨d, hd⟩ : ∃ d, d = e % 10 := ⟨_, rfl⟩
          obtain ⟨e2, he2⟩ : ∃ e2, e2 = e / 10 := ⟨_, rfl⟩
          have hd9 : d < 10 := by omega
          have hrem : ((e : Nat) : Int).tmod 10 = (d : Int) := by rw [Int.tmod_eq_emod_of_nonneg (by omega)]; omega
          have hquo : ((e : Nat) : Int).tdiv 10 = (e2 : Int) := by rw [Int.tdiv_eq_ediv_of_nonneg (by omega)]; omega
          have he3 : e2 < 10000 := by omega
          have hnew : bN (B ++ (dd j k).reverse) ++ [48 + d] = bN (B ++ (dd (j + 1) k).reverse) := by
            rw [dd_cons, List.reverse_cons, ← List.append_assoc, bN_app]
            rw [bN_app (B ++ (dd j k).reverse), bN_app]
            have h48 : bN [db (k / 10 ^ j % 10)] = [48 + d] := by
              show [(db (k / 10 ^ j % 10)).toNat] = _
              rw [db_nat (by omega), hd, HE.out]
            rw [h48]
          have hE2 : Hid (e2 = k / 10 ^ (j + 1)) := by
            show _ = _
            rw [he2, HE.out, Nat.div_div_eq_div_mul, Nat.pow_succ]
          have HNEW := Lib.hid hnew
          have hlq := how.len_
          have HLQ := Lib.hid hlq
          have HB2 := Lib.hid hb
          clear hnew hlq hd he2 hb
          have hsz := HB2.out.size
          go_wp2_with (at_builtin; refine wpList_append_nums _ rfl (.tmp 23) (.tmp 28) 49 rfl w.heap.size 5 .u8 1 Tryz.underlying49 info8 (.slice Aq nq cq) _ rfl (how.below (alloc_below _ _)) _ 1 _ [48 + d] rfl (lit8 wr (48 + d) (by omega)) (by rw [HLQ.out]; have := HNQ.out; omega) (by omega) (by simp; omega) ?_; intro v2 w2 how2 hg2; rw [HNEW.out] at how2; obtain ⟨A2, n2, c2, rfl, hs2⟩ := how2.reads_n; obtain rfl : n2 = nq + 1 := (by have h1 := how2.len_; rw [← HNEW.out, List.length_append, HLQ.out] at h1; exact h1.symm))
          have hnq2 := HNQ.out
          have hs3 := ow_grown (hs.below (alloc_below _ _)) (how.below (alloc_below _ _)) (by decide) hg2
          have hb3 := (HB2.out.trans ((alloc_below wr (.cells #[.int .u8 (48 + (d : Int))] 5)).mono HB2.out.size)).grown hg2 (by have := (alloc_below wr (.cells #[.int .u8 (48 + (d : Int))] 5)).size; omega) (fun g hg => how.base_ g hg)
          go_roundw
          case rel => exact ⟨j + 1, e2, A2, _, c2, rfl, rfl, rfl, by omega, hE2, he3, by unfold Hid; omega, how2, hs3, hb3⟩
          case measure => simp [intOf]; omega
end Go.Proofs.YtkanddmihmdagaaGreatDoor.Rw

/- The document's answer of layer 2, on: times. -/
namespace Go.Proofs.YtkanddmihmdagaaGreatDoor.Rw
open Go.RowKit Go.Proofs.YtkanddmihmdagaaGreatDoor.Dig Go.Proofs.YtkanddmihmdagaaGreatDoor.W Go.Proofs.YtkanddmihmdagaaGreatDoor.Nat Go.Proofs.YtkanddmihmdagaaGreatDoor.Wh Go.Proofs.YtkanddmihmdagaaGreatDoor.Td
open Go.Proofs.YtkanddmihmdagaaGreatDoor.Rf (V V_two V_pos)

/-- the word of one digit -/
def tw (x cy : Nat) : Nat := x * 10 + cy
structure TM (l o : List Nat) (d i cy : Nat) : Prop where
  inv : val V o + V ^ o.length * cy = pv V l i * 10 + d
  lt : Lt V o
  len : o.length = i
  cl : cy < 10
theorem TM.start (l : List Nat) {d : Nat} (hd : d < 10) : TM l [] d 0 d := ⟨by simp [val_nil, pv], fun x hx => by simp at hx, rfl, hd⟩
theorem TM.round {l o : List Nat} {d i cy : Nat} (h : TM l o d i cy) (hl : Lt V l) : TM l (o ++ [tw (rd l i) cy % 65536]) d (i + 1) (tw (rd l i) cy / 65536) := by
  have hx := rd_lt hl V_pos i
  have hV : V = 65536 := rfl
  have hc := h.cl
  refine ⟨?_, snoc_lt h.lt (by rw [hV]; omega), by rw [List.length_append, h.len]; rfl, ?_⟩
  · rw [val_snoc, List.length_append, List.length_singleton, Nat.pow_succ, pv, Nat.mul_assoc, Nat.add_assoc, ← Nat.mul_add, hV]
    have e : tw (rd l i) cy % 65536 + 65536 * (tw (rd l i) cy / 65536) = tw (rd l i) cy := Nat.mod_add_div _ _
    rw [e]
    have e2 := h.inv
    rw [hV, h.len] at e2
    rw [h.len]
    unfold tw
    rw [Nat.mul_add, Nat.add_mul, Nat.add_right_comm, ← e2, Nat.mul_comm (65536 ^ i) (rd l i * 10), Nat.mul_assoc, Nat.mul_comm 10, ← Nat.mul_assoc, Nat.mul_comm (rd l i)]
    omega
  · unfold tw; rw [hV] at hx; omega
theorem own_empty32 (w : World) : Ow (w.alloc (.cells #[] 129)) w.heap.size 129 .u32 (.slice (some ⟨w.heap.size, 0, none⟩) 0 0) [] :=
  ⟨rfl, .inr ⟨w.heap.size, 0, #[], rfl, Nat.le_refl _, heap_alloc_new w _, Nat.le_refl _, by unfold maxLen; omega, rfl, rfl⟩⟩
theorem lit32 (w : World) (x : Nat) {z : Int} (hz : z = x) : SI (w.alloc (.cells #[.int .u32 z] 129)) .u32 (some ⟨w.heap.size, 0, none⟩) 1 1 [x] := by
  subst hz
  exact ⟨rfl, Nat.le_refl _, by omega, fun _ => ⟨w.heap.size, 0, rfl, fun j u hu => by
    rw [World.cell?, show (w.alloc (.cells #[.int .u32 (x : Nat)] 129)).heap[w.heap.size]? = _ from heap_alloc_new w _]
    simpa [nums] using hu⟩⟩
set_option maxHeartbeats 4000000 in
set_option maxRecDepth 100000 in
theorem times_calls (A : Option Addr) (n c : Nat) (l : List Nat) (d : Nat) (w : World) (h : SI w .u32 A n c l) (hl : Lt V l) (hn : n ≤ 1099511627776) (hd : d < 10) :
    Calls Tryz.prog 114 #[.slice A n c, .int .u32 10, .int .u32 (d : Nat)] w fun e w' => ∃ A1 n1 c1 L, e = .returned (.slice A1 n1 c1) ∧ SI w' .u32 A1 n1 c1 L ∧ Lt V L ∧ val V L = val V l * 10 + d ∧ n1 ≤ n + 1 ∧ Below w.heap.size w w' := by
  have hL := Lib.hid h.len
  have hc := Sl.le h
  have hcm := Sl.cap h
  go_enter Tryz.func114, Tryz.ntmps114
  go_wp2
  go_loopw [7, 8, 9] (fun p cv z wr => ∃ (i cy : Nat) (o : List Nat) (Ao : Option Addr) (no co : Nat), p = .slice Ao no co ∧ cv = .int .u64 (cy : Nat) ∧ z = .int .i64 (i : Nat) ∧ i ≤ n ∧ TM l o d i cy ∧ Ow wr w.heap.size 129 .u32 (.slice Ao no co) o ∧ Below w.heap.size w wr) (fun _ _ z _ => n - (intOf z).toNat)
  case atStart => exact ⟨0, d, [], _, _, _, rfl, rfl, rfl, Nat.zero_le _, TM.start l hd, own_empty32 w, alloc_below w _⟩
  case round =>
    obtain ⟨i, cy, o, Ao, no, co, rfl, rfl, rfl, hi, hT, how, hb⟩ := hrel
    by_cases hin : i < n
    · obtain ⟨b, a, rfl, hc0⟩ := (h.below hb).at_ hin
      have hx := rd_lt hl V_pos i
      have hnew := hT.round hl
      have hcy := hT.cl
      have htl := hT.len
      have hV : V = 65536 := rfl
      rw [hV] at hx
      obtain ⟨x, hxx⟩ : ∃ x, rd l i = x := ⟨_, rfl⟩
      rw [hxx] at hx hnew hc0
      have hmask := Rf.mask16 (x := tw x cy) (by unfold tw U; omega)
      have htw : ((x : Int) * 10 + (cy : Int)) = ((tw x cy : Nat) : Int) := by unfold tw; omega
      have htl2 : tw x cy < 655370 := by unfold tw; omega
      obtain ⟨T, hTT⟩ : ∃ T, tw x cy = T := ⟨_, rfl⟩
      rw [hTT] at hmask htw hnew htl2
      have HN := Lib.hid hnew
      have HB := Lib.hid hb
      have HTL := Lib.hid htl
      obtain ⟨q, hq⟩ : ∃ q, T / 65536 = q := ⟨_, rfl⟩
      rw [hq] at HN
      have hshr : (T : Int) / 65536 = (q : Int) := by omega
      have hlen := how.len_
      clear hxx hTT hT hb hnew htl hV hq
      go_wp2_with (at_builtin; refine wpList_append_nums _ rfl (.tmp 30) (.tmp 34) 56 rfl w.heap.size 129 .u32 4 Tryz.underlying56 Rf.info32 (.slice Ao no co) _ rfl (how.below (alloc_below _ _)) _ 1 _ [T % 65536] rfl (lit32 wr (T % 65536) (by omega)) (by have := HTL.out; omega) (by omega) (by have := HB.out.size; simp; omega) ?_; intro v2 w2 how2 hg2; obtain ⟨A2, n2, c2, rfl, hs2⟩ := how2.reads_n)
      have hb3 := (HB.out.trans ((alloc_below wr (.cells #[.int .u32 ((T : Int) % 65536)] 129)).mono HB.out.size)).grown hg2 (by have := HB.out.size; have := (alloc_below wr (.cells #[.int .u32 ((T : Int) % 65536)] 129)).size; omega) (fun g hg => how.base_ g hg)
      go_roundw
      case rel => exact ⟨i + 1, q, _, A2, n2, c2, rfl, rfl, rfl, by omega, HN.out, how2, hb3⟩
      case measure => simp [intOf]; omega
    · obtain rfl : i = n := by omega
      have hfin := hT.inv
      rw [pv_take, List.take_of_length_le (by rw [hL.out]; omega)] at hfin
      have hcy := hT.cl
      have hlt := hT.lt
      have hno : no = i := by have := how.len_; have := hT.len; omega
      have HF := Lib.hid hfin
      have HW := Lib.hid hb
      have HLT := Lib.hid hlt
      have HO := Lib.hid how
      clear hfin hT hlt h hc
      obtain ⟨TT, hTT⟩ : ∃ TT, val V l * 10 + d = TT := ⟨_, rfl⟩
      rw [hTT] at HF
      have HTT := Lib.hid hTT
      clear hTT how hb
      go_wp2
      go_loopw [7, 8] (fun p cv wr => ∃ (cy : Nat) (o : List Nat) (Ao : Option Addr) (no co : Nat), p = .slice Ao no co ∧ cv = .int .u64 (cy : Nat) ∧ cy < 10 ∧ Hid (val V o + V ^ o.length * cy = TT) ∧ Hid (Lt V o) ∧ (no ≤ i ∨ (cy = 0 ∧ no ≤ i + 1)) ∧ Ow wr w.heap.size 129 .u32 (.slice Ao no co) o ∧ Below w.heap.size w wr) (fun _ cv _ => (intOf cv).toNat)
      case atStart => exact ⟨cy, o, Ao, no, co, rfl, rfl, hcy, HF.out, HLT.out, .inl (by omega), HO.out, HW.out⟩
      case round =>
        clear HF HLT HO HW hcy hno
        obtain ⟨cy, o, Ao, no, co, rfl, rfl, hcy, HF, HLT, hno, how, hb⟩ := hrel
        rcases Nat.eq_zero_or_pos cy with hz | hz
        · subst hz
          have hs : SI wr .u32 Ao no co o := by
            obtain ⟨A', n', c', e, hsi⟩ := how.reads_n
            injection e with e1 e2 e3
            subst e1; subst e2; subst e3
            exact hsi
          have hv := HF.out
          rw [Nat.mul_zero, Nat.add_zero] at hv
          have HV := Lib.hid hv
          have HSI := Lib.hid hs
          have HB := Lib.hid hb
          have hno2 : no ≤ i + 1 := by omega
          clear hv hs how hb hno
          go_wp2
          go_ret
          exact ⟨Ao, no, co, o, rfl, HSI.out, HLT.out, HV.out.trans HTT.out.symm, hno2, HB.out⟩
        · have hlen := how.len_
          have hno2 : no ≤ i := by omega
          have hmask := Rf.mask16 (x := cy) (by unfold U; omega)
          rw [Nat.mod_eq_of_lt (by omega)] at hmask
          have hshr : (cy : Int) / 65536 = 0 := by omega
          have hmod : (cy : Int) % 65536 = (cy : Int) := by omega
          have hnewv : Hid (val V (o ++ [cy]) + V ^ (o ++ [cy]).length * 0 = TT) := by
            show _ = _
            rw [val_snoc, Nat.mul_zero, Nat.add_zero]; exact HF.out
          have hnewl : Hid (Lt V (o ++ [cy])) := snoc_lt HLT.out (by have hV : V = 65536 := rfl; omega)
          have HB := Lib.hid hb
          have HL2 := Lib.hid hlen
          clear hno hlen
          go_wp2_with (at_builtin; refine wpList_append_nums _ rfl (.tmp 40) (.tmp 44) 56 rfl w.heap.size 129 .u32 4 Tryz.underlying56 Rf.info32 (.slice Ao no co) _ rfl (how.below (alloc_below _ _)) _ 1 _ [cy] rfl (lit32 wr cy rfl) (by have := HL2.out; omega) (by omega) (by have := HB.out.size; simp; omega) ?_; intro v2 w2 how2 hg2; obtain ⟨A2, n2, c2, rfl, hs2⟩ := how2.reads_n)
          have hn2 := how2.len_
          rw [List.length_append, HL2.out, List.length_singleton] at hn2
          have hb3 := (HB.out.trans ((alloc_below wr (.cells #[.int .u32 (cy : Int)] 129)).mono HB.out.size)).grown hg2 (by have := HB.out.size; have := (alloc_below wr (.cells #[.int .u32 (cy : Int)] 129)).size; omega) (fun g hg => how.base_ g hg)
          go_roundw
          case rel => exact ⟨0, _, A2, n2, c2, rfl, rfl, by omega, hnewv, hnewl, .inr ⟨rfl, by omega⟩, how2, hb3⟩
          case measure => simp [intOf]; omega
end Go.Proofs.YtkanddmihmdagaaGreatDoor.Rw

/- Layer 2, on: Parse. -/
namespace Go.Proofs.YtkanddmihmdagaaGreatDoor.Tx
open Go.RowKit Go.Proofs.YtkanddmihmdagaaGreatDoor.Dig Go.Proofs.YtkanddmihmdagaaGreatDoor.W Go.Proofs.YtkanddmihmdagaaGreatDoor.Nat Go.Proofs.YtkanddmihmdagaaGreatDoor.Wh Go.Proofs.YtkanddmihmdagaaGreatDoor.Td Go.Proofs.YtkanddmihmdagaaGreatDoor.Bu

def digset : List UInt8 := [48, 49, 50, 51, 52, 53, 54, 55, 56, 57]
theorem digset_has (b : UInt8) : digset.contains b = decide (isDig b) := by
  have h : ∀ n : Fin 256, digset.contains (UInt8.ofNat n.val) = decide (isDig (UInt8.ofNat n.val)) := by decide +kernel
  have e := h ⟨b.toNat, b.toNat_lt⟩
  rwa [UInt8.ofNat_toNat] at e
theorem dropWhile_nil {p : UInt8 → Bool} : ∀ {l : List UInt8}, l.dropWhile p = [] ↔ ∀ x ∈ l, p x = true
  | [] => by simp
  | x :: l => by
    cases h : p x with
    | true => rw [List.dropWhile_cons_of_pos h, dropWhile_nil]; simp [h]
    | false => rw [List.dropWhile_cons_of_neg (by simp [h])]; simp [h]
theorem trim_all {l : List UInt8} (h : ∀ b ∈ l, isDig b) : Lib.trimS l digset = [] := by
  unfold Lib.trimS Lib.trimRightS Lib.trimLeftS
  have : l.reverse.dropWhile (digset.contains ·) = [] := by
    rw [dropWhile_nil]
    intro b hb
    rw [digset_has, decide_eq_true (h b (by simpa using hb))]
  rw [this]
  rfl
theorem takeWhile_has {p : UInt8 → Bool} {b : UInt8} : ∀ {l : List UInt8}, b ∈ l.takeWhile p → p b = true
  | [], h => by simp at h
  | x :: l, h => by
    cases hx : p x with
    | true =>
      rw [List.takeWhile_cons_of_pos hx, List.mem_cons] at h
      rcases h with rfl | h
      · exact hx
      · exact takeWhile_has h
    | false => rw [List.takeWhile_cons_of_neg (by simp [hx])] at h; simp at h
theorem trim_some {l : List UInt8} (h : ¬ ∀ b ∈ l, isDig b) : (Lib.trimS l digset).isEmpty = false := by
  rw [Bool.eq_false_iff]
  intro he
  apply h
  rw [List.isEmpty_iff] at he
  unfold Lib.trimS Lib.trimRightS Lib.trimLeftS at he
  rw [dropWhile_nil] at he
  intro b hb
  have hall : ∀ b ∈ l.reverse.dropWhile (digset.contains ·), isDig b := fun b hb => by
    have := he b (by simpa using hb)
    rw [digset_has] at this
    exact of_decide_eq_true this
  have hs := List.takeWhile_append_dropWhile (p := (digset.contains ·)) (l := l.reverse)
  have hb2 : b ∈ l.reverse := by simpa using hb
  rw [← hs, List.mem_append] at hb2
  rcases hb2 with h1 | h1
  · have := takeWhile_has h1
    rw [digset_has] at this
    exact of_decide_eq_true this
  · exact hall b h1
theorem trimset_calls (s : ByteArray) (hs : s.size ≤ 9223372036854775807) (w : World) :
    Calls Tryz.prog 32 #[.string s, .string ⟨#[48, 49, 50, 51, 52, 53, 54, 55, 56, 57]⟩] w fun e w' => e = .returned (.string ⟨(Lib.trimS s.data.toList digset).toArray⟩) ∧ Below w.heap.size w w' :=
  Any.strings_Trim_laid Tryz.lays160 (by kernel_rfl) s ⟨#[48, 49, 50, 51, 52, 53, 54, 55, 56, 57]⟩ w hs (by decide) (ascii_of_all (by decide))
theorem parse_long (s : ByteArray) (hs : 8192 < s.size) (hs2 : s.size ≤ 9223372036854775807) (w : World) :
    Calls Tryz.prog 51 #[.string s] w fun e w' => e = .returned (.tuple #[.slice none 0 0, .int .i64 21]) ∧ Below w.heap.size w w' := by
  have hd : decide ((8192 : Int) < (s.size : Int)) = true := decide_eq_true (by omega)
  go_enter Tryz.func51, Tryz.ntmps51
  go_wp2
  go_ret2
  exact ⟨rfl, Below.refl _ _⟩
/-- is it a numeral, as Parse takes it? -/
def Numeral (l : List UInt8) : Prop := (∀ b ∈ l, isDig b) ∧ ∃ c r, l = c :: r ∧ (c ≠ 48 ∨ r = [])
theorem empty_of {s : ByteArray} (h : s.size = 0) : s.toList.isEmpty = true := by
  rw [Lib.toList_data, List.isEmpty_iff]
  exact List.eq_nil_of_length_eq_zero (by rw [← Lib.size_eq]; exact h)
theorem not_empty_of {s : ByteArray} (h : 0 < s.size) : s.toList.isEmpty = false := by
  rw [Lib.toList_data, Bool.eq_false_iff]
  intro he
  rw [List.isEmpty_iff] at he
  have := Lib.size_eq s
  rw [he, List.length_nil] at this
  omega
theorem first_of {s : ByteArray} (h : 0 < s.size) {c : UInt8} {r : List UInt8} (hl : s.data.toList = c :: r) : s[0] = c := by
  show s.data[0] = c
  have h2 : s.data.toList[0]? = some c := by rw [hl]; rfl
  rw [Array.getElem?_toList] at h2
  exact (Array.getElem?_eq_some_iff.1 h2).2
set_option maxRecDepth 100000 in
theorem parse_bad (s : ByteArray) (hs : s.size ≤ 8192) (hb : ¬ Numeral s.data.toList) (w : World) :
    Calls Tryz.prog 51 #[.string s] w fun e w' => e = .returned (.tuple #[.slice none 0 0, .int .i64 20]) ∧ Below w.heap.size w w' := by
  have hT := trimset_calls s (by omega) w
  have hd : decide ((8192 : Int) < (s.size : Int)) = false := decide_eq_false (by omega)
  by_cases hall : ∀ b ∈ s.data.toList, isDig b
  · rw [trim_all hall] at hT
    have HT := Lib.hid hT
    clear hT
    rcases Nat.eq_zero_or_pos s.size with h0 | h0
    · have he := empty_of h0
      clear hall hb
      go_enter Tryz.func51, Tryz.ntmps51
      go_wp2_with (go_at_call 32; (with_reducible refine HT.out.mono ?_); rintro e w1 ⟨rfl, b1⟩)
      all_goals (go_ret2; exact ⟨rfl, b1⟩)
    · have he := not_empty_of h0
      obtain ⟨c, r, hl⟩ : ∃ c r, s.data.toList = c :: r := by
        cases hl : s.data.toList with
        | nil => have := Lib.size_eq s; rw [hl, List.length_nil] at this; omega
        | cons c r => exact ⟨c, r, rfl⟩
      have hc : c = 48 ∧ r ≠ [] := ⟨Classical.byContradiction fun hc => hb ⟨hall, c, r, hl, .inl hc⟩, fun hr => hb ⟨hall, c, r, hl, .inr hr⟩⟩
      obtain ⟨rfl, hr⟩ := hc
      have hz : (s[0].toNat : Int) = 48 := by rw [first_of h0 hl]; rfl
      have hn : (s.toList == [48]) = false := by
        rw [beq_eq_false_iff_ne, Lib.toList_data, hl]
        intro e
        injection e with _ e
        exact hr e
      clear hall hb hr hl
      go_enter Tryz.func51, Tryz.ntmps51
      go_wp2_with (go_at_call 32; (with_reducible refine HT.out.mono ?_); rintro e w1 ⟨rfl, b1⟩)
      all_goals (go_ret2; exact ⟨rfl, b1⟩)
  · have he := trim_some hall
    generalize Lib.trimS s.data.toList digset = D at *
    have HT := Lib.hid hT
    clear hT hall hb
    go_enter Tryz.func51, Tryz.ntmps51
    go_wp2_with (go_at_call 32; (with_reducible refine HT.out.mono ?_); rintro e w1 ⟨rfl, b1⟩)
    go_ret2
    exact ⟨rfl, b1⟩
theorem head_list (s : ByteArray) (k : Nat) : (s.extract 0 k).data.toList = s.data.toList.take k := by
  rw [ByteArray.data_extract, Array.toList_extract]
  simp [List.extract_eq_take_drop]
theorem tail_list (s : ByteArray) (k : Nat) : (s.extract k s.size).data.toList = s.data.toList.drop k := by
  rw [Lib.extract_from]
theorem pu_calls (s : ByteArray) (k : Nat) (h1 : 0 < k) (h2 : k ≤ s.size) (h3 : k ≤ 18) (hd : ∀ b ∈ s.data.toList, isDig b) (w : World) :
    Calls Tryz.prog 90 #[.string (s.extract 0 k), .int .i64 10, .int .i64 64] w fun e w' => e = .returned (.tuple #[.int .u64 (nv 0 (s.data.toList.take k) : Nat), .nilIface]) ∧ Below w.heap.size w w' := by
  have hl : (s.data.toList.take k).length = k := by rw [List.length_take, ← Lib.size_eq]; omega
  have hp : Lib.parseUintB 64 (s.extract 0 k).data.toList = .ok (nv 0 (s.data.toList.take k)) := by
    rw [head_list]
    exact parse_dig (fun b hb => hd b (List.mem_of_mem_take hb)) (fun e => by rw [e] at hl; simp at hl; omega) (by omega)
  have hsz : (s.extract 0 k).size = k := by rw [Lib.size_eq, head_list, hl]
  refine (Tryz.strconv_ParseUint_10_at64_ok (s.extract 0 k) (by omega) _ hp w).mono ?_
  rintro e w' ⟨rfl, h⟩
  refine ⟨rfl, ?_⟩
  rcases h with rfl | rfl
  · exact Below.refl _ _
  · exact Joins.below_bytesWorld _ w _ _ (Nat.le_refl _)
theorem pow10_calls (k : Nat) (w : World) (hk : k ≤ 18) : Calls Tryz.prog 92 #[.int .u64 10, .int .i64 (k : Nat)] w (Gives w .u64 (digs U (10 ^ k))) := power_calls 10 k w (by omega) (by omega) (by omega)
theorem nv_short {l : List UInt8} (h : ∀ b ∈ l, isDig b) (hl : l.length ≤ 8192) : (digs U (nv 0 l)).length ≤ 8192 := pow_short (a := 10) (Nat.le_refl _) hl (Nat.le_of_lt (nv_lt h))
set_option maxHeartbeats 4000000 in
set_option maxRecDepth 100000 in
theorem parse_ok1 (s : ByteArray) (hs : s.size ≤ 8192) (h0 : 0 < s.size) (hall : ∀ b ∈ s.data.toList, isDig b) (hz : ¬ (s[0].toNat : Int) = 48) (w : World) :
    Calls Tryz.prog 51 #[.string s] w fun e w' => ∃ A n c, e = .returned (.tuple #[.slice A n c, .int .i64 0]) ∧ SI w' .u64 A n c (digs U (nv 0 s.data.toList)) ∧ Below w.heap.size w w' := by
  have hT := trimset_calls s (by omega) w
  have hd : decide ((8192 : Int) < (s.size : Int)) = false := decide_eq_false (by omega)
  rw [trim_all hall] at hT
  have HT := Lib.hid hT
  have HA := Lib.hid hall
  have he := not_empty_of h0
  have HL := Lib.hid (Lib.size_eq s)
  clear hT hall
  go_enter Tryz.func51, Tryz.ntmps51
  go_wp2_with (go_at_call 32; (with_reducible refine HT.out.mono ?_); rintro e w1 ⟨rfl, b1⟩)
  go_loopw [0, 4] (fun z p wr => ∃ (s' : ByteArray) (pre : List UInt8) (Ao : Option Addr) (no co : Nat), z = .string s' ∧ p = .slice Ao no co ∧ Hid (s.data.toList = pre ++ s'.data.toList) ∧ SI wr .u64 Ao no co (digs U (nv 0 pre)) ∧ Below w.heap.size w wr) (fun z _ _ => match z with | .string s => s.size | _ => 0)
  case atStart => exact ⟨s, [], none, 0, 0, rfl, rfl, rfl, by rw [nv_nil, digs_zero]; exact SI.nil _ _ _ _ (by omega), b1⟩
  case round =>
    obtain ⟨s', pre, Ao, no, co, rfl, rfl, HS, hr, hb⟩ := hrel
    rcases Nat.eq_zero_or_pos s'.size with h1 | h1
    · have he' := empty_of h1
      have hfin : nv 0 s.data.toList = nv 0 pre := by
        rw [HS.out, List.eq_nil_of_length_eq_zero (l := s'.data.toList) (by rw [← Lib.size_eq]; exact h1), List.append_nil]
      have HF := Lib.hid hfin
      clear hfin
      go_wp2
      go_ret2
      exact ⟨_, _, _, rfl, by rw [HF.out]; exact hr, hb⟩
    · have he' := not_empty_of h1
      obtain ⟨k, hk⟩ : ∃ k, min s'.size 18 = k := ⟨_, rfl⟩
      have hk1 : k ≤ s'.size := by omega
      have hk2 : k ≤ 18 := by omega
      have hk3 : 0 < k := by omega
      have hmin : min (s'.size : Int) 18 = (k : Int) := by omega
      clear hk
      have hd' : ∀ b ∈ s'.data.toList, isDig b := fun b hb => HA.out b (by rw [HS.out]; simp [hb])
      have hpd : ∀ b ∈ pre, isDig b := fun b hb => HA.out b (by rw [HS.out]; simp [hb])
      have hpre2 : pre.length + s'.size ≤ 8192 := by have := HS.out; have h2 := congrArg List.length this; rw [List.length_append, ← Lib.size_eq, ← Lib.size_eq] at h2; omega
      have hL1 := nv_short hpd (by omega)
      have hL2 : (digs U (nv 0 (pre ++ s'.data.toList.take k))).length ≤ 8192 := nv_short (fun b hb => by
        rw [List.mem_append] at hb
        rcases hb with hb | hb
        · exact hpd b hb
        · exact hd' b (List.mem_of_mem_take hb)) (by rw [List.length_append, List.length_take]; omega)
      have hval : nv 0 pre * 10 ^ k + nv 0 (s'.data.toList.take k) = nv 0 (pre ++ s'.data.toList.take k) := by
        rw [nv_append, nv_acc (nv 0 pre), List.length_take, ← Lib.size_eq, Nat.min_eq_left hk1]
      have hu : nv 0 (s'.data.toList.take k) < U := by
        refine Nat.lt_trans (nv_lt (fun b hb => hd' b (List.mem_of_mem_take hb))) ?_
        have : (s'.data.toList.take k).length ≤ 18 := by rw [List.length_take]; omega
        exact Nat.lt_of_le_of_lt (Nat.pow_le_pow_right (by omega) this) (by decide)
      have HP := Lib.hid (fun w1 => pu_calls s' k hk3 hk1 hk2 hd' w1)
      have HSN : Hid (s.data.toList = (pre ++ s'.data.toList.take k) ++ (s'.extract k s'.size).data.toList) := by
        show _ = _
        rw [tail_list, List.append_assoc, List.take_append_drop]; exact HS.out
      have htl : (s'.extract k s'.size).size = s'.size - k := by rw [Lib.size_eq, tail_list, List.length_drop, ← Lib.size_eq]
      have HTL := Lib.hid htl
      have hL3 : (digs U (10 ^ k)).length ≤ 8192 := pow_short (a := 10) (Nat.le_refl _) (by omega : k ≤ 8192) (Nat.le_refl _)
      have hL4 : (digs U (nv 0 pre * 10 ^ k)).length ≤ 8192 := digs_bound (Nat.le_add_right _ (nv 0 (s'.data.toList.take k))) (by rw [hval]; exact hL2)
      have hL5 : (digs U (nv 0 (s'.data.toList.take k))).length ≤ 8192 := digs_bound (Nat.le_add_left _ (nv 0 pre * 10 ^ k)) (by rw [hval]; exact hL2)
      have HV := Lib.hid hval
      have H1 := Lib.hid hL1
      have H3 := Lib.hid hL3
      have H4 := Lib.hid hL4
      have H5 := Lib.hid hL5
      clear hd' hpd htl hL1 hL2 hL3 hL4 hL5 hval HS h1
      obtain ⟨N, hN⟩ : ∃ N, nv 0 (pre ++ s'.data.toList.take k) = N := ⟨_, rfl⟩
      rw [hN] at HV
      have HNN := Lib.hid hN
      clear hN
      generalize nv 0 (s'.data.toList.take k) = u at *
      go_wp2_with (first
        | (go_at_call 90; (with_reducible refine (HP.out wr).mono ?_); rintro e w2 ⟨rfl, b2⟩)
        | (go_at_call 92; (with_reducible refine (pow10_calls k w2 hk2).mono ?_); rintro e w3 ⟨A3, n3, c3, rfl, r3, b3⟩)
        | (go_at_call 52; (with_reducible refine (mul_d Ao A3 no co n3 c3 _ _ w3 ((hr.below b2).below b3) r3 (by rw [← hr.len]; have := H1.out; omega) (by rw [← r3.len]; have := H3.out; omega)).mono ?_); rintro e w4 ⟨v4, rfl, o4, b4⟩; obtain ⟨A4, n4, c4, rfl, r4⟩ := o4.reads_n)
        | (go_at_call 82; (with_reducible refine (of_calls u w4 hu).mono ?_); rintro e w5 ⟨v5, rfl, o5, b5⟩; obtain ⟨A5, n5, c5, rfl, r5⟩ := o5.reads_n)
        | (go_at_call 91; (with_reducible refine (add_d A4 A5 n4 c4 n5 c5 _ _ 8192 w5 (r4.below b5) r5 (by omega) H4.out H5.out).mono ?_); rintro e w6 ⟨v6, rfl, o6, b6⟩; obtain ⟨A6, n6, c6, rfl, r6⟩ := o6.reads_n))
      rw [HV.out, ← HNN.out] at r6
      have s2 := b2.size
      have s3 := b3.size
      have s4 := b4.size
      have s5 := b5.size
      have s0 := hb.size
      go_roundw
      case rel => exact ⟨_, _, A6, n6, c6, rfl, rfl, HSN, r6, ((((hb.trans (b2.mono s0)).trans (b3.mono (by omega))).trans (b4.mono (by omega))).trans (b5.mono (by omega))).trans (b6.mono (by omega))⟩
      case measure =>
        have := HTL.out
        simp
        omega
set_option maxHeartbeats 4000000 in
set_option maxRecDepth 100000 in
theorem parse_ok2 (s : ByteArray) (hs : s.size ≤ 8192) (h0 : 0 < s.size) (hall : ∀ b ∈ s.data.toList, isDig b) (hz : (s[0].toNat : Int) = 48) (hn : (s.toList == [48]) = true) (w : World) :
    Calls Tryz.prog 51 #[.string s] w fun e w' => ∃ A n c, e = .returned (.tuple #[.slice A n c, .int .i64 0]) ∧ SI w' .u64 A n c (digs U (nv 0 s.data.toList)) ∧ Below w.heap.size w w' := by
  have hT := trimset_calls s (by omega) w
  have hd : decide ((8192 : Int) < (s.size : Int)) = false := decide_eq_false (by omega)
  rw [trim_all hall] at hT
  have HT := Lib.hid hT
  have HA := Lib.hid hall
  have he := not_empty_of h0
  have HL := Lib.hid (Lib.size_eq s)
  clear hT hall
  go_enter Tryz.func51, Tryz.ntmps51
  go_wp2_with (go_at_call 32; (with_reducible refine HT.out.mono ?_); rintro e w1 ⟨rfl, b1⟩)
  go_loopw [0, 4] (fun z p wr => ∃ (s' : ByteArray) (pre : List UInt8) (Ao : Option Addr) (no co : Nat), z = .string s' ∧ p = .slice Ao no co ∧ Hid (s.data.toList = pre ++ s'.data.toList) ∧ SI wr .u64 Ao no co (digs U (nv 0 pre)) ∧ Below w.heap.size w wr) (fun z _ _ => match z with | .string s => s.size | _ => 0)
  case atStart => exact ⟨s, [], none, 0, 0, rfl, rfl, rfl, by rw [nv_nil, digs_zero]; exact SI.nil _ _ _ _ (by omega), b1⟩
  case round =>
    obtain ⟨s', pre, Ao, no, co, rfl, rfl, HS, hr, hb⟩ := hrel
    rcases Nat.eq_zero_or_pos s'.size with h1 | h1
    · have he' := empty_of h1
      have hfin : nv 0 s.data.toList = nv 0 pre := by
        rw [HS.out, List.eq_nil_of_length_eq_zero (l := s'.data.toList) (by rw [← Lib.size_eq]; exact h1), List.append_nil]
      have HF := Lib.hid hfin
      clear hfin
      go_wp2
      go_ret2
      exact ⟨_, _, _, rfl, by rw [HF.out]; exact hr, hb⟩
    · have he' := not_empty_of h1
      obtain ⟨k, hk⟩ : ∃ k, min s'.size 18 = k := ⟨_, rfl⟩
      have hk1 : k ≤ s'.size := by omega
      have hk2 : k ≤ 18 := by omega
      have hk3 : 0 < k := by omega
      have hmin : min (s'.size : Int) 18 = (k : Int) := by omega
      clear hk
      have hd' : ∀ b ∈ s'.data.toList, isDig b := fun b hb => HA.out b (by rw [HS.out]; simp [hb])
      have hpd : ∀ b ∈ pre, isDig b := fun b hb => HA.out b (by rw [HS.out]; simp [hb])
      have hpre2 : pre.length + s'.size ≤ 8192 := by have := HS.out; have h2 := congrArg List.length this; rw [List.length_append, ← Lib.size_eq, ← Lib.size_eq] at h2; omega
      have hL1 := nv_short hpd (by omega)
      have hL2 : (digs U (nv 0 (pre ++ s'.data.toList.take k))).length ≤ 8192 := nv_short (fun b hb => by
        rw [List.mem_append] at hb
        rcases hb with hb | hb
        · exact hpd b hb
        · exact hd' b (List.mem_of_mem_take hb)) (by rw [List.length_append, List.length_take]; omega)
      have hval : nv 0 pre * 10 ^ k + nv 0 (s'.data.toList.take k) = nv 0 (pre ++ s'.data.toList.take k) := by
        rw [nv_append, nv_acc (nv 0 pre), List.length_take, ← Lib.size_eq, Nat.min_eq_left hk1]
      have hu : nv 0 (s'.data.toList.take k) < U := by
        refine Nat.lt_trans (nv_lt (fun b hb => hd' b (List.mem_of_mem_take hb))) ?_
        have : (s'.data.toList.take k).length ≤ 18 := by rw [List.length_take]; omega
        exact Nat.lt_of_le_of_lt (Nat.pow_le_pow_right (by omega) this) (by decide)
      have HP := Lib.hid (fun w1 => pu_calls s' k hk3 hk1 hk2 hd' w1)
      have HSN : Hid (s.data.toList = (pre ++ s'.data.toList.take k) ++ (s'.extract k s'.size).data.toList) := by
        show _ = _
        rw [tail_list, List.append_assoc, List.take_append_drop]; exact HS.out
      have htl : (s'.extract k s'.size).size = s'.size - k := by rw [Lib.size_eq, tail_list, List.length_drop, ← Lib.size_eq]
      have HTL := Lib.hid htl
      have hL3 : (digs U (10 ^ k)).length ≤ 8192 := pow_short (a := 10) (Nat.le_refl _) (by omega : k ≤ 8192) (Nat.le_refl _)
      have hL4 : (digs U (nv 0 pre * 10 ^ k)).length ≤ 8192 := digs_bound (Nat.le_add_right _ (nv 0 (s'.data.toList.take k))) (by rw [hval]; exact hL2)
      have hL5 : (digs U (nv 0 (s'.data.toList.take k))).length ≤ 8192 := digs_bound (Nat.le_add_left _ (nv 0 pre * 10 ^ k)) (by rw [hval]; exact hL2)
      have HV := Lib.hid hval
      have H1 := Lib.hid hL1
      have H3 := Lib.hid hL3
      have H4 := Lib.hid hL4
      have H5 := Lib.hid hL5
      clear hd' hpd htl hL1 hL2 hL3 hL4 hL5 hval HS h1
      obtain ⟨N, hN⟩ : ∃ N, nv 0 (pre ++ s'.data.toList.take k) = N := ⟨_, rfl⟩
      rw [hN] at HV
      have HNN := Lib.hid hN
      clear hN
      generalize nv 0 (s'.data.toList.take k) = u at *
      go_wp2_with (first
        | (go_at_call 90; (with_reducible refine (HP.out wr).mono ?_); rintro e w2 ⟨rfl, b2⟩)
        | (go_at_call 92; (with_reducible refine (pow10_calls k w2 hk2).mono ?_); rintro e w3 ⟨A3, n3, c3, rfl, r3, b3⟩)
        | (go_at_call 52; (with_reducible refine (mul_d Ao A3 no co n3 c3 _ _ w3 ((hr.below b2).below b3) r3 (by rw [← hr.len]; have := H1.out; omega) (by rw [← r3.len]; have := H3.out; omega)).mono ?_); rintro e w4 ⟨v4, rfl, o4, b4⟩; obtain ⟨A4, n4, c4, rfl, r4⟩ := o4.reads_n)
        | (go_at_call 82; (with_reducible refine (of_calls u w4 hu).mono ?_); rintro e w5 ⟨v5, rfl, o5, b5⟩; obtain ⟨A5, n5, c5, rfl, r5⟩ := o5.reads_n)
        | (go_at_call 91; (with_reducible refine (add_d A4 A5 n4 c4 n5 c5 _ _ 8192 w5 (r4.below b5) r5 (by omega) H4.out H5.out).mono ?_); rintro e w6 ⟨v6, rfl, o6, b6⟩; obtain ⟨A6, n6, c6, rfl, r6⟩ := o6.reads_n))
      rw [HV.out, ← HNN.out] at r6
      have s2 := b2.size
      have s3 := b3.size
      have s4 := b4.size
      have s5 := b5.size
      have s0 := hb.size
      go_roundw
      case rel => exact ⟨_, _, A6, n6, c6, rfl, rfl, HSN, r6, ((((hb.trans (b2.mono s0)).trans (b3.mono (by omega))).trans (b4.mono (by omega))).trans (b5.mono (by omega))).trans (b6.mono (by omega))⟩
      case measure =>
        have := HTL.out
        simp
        omega
theorem parse_good (s : ByteArray) (hs : s.size ≤ 8192) (h : Numeral s.data.toList) (w : World) :
    Calls Tryz.prog 51 #[.string s] w fun e w' => ∃ A n c, e = .returned (.tuple #[.slice A n c, .int .i64 0]) ∧ SI w' .u64 A n c (digs U (nv 0 s.data.toList)) ∧ Below w.heap.size w w' := by
  obtain ⟨hall, c, r, hl, hc⟩ := h
  have h0 : 0 < s.size := by rw [Lib.size_eq, hl, List.length_cons]; omega
  by_cases h48 : c = 48
  · subst h48
    have hr := hc.resolve_left (fun h => h rfl)
    subst hr
    exact parse_ok2 s hs h0 hall (by rw [first_of h0 hl]; rfl) (by rw [Lib.toList_data, hl]; rfl) w
  · refine parse_ok1 s hs h0 hall ?_ w
    rw [first_of h0 hl]
    intro e
    apply h48
    have : c.toNat = 48 := by omega
    rw [← UInt8.ofNat_toNat (x := c), this]
    rfl
end Go.Proofs.YtkanddmihmdagaaGreatDoor.Tx

/- The document's answer of layer 2, on: Of, Parse. -/
namespace Go.Proofs.YtkanddmihmdagaaGreatDoor.Rw
open Go.RowKit Go.Proofs.YtkanddmihmdagaaGreatDoor.Dig Go.Proofs.YtkanddmihmdagaaGreatDoor.W Go.Proofs.YtkanddmihmdagaaGreatDoor.Nat Go.Proofs.YtkanddmihmdagaaGreatDoor.Wh Go.Proofs.YtkanddmihmdagaaGreatDoor.Td Go.Proofs.YtkanddmihmdagaaGreatDoor.Tx
open Go.Proofs.YtkanddmihmdagaaGreatDoor.Rf (V V_two V_pos)

theorem byte_at {S : ByteArray} {i : Nat} (h : i < S.size) : ∃ c, S.data.toList[i]? = some c ∧ S[i] = c := by
  have h2 : i < S.data.toList.length := by rw [← Lib.size_eq]; exact h
  refine ⟨S.data.toList[i], List.getElem?_eq_getElem h2, ?_⟩
  show S.data[i] = _
  rw [Array.getElem_toList]
theorem nv_take {l : List UInt8} {i : Nat} {c : UInt8} (h : l[i]? = some c) : nv 0 (l.take (i + 1)) = nv 0 (l.take i) * 10 + (c.toNat - 48) := by
  rw [List.take_add_one, h, nv_append]
  show nv _ [c] = _
  rw [nv_cons, nv_nil]
set_option maxHeartbeats 4000000 in
set_option maxRecDepth 100000 in
theorem rof_calls (S : ByteArray) (hs : S.size ≤ 8192) (hall : ∀ b ∈ S.data.toList, isDig b) (w : World) :
    Calls Tryz.prog 75 #[.string S] w (Rf.GivesF w .u32 (digs V (nv 0 S.data.toList))) := by
  have HA := Lib.hid hall
  clear hall
  go_enter Tryz.func75, Tryz.ntmps75
  go_wp2
  go_loopw [3, 4] (fun p z wr => ∃ (i : Nat) (L : List Nat) (A : Option Addr) (n c : Nat), p = .slice A n c ∧ z = .int .i64 (i : Nat) ∧ i ≤ S.size ∧ SI wr .u32 A n c L ∧ Lt V L ∧ Hid (val V L = nv 0 (S.data.toList.take i)) ∧ n ≤ i ∧ Below w.heap.size w wr) (fun _ z _ => S.size - (intOf z).toNat)
  case atStart => exact ⟨0, [], _, _, _, rfl, rfl, Nat.zero_le _, Ow.si (own_empty32 w), fun x hx => by simp at hx, rfl, Nat.le_refl _, alloc_below w _⟩
  case round =>
    obtain ⟨i, L, A, n, c, rfl, rfl, hi, hr, hL, HV, hn, hb⟩ := hrel
    by_cases hin : i < S.size
    · obtain ⟨ch, hch, hSi⟩ := byte_at hin
      have hdg := HA.out ch (List.mem_of_getElem? hch)
      have hnext := nv_take hch
      unfold isDig at hdg
      obtain ⟨d, hd⟩ : ∃ d, ch.toNat = 48 + d := ⟨ch.toNat - 48, by omega⟩
      have hd9 : d < 10 := by omega
      rw [hd, Nat.add_sub_cancel_left, ← HV.out] at hnext
      have hc : (S[i].toNat : Int) = 48 + (d : Int) := by rw [hSi, hd]; omega
      have hT := times_calls A n c L d wr hr hL (by omega) hd9
      rw [show ((d : Nat) : Int) = 48 + (d : Int) - 48 by omega] at hT
      have HT := Lib.hid hT
      have HN := Lib.hid hnext
      have HB := Lib.hid hb
      clear hch hSi hdg hnext hd hr hL hb hT
      go_wp2_with (go_at_call 114; (with_reducible refine HT.out.mono ?_); rintro e w2 ⟨A2, n2, c2, L2, rfl, r2, l2, v2, k2, b2⟩)
      go_roundw
      case rel => exact ⟨i + 1, L2, A2, n2, c2, rfl, rfl, by omega, r2, l2, by rw [HN.out]; exact v2, by omega, HB.out.trans (b2.mono HB.out.size)⟩
      case measure => simp [intOf]; omega
    · obtain rfl : i = S.size := by omega
      have hfin := HV.out
      rw [List.take_of_length_le (by rw [← Lib.size_eq]; exact Nat.le_refl _)] at hfin
      have hA := Rf.add_calls A (some ⟨wr.heap.size, 0, none⟩) n c 0 0 L [] (wr.alloc (.cells #[] 129)) (hr.alloc _) (Ow.si (own_empty32 wr)) hL (fun x hx => by simp at hx) (by omega) (by omega)
      rw [val_nil, Nat.add_zero, hfin] at hA
      have HAD := Lib.hid hA
      have HB := Lib.hid hb
      clear hfin hA hr hL hb HV
      go_wp2_with (go_at_call 113; (with_reducible refine HAD.out.mono ?_); rintro e w2 ⟨A2, n2, c2, rfl, r2, f2, b2⟩)
      go_ret
      have hb2 := HB.out.trans (((alloc_below wr (.cells #[] 129)).trans (b2.mono (alloc_below wr _).size)).mono HB.out.size)
      exact ⟨A2, n2, c2, rfl, r2, fun b o s e => by have h1 := f2 b o s e; have h2 := HB.out.size; have h3 := (alloc_below wr (.cells #[] 129)).size; omega, hb2⟩
def PR (w : World) (S : ByteArray) (e : Ending) (w' : World) : Prop :=
  (Numeral S.data.toList → ∃ A n c, e = .returned (.tuple #[.slice A n c, .int .i64 0]) ∧ SI w' .u32 A n c (digs V (nv 0 S.data.toList)) ∧ Below w.heap.size w w') ∧
  (¬ Numeral S.data.toList → e = .returned (.tuple #[.slice none 0 0, .int .i64 20]) ∧ Below w.heap.size w w')
end Go.Proofs.YtkanddmihmdagaaGreatDoor.Rw

/- An order's law, on: two or three numbers may come up. -/
namespace Go.Un
variable {P : Program} {ops : Array Oper} {Q : Exit → Act → World → Prop} {md : Region.Mode} {S : World → Prop} {R : List Nat}

theorem two {i j : Nat} {oi oj : Oper} {fuel : Nat} {listed : Array Bool} {a : Act} {w : World} (hi : ops[i]? = some oi) (hj : ops[j]? = some oj) (hr : Region.ready md ops listed = [i, j])
    (h1 : ∀ K' : Act → World → Prop, Shut (∀ a w, (came R (listed.setIfInBounds i true) = false → S w) → wpAnyU P md ops Q S R fuel (listed.setIfInBounds i true) a w → K' a w) → if Region.wanted oi (yielded ops a.tmps) = true then Oper.wp P oi a w K' Q else K' (a.put oi.dst undef) w)
    (h2 : ∀ K' : Act → World → Prop, Shut (∀ a w, (came R (listed.setIfInBounds j true) = false → S w) → wpAnyU P md ops Q S R fuel (listed.setIfInBounds j true) a w → K' a w) → if Region.wanted oj (yielded ops a.tmps) = true then Oper.wp P oj a w K' Q else K' (a.put oj.dst undef) w) :
    wpAnyU P md ops Q S R (fuel + 1) listed a w :=
  all hr (by simp) (fun k hk => by
    rw [List.mem_cons, List.mem_singleton] at hk
    rcases hk with rfl | rfl
    · exact wpOp_step hi (fun K' hK => h1 K' (fun a w hS hW => hK a w ⟨hS, hW⟩))
    · exact wpOp_step hj (fun K' hK => h2 K' (fun a w hS hW => hK a w ⟨hS, hW⟩)))
theorem three {i j k : Nat} {oi oj ok : Oper} {fuel : Nat} {listed : Array Bool} {a : Act} {w : World} (hi : ops[i]? = some oi) (hj : ops[j]? = some oj) (hk : ops[k]? = some ok) (hr : Region.ready md ops listed = [i, j, k])
    (h1 : ∀ K' : Act → World → Prop, Shut (∀ a w, (came R (listed.setIfInBounds i true) = false → S w) → wpAnyU P md ops Q S R fuel (listed.setIfInBounds i true) a w → K' a w) → if Region.wanted oi (yielded ops a.tmps) = true then Oper.wp P oi a w K' Q else K' (a.put oi.dst undef) w)
    (h2 : ∀ K' : Act → World → Prop, Shut (∀ a w, (came R (listed.setIfInBounds j true) = false → S w) → wpAnyU P md ops Q S R fuel (listed.setIfInBounds j true) a w → K' a w) → if Region.wanted oj (yielded ops a.tmps) = true then Oper.wp P oj a w K' Q else K' (a.put oj.dst undef) w)
    (h3 : ∀ K' : Act → World → Prop, Shut (∀ a w, (came R (listed.setIfInBounds k true) = false → S w) → wpAnyU P md ops Q S R fuel (listed.setIfInBounds k true) a w → K' a w) → if Region.wanted ok (yielded ops a.tmps) = true then Oper.wp P ok a w K' Q else K' (a.put ok.dst undef) w) :
    wpAnyU P md ops Q S R (fuel + 1) listed a w :=
  all hr (by simp) (fun m hm => by
    rw [List.mem_cons, List.mem_cons, List.mem_singleton] at hm
    rcases hm with rfl | rfl | rfl
    · exact wpOp_step hi (fun K' hK => h1 K' (fun a w hS hW => hK a w ⟨hS, hW⟩))
    · exact wpOp_step hj (fun K' hK => h2 K' (fun a w hS hW => hK a w ⟨hS, hW⟩))
    · exact wpOp_step hk (fun K' hK => h3 K' (fun a w hS hW => hK a w ⟨hS, hW⟩)))
/-- all orders end in one kind of state, from which the walk goes on once -/
theorem start_key {id : Nat} {a : Act} {w : World} (Good : Act → World → Prop) (S : World → Prop) (R : List Nat) (hm : P.follows .mixedOrders = true)
    (hgood : ∀ a' w', Good a' w' → Q .normal a' w')
    (h : (∀ a' w', Good a' w' → Q .normal a' w') → wpAnyU P .any ops Q S R ops.size (Array.replicate ops.size false) a { w with drawn := w.drawn + 1 }) : (Code.region id ops true).wp P Q a w :=
  start S R hm (h hgood)
end Go.Un
namespace Go.Proofs.YtkanddmihmdagaaGreatDoor.Wh
open Go.RowKit Go.Proofs.YtkanddmihmdagaaGreatDoor.Dig Go.Proofs.YtkanddmihmdagaaGreatDoor.W Go.Proofs.YtkanddmihmdagaaGreatDoor.Nat
/-- two pairs of cells that are read -/
def C4 (w : World) (g g' : Nat) (u v u' v' : Value) : Prop := w.cell? ⟨g, 0, none⟩ = some u ∧ w.cell? ⟨g, 1, none⟩ = some v ∧ w.cell? ⟨g', 0, none⟩ = some u' ∧ w.cell? ⟨g', 1, none⟩ = some v'
theorem C4.keep {w w' : World} {g g' : Nat} {u v u' v' : Value} (h : C4 w g g' u v u' v') (hb : Below w.heap.size w w') : C4 w' g g' u v u' v' :=
  ⟨cell_keep hb h.1, cell_keep hb h.2.1, cell_keep hb h.2.2.1, cell_keep hb h.2.2.2⟩
/-- a row of numbers stands beside a struct's cells -/
theorem si_two {w : World} {k : IntKind} {A : Option Addr} {n c g : Nat} {l : List Nat} {t : TypeId} {b : Bool} {X : Option Addr} {y z : Nat} (h : SI w k A n c l) (hT : Two w g t (.bool b) (.slice X y z)) (u v : Value) :
    SI ((w.setCell ⟨g, 0, none⟩ u).setCell ⟨g, 1, none⟩ v) k A n c l :=
  ⟨h.1, h.2, h.3, fun hn => by
    obtain ⟨b', o, e, hc⟩ := h.4 hn
    refine ⟨b', o, e, fun i x hx => ?_⟩
    have h0 := hc i x hx
    have hi : ∃ q : Nat, x = .int k (q : Nat) := by
      unfold nums at hx
      rw [List.getElem?_map] at hx
      cases hl : l[i]? with
      | none => rw [hl] at hx; cases hx
      | some q => rw [hl] at hx; exact ⟨q, by simpa using hx.symm⟩
    obtain ⟨q, rfl⟩ := hi
    have n0 : (⟨b', o + i, none⟩ : Addr) ≠ ⟨g, 0, none⟩ := fun he => by
      rw [he, hT.c0] at h0
      cases h0
    have n1 : (⟨b', o + i, none⟩ : Addr) ≠ ⟨g, 1, none⟩ := fun he => by
      rw [he, hT.c1] at h0
      cases h0
    rw [World.cell?_setCell_other _ _ _ _ (fun he => n1 he.symm), World.cell?_setCell_other _ _ _ _ (fun he => n0 he.symm)]
    exact h0⟩
end Go.Proofs.YtkanddmihmdagaaGreatDoor.Wh
