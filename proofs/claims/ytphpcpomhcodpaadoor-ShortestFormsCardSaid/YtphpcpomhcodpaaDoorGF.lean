/- Texts of one layer, joined: Td, Bu, Tx, Tw. -/
import Derived.Lib.ItoaNum
import Derived.Lib.ItoaMem
import Derived.Lib.ParseIntB
import Derived.Test.YtphpcpomhcodpaaDoorGA
import Derived.Lib.AppendIntMem
import Derived.Test.YtphpcpomhcodpaaDoorGB
import Derived.Test.YtphpcpomhcodpaaDoorGD
set_option linter.unusedVariables false
set_option linter.unusedSimpArgs false
set_option linter.unusedSectionVars false
/- Decimal digits as bytes: rows of k digits, stripped of noughts ahead, and the number of a row of digits: no program in sight. -/
namespace Go.Proofs.YtphpcpomhcodpaaDoor.Td
open Go.Lib

/-- the byte of a digit -/
def db (d : Nat) : UInt8 := UInt8.ofNat (48 + d)
theorem db_nat {d : Nat} (h : d < 10) : (db d).toNat = 48 + d := by
  unfold db
  rw [UInt8.toNat_ofNat', Nat.mod_eq_of_lt (by omega)]
theorem db_zero : db 0 = 48 := rfl
theorem db_ne {d : Nat} (h : d < 10) (h0 : d ≠ 0) : (db d == 48) = false := by
  rw [beq_eq_false_iff_ne]
  intro e
  have := congrArg UInt8.toNat e
  rw [db_nat h] at this
  simp at this
  omega
/-- the last k digits of m, the highest ahead -/
def dd : Nat → Nat → List UInt8
  | 0, _ => []
  | k + 1, m => dd k (m / 10) ++ [db (m % 10)]
theorem dd_len : ∀ k m, (dd k m).length = k
  | 0, _ => rfl
  | k + 1, m => by simp [dd, dd_len k]
theorem dd_add (j : Nat) : ∀ k m, dd (j + k) m = dd j (m / 10 ^ k) ++ dd k m
  | 0, m => by simp [dd]
  | k + 1, m => by
    show dd (j + k) (m / 10) ++ _ = _ ++ (dd k (m / 10) ++ _)
    rw [dd_add j k (m / 10), List.append_assoc, Nat.div_div_eq_div_mul, Nat.pow_succ, Nat.mul_comm 10]
theorem dd_zero : ∀ k, dd k 0 = List.replicate k 48
  | 0 => rfl
  | k + 1 => by
    show dd k (0 / 10) ++ [db (0 % 10)] = _
    rw [Nat.zero_div, dd_zero k, List.replicate_succ']
    rfl
theorem dd_mod : ∀ k m, dd k (m % 10 ^ k) = dd k m
  | 0, _ => rfl
  | k + 1, m => by
    show dd k (m % 10 ^ (k + 1) / 10) ++ [db (m % 10 ^ (k + 1) % 10)] = dd k (m / 10) ++ [db (m % 10)]
    have h1 : m % 10 ^ (k + 1) / 10 = (m / 10) % 10 ^ k := by
      rw [Nat.pow_succ, Nat.mul_comm]
      exact Nat.mod_mul_right_div_self m 10 (10 ^ k)
    have h2 : m % 10 ^ (k + 1) % 10 = m % 10 := by
      rw [Nat.pow_succ]
      exact Nat.mod_mul_left_mod m (10 ^ k) 10
    rw [h1, h2, dd_mod k]
theorem dec_small {u : Nat} (h : u < 10) : decDigits u = [db u] := by rw [decDigits, dif_pos h]; rfl
theorem dec_big {u : Nat} (h : ¬ u < 10) : decDigits u = decDigits (u / 10) ++ [db (u % 10)] := by rw [decDigits, dif_neg h]; rfl
theorem dec_len_pos (u : Nat) : 0 < (decDigits u).length := by
  by_cases h : u < 10
  · rw [dec_small h]; simp
  · rw [dec_big h]; simp
/-- a numeral of at most k digits, noughts ahead -/
theorem pad_dd : ∀ k m, m < 10 ^ k → 0 < k → (decDigits m).length ≤ k ∧ List.replicate (k - (decDigits m).length) 48 ++ decDigits m = dd k m
  | 0, _, _, h => absurd h (by omega)
  | k + 1, m, h, _ => by
    by_cases h10 : m < 10
    · rw [dec_small h10]
      refine ⟨by simp, ?_⟩
      show _ = dd k (m / 10) ++ [db (m % 10)]
      rw [Nat.div_eq_of_lt h10, Nat.mod_eq_of_lt h10, dd_zero]
      simp
    · have hk : 0 < k := by
        rcases Nat.eq_zero_or_pos k with z | z
        · subst z; simp at h; omega
        · exact z
      obtain ⟨h1, h2⟩ := pad_dd k (m / 10) (by rw [Nat.pow_succ] at h; omega) hk
      rw [dec_big h10]
      refine ⟨by simp; omega, ?_⟩
      show _ = dd k (m / 10) ++ [db (m % 10)]
      rw [← h2, List.length_append, List.length_singleton, ← List.append_assoc, Nat.add_sub_add_right]
theorem dec_head : ∀ u, u ≠ 0 → ∃ c r, decDigits u = c :: r ∧ (c == 48) = false := by
  intro u
  induction u using Nat.strongRecOn with
  | _ u ih =>
    intro h0
    by_cases h : u < 10
    · exact ⟨db u, [], dec_small h, db_ne h h0⟩
    · obtain ⟨c, r, e, hc⟩ := ih (u / 10) (by omega) (by omega)
      exact ⟨c, r ++ [db (u % 10)], by rw [dec_big h, e]; rfl, hc⟩
theorem drop_noughts (j : Nat) (l : List UInt8) : (List.replicate j 48 ++ l).dropWhile (· == 48) = l.dropWhile (· == 48) := by
  induction j with
  | zero => rfl
  | succ j ih => rw [List.replicate_succ, List.cons_append, List.dropWhile_cons_of_pos (by rfl), ih]
/-- a row of digits without the noughts ahead -/
theorem strip_dd {k m : Nat} (h : m < 10 ^ k) : (dd k m).dropWhile (· == 48) = if m = 0 then [] else decDigits m := by
  by_cases h0 : m = 0
  · subst h0
    have := drop_noughts k []
    rw [List.append_nil] at this
    rw [dd_zero, this, if_pos rfl]
    rfl
  · have hk : 0 < k := by
      rcases Nat.eq_zero_or_pos k with z | z
      · subst z; simp at h; omega
      · exact z
    obtain ⟨c, r, e, hc⟩ := dec_head m h0
    rw [← (pad_dd k m h hk).2, drop_noughts, if_neg h0, e, List.dropWhile_cons_of_neg (by simp [hc])]
/-- is it a digit? -/
def isDig (b : UInt8) : Prop := 48 ≤ b.toNat ∧ b.toNat ≤ 57
instance (b : UInt8) : Decidable (isDig b) := by unfold isDig; infer_instance
/-- one digit behind others -/
def stp (a : Nat) (c : UInt8) : Nat := a * 10 + (c.toNat - 48)
/-- the number of a row of digits behind others -/
def nv (acc : Nat) (l : List UInt8) : Nat := l.foldl stp acc
theorem nv_cons (acc : Nat) (c : UInt8) (r : List UInt8) : nv acc (c :: r) = nv (acc * 10 + (c.toNat - 48)) r := by
  unfold nv
  rw [List.foldl_cons, stp]
theorem nv_nil (acc : Nat) : nv acc [] = acc := rfl
theorem nv_append (acc : Nat) (l l' : List UInt8) : nv acc (l ++ l') = nv (nv acc l) l' := by
  induction l generalizing acc with
  | nil => rfl
  | cons c r ih => rw [List.cons_append, nv_cons, nv_cons, ih]
theorem nv_acc (acc : Nat) (l : List UInt8) : nv acc l = acc * 10 ^ l.length + nv 0 l := by
  induction l generalizing acc with
  | nil => rw [nv_nil, nv_nil, List.length_nil, Nat.pow_zero, Nat.mul_one, Nat.add_zero]
  | cons c r ih =>
    rw [nv_cons, nv_cons, ih, ih (0 * 10 + (c.toNat - 48)), List.length_cons, Nat.pow_succ, Nat.zero_mul, Nat.zero_add, Nat.add_mul, Nat.mul_assoc, Nat.mul_comm 10, Nat.add_assoc]
theorem nv_lt {l : List UInt8} (h : ∀ b ∈ l, isDig b) : nv 0 l < 10 ^ l.length := by
  induction l with
  | nil => rw [nv_nil]; exact Nat.pow_pos (by omega)
  | cons c r ih =>
    have hc := h c (by simp)
    have := ih (fun b hb => h b (by simp [hb]))
    rw [nv_cons, nv_acc, Nat.zero_mul, Nat.zero_add, List.length_cons, Nat.pow_succ]
    unfold isDig at hc
    have : (c.toNat - 48) * 10 ^ r.length ≤ 9 * 10 ^ r.length := Nat.mul_le_mul_right _ (by omega)
    omega
theorem parse_ok {M : Nat} (hM : 1000000000000000000 ≤ M) {l : List UInt8} (h : ∀ b ∈ l, isDig b) (acc : Nat) (ha : nv acc l < 1000000000000000000) : parseUintM M acc l = .ok (nv acc l) := by
  induction l generalizing acc with
  | nil => rfl
  | cons c r ih =>
    have hc := h c (by simp)
    have ha' : nv (acc * 10 + (c.toNat - 48)) r < 1000000000000000000 := by rw [← nv_cons]; exact ha
    have hle : acc * 10 + (c.toNat - 48) ≤ nv (acc * 10 + (c.toNat - 48)) r := by
      rw [nv_acc]
      have : (acc * 10 + (c.toNat - 48)) * 1 ≤ (acc * 10 + (c.toNat - 48)) * 10 ^ r.length := Nat.mul_le_mul_left _ (Nat.pow_pos (by omega))
      omega
    unfold isDig at hc
    unfold parseUintM
    rw [if_pos hc, if_neg (by omega), if_neg (by omega), nv_cons]
    exact ih (fun b hb => h b (by simp [hb])) _ ha'
theorem parse_dig {l : List UInt8} (h : ∀ b ∈ l, isDig b) (h0 : l ≠ []) (hl : l.length ≤ 18) : parseUintB 64 l = .ok (nv 0 l) := by
  unfold parseUintB
  rw [if_neg h0]
  exact parse_ok (by decide) h 0 (Nat.lt_of_lt_of_le (nv_lt h) (Nat.le_trans (Nat.pow_le_pow_right (by omega) hl) (by decide)))
theorem db_isDig {d : Nat} (h : d < 10) : isDig (db d) := by
  unfold isDig
  rw [db_nat h]
  omega
theorem dec_isDig (u : Nat) : ∀ b ∈ decDigits u, isDig b := by
  induction u using Nat.strongRecOn with
  | _ u ih =>
    intro b hb
    by_cases h : u < 10
    · rw [dec_small h, List.mem_singleton] at hb; subst hb; exact db_isDig h
    · rw [dec_big h, List.mem_append, List.mem_singleton] at hb
      rcases hb with hb | rfl
      · exact ih _ (by omega) b hb
      · exact db_isDig (by omega)
/-- digits there and back -/
theorem nv_dec (u : Nat) : nv 0 (decDigits u) = u := by
  induction u using Nat.strongRecOn with
  | _ u ih =>
    by_cases h : u < 10
    · rw [dec_small h]
      rw [nv_cons, nv_nil]
      rw [db_nat h]; omega
    · rw [dec_big h, nv_append, ih _ (by omega)]
      rw [nv_cons, nv_nil]
      rw [db_nat (by omega)]; omega
theorem isDig_db {b : UInt8} (h : isDig b) : db (b.toNat - 48) = b := by
  unfold isDig at h
  unfold db
  rw [show 48 + (b.toNat - 48) = b.toNat by omega]
  exact UInt8.ofNat_toNat
/-- back and there: digits without a nought ahead -/
theorem dec_nv {l : List UInt8} (h : ∀ b ∈ l, isDig b) (h1 : ∃ c r, l = c :: r ∧ (c ≠ 48 ∨ r = [])) : decDigits (nv 0 l) = l := by
  obtain ⟨c, r, rfl, hc⟩ := h1
  have hcd := h c (by simp)
  have key : ∀ (r' : List UInt8) (a : Nat), 0 < a → (∀ b ∈ r', isDig b) → decDigits (nv a r') = decDigits a ++ r' := by
    intro r'
    induction r' with
    | nil => intro a _ _; rw [nv_nil, List.append_nil]
    | cons d r' ih =>
      intro a ha hd
      have hdd := hd d (by simp)
      have hd2 := hdd
      unfold isDig at hd2
      rw [nv_cons, ih _ (by omega) (fun b hb => hd b (by simp [hb])), dec_big (by omega), show (a * 10 + (d.toNat - 48)) / 10 = a by omega, show (a * 10 + (d.toNat - 48)) % 10 = d.toNat - 48 by omega, isDig_db hdd, List.append_assoc]
      rfl
  have hc2 := hcd
  unfold isDig at hc2
  rw [nv_cons]
  rcases hc with hc | rfl
  · have : c.toNat ≠ 48 := fun e => hc (by rw [← UInt8.ofNat_toNat (x := c), e]; rfl)
    rw [key r _ (by omega) (fun b hb => h b (by simp [hb])), dec_small (by omega), show 0 * 10 + (c.toNat - 48) = c.toNat - 48 by omega, isDig_db hcd]
    rfl
  · rw [nv_nil, dec_small (by omega), show 0 * 10 + (c.toNat - 48) = c.toNat - 48 by omega, isDig_db hcd]
end Go.Proofs.YtphpcpomhcodpaaDoor.Td

/- A strings.Builder of the call's own: copyCheck, WriteString; strconv.FormatUint at base 10. -/
namespace Go.Proofs.YtphpcpomhcodpaaDoor.Bu
open Go.RowKit Go.Lib Go.Sort

theorem sizeB : (Tryd.prog.info? 60).map (·.size) = some 2 := by kernel_rfl
theorem liesB : liesAt Tryd.prog Tryd.prog.depth 60 (2 / Tryd.prog.cellsOf 60) 0 60 1 = true := by kernel_rfl
theorem infoB : (Tryd.prog.info? 5).map (fun i => (i.zero, i.size, i.bytes)) = some (some (.int .u8 0), 1, 1) := by kernel_rfl
set_option maxHeartbeats 1000000 in
set_option maxRecDepth 100000 in
theorem copyCheck_fresh (b : Nat) (w : World) (h0 : w.cell? ⟨b, 0, none⟩ = some (.pointer none)) (hsh : w.shape? b = some (60, 2)) (hfz : w.frozen? ⟨b, 0, none⟩ = false) :
    Calls Tryd.prog 55 #[.pointer (some ⟨b, 0, none⟩)] w fun e w' => e = .returned (.tuple #[]) ∧ w' = w.setCell ⟨b, 0, none⟩ (.pointer (some ⟨b, 0, none⟩)) := by
  obtain ⟨j, hj, hjs⟩ := Option.map_eq_some_iff.1 sizeB
  go_enter Tryd.func55, Tryd.ntmps55
  go_wp2
  rw [Lib.run_to_unsafe w ⟨b, 0, none⟩ Tryd.underlying57 Tryd.underlying99 hj (by rw [hjs]; decide) hsh (Nat.zero_lt_succ 1)]
  simp only [Result.andThen]
  rw [Oper.upon_value]
  go_wp2
  rw [run_callFunc_extern Tryd.func69 (by kernel_rfl) (by kernel_rfl) (by kernel_rfl) (e := Extern.AbiNoEscape.same) (by kernel_rfl)]
  rw [Lib.run_noEscape]
  simp only [Result.andThen]
  rw [Oper.upon_value]
  go_wp2
  rw [Lib.run_from_unsafe w ⟨b, 0, none⟩ Tryd.underlying99 Tryd.underlying57 hj hsh liesB]
  simp only [Result.andThen]
  rw [Oper.upon_value]
  go_wp2
  go_end0
  exact ⟨rfl, rfl⟩
set_option maxHeartbeats 1000000 in
set_option maxRecDepth 100000 in
theorem copyCheck_used (b : Nat) (w : World) (h0 : w.cell? ⟨b, 0, none⟩ = some (.pointer (some ⟨b, 0, none⟩))) :
    Calls Tryd.prog 55 #[.pointer (some ⟨b, 0, none⟩)] w fun e w' => e = .returned (.tuple #[]) ∧ w' = w := by
  obtain ⟨j, hj, _⟩ := Option.map_eq_some_iff.1 sizeB
  go_enter Tryd.func55, Tryd.ntmps55
  go_wp2
  rw [Lib.run_neq_ptr_same w _ Tryd.underlying57 hj]
  go_wp2
  go_end0
  exact ⟨rfl, rfl⟩
theorem copyCheck_calls (B b : Nat) (bs : List Value) (w : World) (h : Lib.IsBuilderF 60 5 B b bs w) :
    Calls Tryd.prog 55 #[.pointer (some ⟨b, 0, none⟩)] w fun e w' => e = .returned (.tuple #[]) ∧ (Lib.BuilderAtF 60 5 B b (.pointer (some ⟨b, 0, none⟩)) bs w' ∧ Below B w w') := by
  rcases h with h | h
  · refine (copyCheck_fresh b w h.cell0 h.shape h.frozen0).mono ?_
    rintro e w' ⟨rfl, rfl⟩
    exact ⟨rfl, h.used _, (Below.refl B w).setCell (p := ⟨b, 0, none⟩) h.1 _⟩
  · refine (copyCheck_used b w h.cell0).mono ?_
    rintro e w' ⟨rfl, rfl⟩
    exact ⟨rfl, h, Below.refl B _⟩
set_option maxHeartbeats 1000000 in
set_option maxRecDepth 100000 in
/-- s's bytes are written behind what was written before -/
theorem writeString_calls (B b : Nat) (bs : List Value) (s : ByteArray) (w : World) (h : Lib.IsBuilderF 60 5 B b bs w) (hlen : bs.length + s.size ≤ 140737488355328) (hBw : B ≤ w.heap.size) :
    Calls Tryd.prog 30 #[.pointer (some ⟨b, 0, none⟩), .string s] w fun e w' => e = .returned (.tuple #[.int .i64 s.size, .nilIface]) ∧ (Lib.BuilderAtF 60 5 B b (.pointer (some ⟨b, 0, none⟩)) (bs ++ Lib.strCells s) w' ∧ Below B w w') := by
  obtain ⟨i0, hi, hz0, hz1, hz2⟩ := info_parts infoB
  go_enter Tryd.func30, Tryd.ntmps30
  go_wp2_with (go_at_call 55; refine (copyCheck_calls B b bs _ h).mono ?_)
  rintro e w1 ⟨rfl, h1, hb1⟩
  obtain ⟨hB, v, hbk, hown, hne⟩ := h1
  have c0 : w1.cell? ⟨b, 0, none⟩ = some (.pointer (some ⟨b, 0, none⟩)) := by rw [Lib.cell_of_heap hbk]; rfl
  have c1 : w1.cell? ⟨b, 1, none⟩ = some v := by rw [Lib.cell_of_heap hbk]; rfl
  go_wp2_with (at_builtin; refine Lib.wpList_append_own_stringF _ rfl _ _ 58 9 rfl B 5 i0 Tryd.underlying58 Tryd.underlying9 hi hz0 hz1 hz2 _ _ _ rfl hown s rfl ?c3 ?c4 ?c5 ?_)
  case c3 => unfold maxLen; omega
  case c4 => omega
  case c5 => have := hb1.size; omega
  intro v' w2 hown' hgrow _
  have hlt : b < w1.heap.size := by
    rcases Nat.lt_or_ge b w1.heap.size with h' | h'
    · exact h'
    · simp [Array.getElem?_eq_none h'] at hbk
  have hb2 : w2.heap[b]? = some (.cells #[.pointer (some ⟨b, 0, none⟩), v] 60 (0, 0)) := by
    rw [hgrow.block b hlt (fun e => hne e.symm)]
    exact hbk
  have d0 : w2.cell? ⟨b, 0, none⟩ = some (.pointer (some ⟨b, 0, none⟩)) := by rw [Lib.cell_of_heap hb2]; rfl
  have d1 : w2.cell? ⟨b, 1, none⟩ = some v := by rw [Lib.cell_of_heap hb2]; rfl
  have f1 : w2.frozen? ⟨b, 1, none⟩ = false := Lib.frozen_of_heap hb2 1
  obtain ⟨ao, n', cap, rfl⟩ : ∃ ao n' cap, v' = .slice ao n' cap := by
    rcases hown'.2 with ⟨hv, _⟩ | ⟨g, cap, cur, fz, hv, _⟩
    · exact ⟨_, _, _, hv⟩
    · exact ⟨_, _, _, hv⟩
  go_wp2
  go_ret2
  refine ⟨rfl, ?_, ?_⟩
  · exact Lib.BuilderAtF.put (T := 60) (e := 5) hB hb2 (bs' := bs ++ Lib.strCells s) (by simpa [Lib.strCells_length] using hown') (by decide)
  · exact (hb1.grown hgrow (by have := hb1.size; omega) (fun k hk => (hown.lt k hk).1)).setCell (p := ⟨b, 1, none⟩) hB _

/-- the table of powers of ten -/
def Pow (w : World) : Prop := Lib.TabIs Tryd.prog w "internal/strconv.uint64pow10" .u64 Lib.pow10Tab
theorem Pow.below {w w' : World} (h : Pow w) (hb : Below w.heap.size w w') : Pow w' := by
  unfold Pow Lib.TabIs World.var? at h ⊢
  cases hg : Tryd.prog.globalNamed "internal/strconv.uint64pow10" with
  | none => rw [hg] at h; cases h
  | some g =>
    rw [hg] at h
    simp only [Option.bind_some] at h ⊢
    have hlt : g < w.heap.size := by
      rcases Nat.lt_or_ge g w.heap.size with h' | h'
      · exact h'
      · rw [Array.getElem?_eq_none h'] at h; cases h
    rw [hb.block g hlt]
    exact h
set_option maxHeartbeats 2000000 in
set_option maxRecDepth 100000 in
theorem formatUint_in (u : Nat) (hu64 : u < 18446744073709551616) (w : World) (htab : Pow w) :
    Calls Tryd.prog 68 #[.int .u64 u, .int .i64 10] w fun e w' => e = .returned (.string ⟨(Lib.decDigits u).toArray⟩) ∧ Below w.heap.size w w' := by
  by_cases hs : u < 100
  · go_enter Tryd.func68, Tryd.ntmps68
    go_wp2_with (go_at_call 78; refine (Tryd.internal_strconv_small u hs _).mono ?_; rintro e w' ⟨rfl, rfl⟩)
    go_ret
    exact ⟨rfl, Below.refl _ _⟩
  · have hu1 : 1 ≤ u := by omega
    have hnd20 : Lib.nDigits u ≤ 20 := by have := Lib.numDigits_eq u hu1 hu64; split at this <;> omega
    have hal : Tryd.prog.arrayLen 107 = 24 := by simp [Program.arrayLen, Tryd.underlying107]
    have hsl1 : ∀ W, (Instr.sliceAt 107 (.pointer (some ⟨w.heap.size, 0, none⟩)) none (some (.int .i64 (Lib.nDigits u : Int))) none).run Tryd.prog W = .ok (.slice (some ⟨w.heap.size, 0, none⟩) (Lib.nDigits u) 24) W := fun W => by
      rw [run_sliceAt_array_h W 107 ⟨w.heap.size, 0, none⟩ (by simp [Program.arrayLen, Program.elem, Tryd.underlying107]) .i64 (Lib.nDigits u : Int) (by omega) (by rw [hal]; omega)]
      go_simp
    have hH0 := Lib.holds_zero0 w 107 (Lib.nDigits u) (by omega)
    have hfmt := Tryd.internal_strconv_formatBase10 w.heap.size 0 24 u (Array.replicate (Lib.nDigits u) 0) (w.alloc (.cells Lib.zeros24 107)) hH0 (by rw [Array.size_replicate]; exact Lib.lt_pow_nDigits u) hu64 (by rw [Array.size_replicate]; omega)
    rw [Array.size_replicate] at hfmt
    have HH0 := Lib.hid hH0
    clear hH0 hal
    go_enter Tryd.func68, Tryd.ntmps68
    go_wp2_with (first
      | (go_at_call 79; refine (Tryd.internal_strconv_numDigits u hu1 hu64 _ (Lib.tabIs_alloc htab _)).mono ?_; rintro e w' ⟨rfl, rfl⟩))
    go_at_call 80
    refine hfmt.mono ?_
    rintro e w' ⟨rfl, k, v', dk, rfl, hF⟩
    have hcv : (convert 58 9 (.slice (some ⟨w.heap.size, 0, none⟩) (Lib.nDigits u) 24)).run Tryd.prog ((putRow (fun (b : UInt8) => Value.int .u8 (b.toNat : Int)) (w.alloc (.cells Lib.zeros24 107)) w.heap.size 0 dk).drewN k) =
        .ok (.string ⟨(Lib.decDigits u).toArray⟩) ((putRow (fun (b : UInt8) => Value.int .u8 (b.toNat : Int)) (w.alloc (.cells Lib.zeros24 107)) w.heap.size 0 dk).drewN k) := by
      have h := run_convert_bytes_back (P := Tryd.prog) ((putRow (fun (b : UInt8) => Value.int .u8 (b.toNat : Int)) (w.alloc (.cells Lib.zeros24 107)) w.heap.size 0 dk).drewN k) 58 9 5 ⟨w.heap.size, 0, none⟩ 24 (Lib.decDigits u) Tryd.underlying58 Tryd.underlying5 Tryd.underlying9 (fun j hj => by
        rw [Lib.row_is_numeral hF j hj, Lib.add_plain, World.cell?_drewN]
        exact cell?_putRow (fun (b : UInt8) => Value.int .u8 (b.toNat : Int)) _ w.heap.size 0 _ dk HH0.out (by rw [hF.size, Array.size_replicate]) j (by rw [hF.size]; rw [Lib.decDigits_length] at hj; exact hj))
      rw [Lib.decDigits_length] at h
      exact h
    go_wp2
    go_ret
    obtain ⟨os, eo⟩ := Lib.fin_at w (.cells Lib.zeros24 107) dk k 0
    refine ⟨rfl, ?_⟩
    rw [eo]
    exact Lib.below_grow _ w (Nat.le_refl _) k os
theorem formatUint_calls (u : Nat) (hu64 : u < 18446744073709551616) (w : World) (htab : Pow w) :
    Calls Tryd.prog 49 #[.int .u64 u, .int .i64 10] w fun e w' => e = .returned (.string ⟨(Lib.decDigits u).toArray⟩) ∧ Below w.heap.size w w' := by
  go_enter Tryd.func49, Tryd.ntmps49
  go_wp2_with (go_at_call 68; refine (formatUint_in u hu64 _ htab).mono ?_; rintro e w1 ⟨rfl, hb⟩)
  go_ret
  exact ⟨rfl, hb⟩
end Go.Proofs.YtphpcpomhcodpaaDoor.Bu

/- Layer 2, on: rows of strings of the call's own; the pieces of Text. -/
namespace Go.Proofs.YtphpcpomhcodpaaDoor.Tx
open Go.RowKit Go.Proofs.YtphpcpomhcodpaaDoor.Dig Go.Proofs.YtphpcpomhcodpaaDoor.W Go.Proofs.YtphpcpomhcodpaaDoor.Nat Go.Proofs.YtphpcpomhcodpaaDoor.Wh Go.Proofs.YtphpcpomhcodpaaDoor.Td Go.Proofs.YtphpcpomhcodpaaDoor.Bu

def strs (Ps : List (List UInt8)) : List Value := Ps.map fun p => .string ⟨p.toArray⟩
theorem strs_length (Ps : List (List UInt8)) : (strs Ps).length = Ps.length := by simp [strs]
theorem strs_append (a b : List (List UInt8)) : strs (a ++ b) = strs a ++ strs b := by simp [strs]
/-- a row of strings of the call's own -/
def Os (w : World) (base : Nat) (v : Value) (Ps : List (List UInt8)) : Prop := w.ownsRow base 9 1 v Ps.length (strs Ps)
theorem Os.nil (w : World) (base : Nat) : Os w base (.slice none 0 0) [] := ⟨by simp [strs], .inl ⟨rfl, rfl⟩⟩
theorem Os.below {w w' : World} {base : Nat} {v : Value} {Ps : List (List UInt8)} (h : Os w base v Ps) (hb : Below w.heap.size w w') : Os w' base v Ps :=
  World.ownsRow.kept h ⟨hb.os, hb.tape, hb.output, hb.size, fun i hi _ => hb.block i hi⟩ (by cases v.ownBlock <;> simp : v.ownBlock = none ∨ v.ownBlock ≠ none)
theorem Os.reads {w : World} {base : Nat} {v : Value} {Ps : List (List UInt8)} (h : Os w base v Ps) : ∃ A n c, v = .slice A n c ∧ n = Ps.length ∧ Sl w 1 A n c (strs Ps) := by
  rcases h.2 with ⟨rfl, h0⟩ | ⟨g, cap, cur, rfl, hb, hh, h1, h2, h3, h4⟩
  · refine ⟨none, 0, 0, rfl, h0.symm, by rw [List.length_eq_zero_iff.1 h0]; rfl, Nat.le_refl _, by omega, fun h => absurd h (by omega)⟩
  · refine ⟨_, _, cap, rfl, rfl, ⟨by rw [strs_length]; omega, h1, h2, fun _ => ⟨g, 0, rfl, fun j u hu => ?_⟩⟩⟩
    have := World.ownsRow.cells h (g := g) rfl j u hu
    rwa [add_at] at this
theorem Os.grown {w : World} {base : Nat} {v : Value} {Ps : List (List UInt8)} (h : Os w base v Ps) : ∀ k, v.ownBlock = some k → base ≤ k := by
  intro k hk
  rcases h.2 with ⟨rfl, _⟩ | ⟨g, cap, cur, rfl, hb, _⟩
  · cases hk
  · cases hk; exact hb
theorem Os.lt {w : World} {base : Nat} {v : Value} {Ps : List (List UInt8)} (h : Os w base v Ps) : ∀ k, v.ownBlock = some k → k < w.heap.size := by
  intro k hk
  rcases h.2 with ⟨rfl, _⟩ | ⟨g, cap, cur, rfl, hb, hh, _⟩
  · cases hk
  · cases hk
    exact (Array.getElem?_eq_some_iff.1 hh).1
theorem lit_str' (w : World) (p : List UInt8) (t : TypeId) (S : ByteArray) (hS : S = ⟨p.toArray⟩) : Sl (w.alloc (.cells #[.string S] t)) 1 (some ⟨w.heap.size, 0, none⟩) 1 1 (strs [p]) :=
  ⟨rfl, Nat.le_refl _, by omega, fun _ => ⟨w.heap.size, 0, rfl, fun j u hu => by
    rw [World.cell?, show (w.alloc (.cells #[.string S] t)).heap[w.heap.size]? = _ from heap_alloc_new w _, hS]
    simpa [strs] using hu⟩⟩
theorem infoS : (Tryd.prog.info? 9).map (fun i => (i.zero, i.size, i.bytes)) = some (some (.string ⟨#[]⟩), 1, 16) := by kernel_rfl
/-- one string more -/
theorem step_append_str {ops : Array Oper} {rest : List Oper} {o : Oper} {a : Act} {Q : Exit → Act → World → Prop} (w : World) (hgd : o.guard = none) (s x : Operand)
    (ho : o.op = .call { callee := .builtin .append, args := #[s, x], argTypes := #[78, 78] })
    (base : Nat) (v : Value) (Ps : List (List UInt8)) (hs : a.eval s = v) (hown : Os w base v Ps)
    (A : Option Addr) (m c : Nat) (p : List UInt8) (hx : a.eval x = .slice A m c) (hm : m = 1) (hr : Sl w 1 A 1 c (strs [p]))
    (hbytes : (Ps.length + 1) * 16 ≤ 140737488355328) (hbase : base ≤ w.heap.size)
    (h : ∀ v' w', Os w' base v' (Ps ++ [p]) → w.grownBy w' v.ownBlock → wpList Tryd.prog ops Q rest (a.put o.dst v') w') : wpList Tryd.prog ops Q (o :: rest) a w := by
  obtain ⟨i0, hi0, hz0, hz1, hz2⟩ := info_parts infoS
  subst hm
  refine wpList_plain hgd fun _ hK => wp_append_sl w s x _ ho base 9 i0 _ 1 16 Tryd.underlying78 hi0 hz0 hz1 hz2 rfl (by omega) v _ _ hs hown A 1 c _ hx hr ?_ ?_ hbytes hbase fun v' w' h2 h3 _ => hK _ _ (h v' w' ?_ h3)
  · intro u hu
    simp only [strs, List.map_cons, List.map_nil, List.mem_singleton] at hu
    subst hu; rfl
  · unfold maxLen; omega
  · unfold Os
    rw [List.length_append, strs_append]
    exact h2
/-- a block's power of ten -/
def K : Nat := 1000000000000000000
theorem K_lt : K < U := by decide
theorem K_pow : K = 10 ^ 18 := by decide
theorem of_block (w : World) : Calls Tryd.prog 23 #[.int .u64 1000000000000000000] w (GivesOwn w 22 .u64 (digs U K)) := of_calls 1000000000000000000 w (by decide)
theorem div_block (A A' : Option Addr) (n c n' c' m : Nat) (L : List Nat) (w : World) (h : SI w .u64 A n c L) (h' : SI w .u64 A' n' c' (digs U K)) (hl : Lt U L) (hm : val U L = m) (hn : n < 1099511627776) :
    Calls Tryd.prog 47 #[.slice A n c, .slice A' n' c'] w (Nat.GivesQR w 22 .u64 (digs U (m / K)) (digs U (m % K))) := by
  have hk : (digs U K).length ≤ 1 := (digs_length_le U_two _ _).2 (by rw [Nat.pow_one]; exact K_lt)
  have e := divmod_calls A A' n c n' c' L (digs U K) w h h' hl (dl K) hn (by rw [← h'.len]; omega) (by rw [val_digs U_two]; decide)
  rw [val_digs U_two, hm] at e
  exact e
theorem uint_d (A : Option Addr) (n c m : Nat) (w : World) (h : SI w .u64 A n c (digs U m)) (hm : m < U) :
    Calls Tryd.prog 48 #[.slice A n c] w fun e w' => e = .returned (.tuple #[.int .u64 (m : Nat), .bool true]) ∧ w = w' := by
  have e := uint_calls A n c (digs U m) w h (dl m)
  rw [val_digs U_two, if_pos hm, decide_eq_true hm] at e
  exact e
/-- a block's digits, as they are told -/
theorem fmt_calls (m : Nat) (hm : m < K) (w : World) (hp : Pow w) :
    Calls Tryd.prog 49 #[.int .u64 (m : Nat), .int .i64 10] w fun e w' => ∃ S : ByteArray, e = .returned (.string S) ∧ S.data.toList = Lib.decDigits m ∧ S.size ≤ 18 ∧ Below w.heap.size w w' := by
  refine (formatUint_calls m (by have := K_lt; unfold U at this; omega) w hp).mono ?_
  rintro e w' ⟨rfl, hb⟩
  refine ⟨_, rfl, by simp, ?_, hb⟩
  have := (pad_dd 18 m (by rw [← K_pow]; exact hm) (by omega)).1
  show (Lib.decDigits m).toArray.size ≤ 18
  rw [List.size_toArray]; exact this
theorem repeatL_one (c : Nat) : Lib.repeatL [48] c = List.replicate c 48 := by
  induction c with
  | zero => rfl
  | succ c ih => rw [Lib.repeatL, ih]; rfl
theorem rep_calls (S : ByteArray) (hS : S.size ≤ 18) (w : World) :
    Calls Tryd.prog 17 #[.string ⟨#[48]⟩, .int .i64 (18 - (S.size : Int))] w fun e w' => e = .returned (.string ⟨(List.replicate (18 - S.size) 48).toArray⟩) ∧ Below w.heap.size w w' := by
  have e := Tryd.strings_Repeat ⟨#[48]⟩ (18 - S.size) w (by omega) (by show 1 * _ ≤ _; omega)
  rw [show ((18 - S.size : Nat) : Int) = 18 - (S.size : Int) by omega] at e
  have e2 : Lib.repeatL (⟨#[48]⟩ : ByteArray).data.toList (18 - S.size) = List.replicate (18 - S.size) 48 := repeatL_one _
  rw [e2] at e
  exact e
/-- the digits of a block, noughts ahead -/
theorem pad_str {S : ByteArray} {m : Nat} (hm : m < K) (h : S.data.toList = Lib.decDigits m) : (⟨Array.replicate (18 - S.size) 48⟩ ++ S : ByteArray) = ⟨(dd 18 m).toArray⟩ := by
  have h1 := (pad_dd 18 m (by rw [← K_pow]; exact hm) (by omega)).2
  rw [← h] at h1
  have h2 : S.size = S.data.toList.length := by rw [Array.length_toList]; rfl
  rw [h2, ← h1]
  apply ByteArray.ext
  simp
/-- where the first loop stands -/
structure TI (M n t m : Nat) (Ps : List (List UInt8)) : Prop where
  val : m = M / 10 ^ (18 * t)
  cat : Ps.reverse.flatten = dd (18 * t) M
  len : Ps.length = t
  le : t ≤ 2 * n + 1
theorem TI.start (M n : Nat) : TI M n 0 M [] := ⟨by simp, rfl, rfl, by omega⟩
theorem TI.less {M n t m : Nat} {Ps : List (List UInt8)} (h : TI M n t m Ps) (hM : M < U ^ n) (h0 : m ≠ 0) : t ≤ 2 * n := by
  rcases Nat.lt_or_ge (2 * n) t with z | z
  · exfalso
    have h1 : 10 ^ (18 * t) ≤ M := by
      rcases Nat.lt_or_ge M (10 ^ (18 * t)) with y | y
      · exact absurd (h.val.trans (Nat.div_eq_of_lt y)) h0
      · exact y
    have h2 : (10 ^ 36) ^ n ≤ 10 ^ (18 * t) := by rw [← Nat.pow_mul]; exact Nat.pow_le_pow_right (by omega) (by omega)
    have h3 : U ^ n ≤ (10 ^ 36) ^ n := Nat.pow_le_pow_left (by decide) n
    omega
  · exact z
theorem TI.round {M n t m : Nat} {Ps : List (List UInt8)} (h : TI M n t m Ps) (hM : M < U ^ n) (h0 : m ≠ 0) : TI M n (t + 1) (m / K) (Ps ++ [dd 18 (m % K)]) := by
  have hl := h.less hM h0
  refine ⟨?_, ?_, by rw [List.length_append, h.len]; rfl, by omega⟩
  · rw [h.val, Nat.div_div_eq_div_mul, K_pow, ← Nat.pow_add]
    congr 2
  · rw [List.reverse_append, List.flatten_append, h.cat, show 18 * (t + 1) = 18 + 18 * t by omega, dd_add, ← h.val, K_pow, dd_mod]
    simp
/-- one piece of a row of the call's own -/
theorem Os.at_ {w : World} {base : Nat} {A : Option Addr} {n c : Nat} {Ps : List (List UInt8)} (h : Os w base (.slice A n c) Ps) {j : Nat} (hj : j < Ps.length) :
    ∃ b o, A = some ⟨b, o, none⟩ ∧ b < w.heap.size ∧ w.cell? ⟨b, o + j, none⟩ = some (.string ⟨(Ps.getD j []).toArray⟩) := by
  have hlt := h.lt
  obtain ⟨A', n', c', e, hn, hsl⟩ := h.reads
  injection e with e1 e2 e3
  subst e1; subst e2; subst e3
  obtain ⟨b, o, rfl, hc⟩ := hsl.get (by omega)
  refine ⟨b, o, rfl, hlt b rfl, hc j _ ?_⟩
  rw [strs, List.getElem?_map, List.getElem?_eq_getElem hj, List.getD_eq_getElem?_getD, List.getElem?_eq_getElem hj]
  rfl
theorem Os.cap_ {w : World} {base : Nat} {A : Option Addr} {n c : Nat} {Ps : List (List UInt8)} (h : Os w base (.slice A n c) Ps) : n ≤ c ∧ c ≤ 9223372036854775807 := by
  obtain ⟨A', n', c', e, hn, hsl⟩ := h.reads
  injection e with e1 e2 e3
  subst e1; subst e2; subst e3
  exact ⟨hsl.le, hsl.cap⟩
/-- the pieces from a place on, the last ahead -/
def back (Ps : List (List UInt8)) (i : Nat) : List UInt8 := (Ps.drop i).reverse.flatten
theorem back_end (Ps : List (List UInt8)) : back Ps Ps.length = [] := by unfold back; rw [List.drop_length]; rfl
theorem back_zero (Ps : List (List UInt8)) : back Ps 0 = Ps.reverse.flatten := rfl
theorem back_step {Ps : List (List UInt8)} {j : Nat} (hj : j < Ps.length) : back Ps j = back Ps (j + 1) ++ Ps.getD j [] := by
  unfold back
  rw [List.drop_eq_getElem_cons hj, List.reverse_cons, List.flatten_append, List.getD_eq_getElem?_getD, List.getElem?_eq_getElem hj]
  simp
theorem back_le (Ps : List (List UInt8)) (j : Nat) : (back Ps j).length ≤ Ps.reverse.flatten.length := by
  have h : Ps.reverse.flatten = back Ps j ++ (Ps.take j).reverse.flatten := by
    unfold back
    rw [← List.flatten_append, ← List.reverse_append, List.take_append_drop]
  rw [h, List.length_append]
  omega
theorem back_cells {Ps : List (List UInt8)} {j : Nat} (hj : j < Ps.length) : Lib.byteCells (back Ps (j + 1)) ++ Lib.strCells ⟨(Ps.getD j []).toArray⟩ = Lib.byteCells (back Ps j) := by
  rw [back_step hj, Lib.byteCells_append]
  rfl
/-- noughts ahead are taken off -/
theorem strip_calls (k M : Nat) (h : M < 10 ^ k) (w : World) :
    Calls Tryd.prog 18 #[.string ⟨(dd k M).toArray⟩, .string ⟨#[48]⟩] w fun e w' => e = .returned (.string ⟨(if M = 0 then [] else Lib.decDigits M).toArray⟩) ∧ w' = w := by
  have e := Tryd.strings_TrimLeft_one ⟨(dd k M).toArray⟩ 48 (by decide) w
  have e2 : Lib.trimLeftB (⟨(dd k M).toArray⟩ : ByteArray).data.toList 48 = if M = 0 then [] else Lib.decDigits M := strip_dd h
  rw [e2] at e
  exact e
end Go.Proofs.YtphpcpomhcodpaaDoor.Tx

/- Layer 2, on: Text. -/
namespace Go.Proofs.YtphpcpomhcodpaaDoor.Tx
open Go.RowKit Go.Proofs.YtphpcpomhcodpaaDoor.Dig Go.Proofs.YtphpcpomhcodpaaDoor.W Go.Proofs.YtphpcpomhcodpaaDoor.Nat Go.Proofs.YtphpcpomhcodpaaDoor.Wh Go.Proofs.YtphpcpomhcodpaaDoor.Td Go.Proofs.YtphpcpomhcodpaaDoor.Bu

set_option maxHeartbeats 4000000 in
set_option maxRecDepth 100000 in
theorem text_calls (A : Option Addr) (n c : Nat) (l : List Nat) (w : World) (h : SI w .u64 A n c l) (hl : Lt U l) (hn : n ≤ 1000000000000) (hp : Pow w) :
    Calls Tryd.prog 24 #[.slice A n c] w fun e w' => e = .returned (.string ⟨(Lib.decDigits (val U l)).toArray⟩) ∧ Below w.heap.size w w' := by
  have hM : val U l < U ^ n := by rw [← h.len]; exact val_lt U_pos hl
  go_enter Tryd.func24, Tryd.ntmps24
  go_wp2
  go_loopw [0, 3] (fun z p wr => ∃ (t m : Nat) (Ps : List (List UInt8)) (Aa : Option Addr) (na ca : Nat) (L : List Nat) (Ap : Option Addr) (np cp : Nat), z = .slice Aa na ca ∧ p = .slice Ap np cp ∧ np = t ∧ na ≤ 1000000000000 ∧ TI (val U l) n t m Ps ∧ SI wr .u64 Aa na ca L ∧ Lt U L ∧ Hid (val U L = m) ∧ Os wr w.heap.size (.slice Ap np cp) Ps ∧ Below w.heap.size w wr) (fun _ p _ => match p with | .slice _ k _ => 2 * n + 1 - k | _ => 0)
  case atStart => exact ⟨0, val U l, [], _, _, _, l, none, 0, 0, rfl, rfl, rfl, hn, TI.start _ _, h, hl, rfl, Os.nil _ _, Below.refl _ _⟩
  case round =>
    obtain ⟨t, m, Ps, Aa, na, ca, L, Ap, np, cp, rfl, rfl, rfl, hna, hI, hr, hL, HV, hos, hb⟩ := hrel
    by_cases h0 : m = 0
    · subst h0
      have hlt : val U l < 10 ^ (18 * np) := by
        rcases Nat.lt_or_ge (val U l) (10 ^ (18 * np)) with y | y
        · exact y
        · have := Nat.div_pos y (Nat.pow_pos (n := 18 * np) (by omega : 0 < 10))
          have := hI.val
          omega
      have hcat := hI.cat
      have hlen := hI.len
      have hle := hI.le
      have hB := bits_calls Aa na ca L wr hr hL (by omega)
      rw [HV.out, bits_zero] at hB
      have HB := Lib.hid hB
      have HO := Lib.hid hos
      have HC := Lib.hid hcat
      have HW := Lib.hid hb
      clear hB hr hL HV hos hI hp h hl hM hcat hb
      obtain ⟨M, hM⟩ : ∃ M, M = val U l := ⟨_, rfl⟩
      rw [← hM] at hlt HC
      have HM := Lib.hid hM
      clear hM
      go_wp2_with (first
        | (go_at_call 46; (with_reducible refine HB.out.mono ?_); rintro e w1 ⟨rfl, rfl⟩))
      generalize wr = wB at *
      go_loopw [11] (fun z wr => ∃ (i : Nat) (y : Int), z = .int .i64 y ∧ i ≤ np ∧ Hid (y + 1 = i) ∧ Lib.IsBuilderF 60 5 wB.heap.size wB.heap.size (Lib.byteCells (back Ps i)) wr ∧ Below wB.heap.size wB wr) (fun z _ => (intOf z + 1).toNat)
      case atStart => exact ⟨np, (np : Int) - 1, rfl, Nat.le_refl _, by unfold Hid; omega, by rw [← hlen, back_end]; exact .inl ⟨Nat.le_refl _, .slice none 0 0, heap_alloc_new wB _, ⟨rfl, .inl ⟨rfl, rfl⟩⟩, by simp [Value.ownBlock]⟩, alloc_below wB _⟩
      case round =>
        obtain ⟨i, y, rfl, hi, HY, hbu, hbb⟩ := hrel
        cases i with
        | zero =>
          obtain rfl : y = -1 := by have := HY.out; omega
          rw [back_zero, HC.out] at hbu
          have hS := Tryd.Builder_String_any_f wB.heap.size wB.heap.size (dd (18 * np) M) wr hbu hbb.size
          have HS := Lib.hid hS
          have HT := Lib.hid (fun w1 => strip_calls (18 * np) M hlt w1)
          clear hS hbu
          by_cases h0 : M = 0
          · subst h0
            go_wp2_with (first
              | (go_at_call 32; (with_reducible refine HS.out.mono ?_); rintro e w2 ⟨rfl, _, b2⟩)
              | (go_at_call 18; (with_reducible refine (HT.out w2).mono ?_); rintro e w3 ⟨rfl, rfl⟩))
            go_ret
            exact ⟨by rw [← HM.out, dec_small (by omega)]; rfl, HW.out.trans ((hbb.trans b2).mono HW.out.size)⟩
          · have he : (Lib.decDigits M).isEmpty = false := by
              have := dec_len_pos M
              cases hd : Lib.decDigits M with
              | nil => rw [hd] at this; simp at this
              | cons _ _ => rfl
            go_wp2_with (first
              | (go_at_call 32; (with_reducible refine HS.out.mono ?_); rintro e w2 ⟨rfl, _, b2⟩)
              | (go_at_call 18; (with_reducible refine (HT.out w2).mono ?_); rintro e w3 ⟨rfl, rfl⟩))
            go_ret
            exact ⟨by rw [← HM.out]; rfl, HW.out.trans ((hbb.trans b2).mono HW.out.size)⟩
        | succ j =>
          obtain rfl : y = (j : Int) := by have := HY.out; omega
          obtain ⟨b, o, rfl, hblt, hc0⟩ := HO.out.at_ (j := j) (by omega)
          have hc1 := cell_keep hbb hc0
          have hcap := HO.out.cap_
          have hbl := back_le Ps j
          rw [HC.out, dd_len] at hbl
          have hcells := back_cells (Ps := Ps) (j := j) (by omega)
          have hst := back_step (Ps := Ps) (j := j) (by omega)
          generalize Ps.getD j [] = P at *
          have hW := writeString_calls wB.heap.size wB.heap.size _ ⟨P.toArray⟩ wr hbu (by rw [Lib.byteCells_length]; rw [hst, List.length_append] at hbl; show _ + P.toArray.size ≤ _; rw [List.size_toArray]; omega) hbb.size
          rw [hcells] at hW
          have HB2 := Lib.hid hW
          clear hW hcells hst hbl hbu hc0
          go_wp2_with (first
            | (go_at_call 30; (with_reducible refine HB2.out.mono ?_); rintro e w2 ⟨rfl, hb2, b2⟩))
          go_roundw
          case rel => exact ⟨j, (j : Int) - 1, rfl, by omega, by unfold Hid; omega, .inr hb2, hbb.trans b2⟩
          case measure => simp [intOf]
    · have hlt := hI.less hM h0
      have hnew := hI.round hM h0
      have hlen := hI.len
      have hB := bits_calls Aa na ca L wr hr hL (by omega)
      rw [HV.out] at hB
      have hnb : 0 < nbits m := bits_pos h0
      have hmK : m % K < K := Nat.mod_lt _ (by decide)
      have hq : (digs U (m / K)).length ≤ na := by
        have := digs_len_le hL hr.len (Nat.le_refl na)
        rw [HV.out] at this
        exact digs_bound (Nat.div_le_self m K) this
      generalize nbits m = nb at *
      have HB := Lib.hid hB
      have HD := Lib.hid (fun (A3 : Option Addr) (n3 c3 : Nat) (w3 : World) (r3 : SI w3 .u64 A3 n3 c3 (digs U K)) (b3 : Below wr.heap.size wr w3) => div_block Aa A3 na ca n3 c3 m L w3 (hr.below b3) r3 hL HV.out (by omega))
      have HN := Lib.hid hnew
      have HQ := Lib.hid hq
      have HP := Lib.hid (fun (w5 : World) (b5 : Below wr.heap.size wr w5) => (hp.below hb).below b5)
      have HO := Lib.hid hos
      generalize m % K = k at *
      generalize m / K = q at *
      clear hB hnew hq hr hL HV hos hI hp h hl hM
      go_wp2_with (first
        | (go_at_call 46; (with_reducible refine HB.out.mono ?_); rintro e w1 ⟨rfl, rfl⟩)
        | (go_at_call 23; (with_reducible refine (of_block wr).mono ?_); rintro e w3 ⟨v3, rfl, o3, b3⟩; obtain ⟨A3, n3, c3, rfl, r3⟩ := o3.reads_n)
        | (go_at_call 47; (with_reducible refine (HD.out A3 n3 c3 w3 r3 b3).mono ?_); rintro e w4 ⟨v4, v5, rfl, o4, o5, b4⟩; obtain ⟨A4, n4, c4, rfl, r4⟩ := o4.reads_n; obtain ⟨A5, n5, c5, rfl, r5⟩ := o5.reads_n)
        | (go_at_call 48; (with_reducible refine (uint_d A5 n5 c5 k w4 r5 (Nat.lt_trans hmK K_lt)).mono ?_); rintro e w5 ⟨rfl, rfl⟩)
        | (go_at_call 49; (with_reducible refine (fmt_calls k hmK w4 (HP.out w4 (b3.trans (b4.mono b3.size)))).mono ?_); rintro e w6 ⟨S, rfl, hS1, hS2, b6⟩; have HS1 := Lib.hid hS1; clear hS1)
        | (go_at_call 17; (with_reducible refine (rep_calls S hS2 w6).mono ?_); rintro e w7 ⟨rfl, b7⟩)
        | (at_builtin; refine step_append_str _ rfl (.tmp 30) (.tmp 37) rfl w.heap.size (.slice Ap np cp) Ps rfl ((((HO.out.below b3).below b4).below b6).below b7 |>.below (alloc_below _ _)) _ 1 1 (dd 18 k) rfl rfl (lit_str' w7 _ _ _ (pad_str hmK HS1.out)) (by omega) (by have := hb.size; have := b3.size; have := b4.size; have := b6.size; have := b7.size; have := (alloc_below w7 (.cells #[.string (⟨Array.replicate (18 - S.size) 48⟩ ++ S)] 9)).size; omega) ?_; intro v8 w8 os8 g8; obtain ⟨A8, n8, c8, rfl, hn8, hs8⟩ := os8.reads; obtain rfl : n8 = np + 1 := (by rw [hn8, List.length_append, hlen]; rfl); clear hn8 hs8))
      have hbA := alloc_below w7 (.cells #[.string (⟨Array.replicate (18 - S.size) 48⟩ ++ S)] 9)
      have hsz : w.heap.size ≤ w7.heap.size := by have := hb.size; have := b3.size; have := b4.size; have := b6.size; have := b7.size; omega
      have b8 : Below w.heap.size w w8 := ((((((hb.trans (b3.mono hb.size)).trans (b4.mono (by have := hb.size; have := b3.size; omega))).trans (b6.mono (by have := hb.size; have := b3.size; have := b4.size; omega))).trans (b7.mono (by have := hb.size; have := b3.size; have := b4.size; have := b6.size; omega))).trans (hbA.mono hsz))).grown g8 (Nat.le_trans hsz hbA.size) (fun j hj => HO.out.grown j hj)
      have r8 : SI w8 .u64 A4 n4 c4 (digs U q) := Sl.grown ((((r4.below b6).below b7).below hbA)) g8 (fun b o e he => by
        have h1 := HO.out.lt b he.symm
        have h2 := own_from o4 b o none e
        have := b3.size
        omega)
      go_roundw
      case rel => exact ⟨np + 1, q, Ps ++ [dd 18 k], A4, n4, c4, digs U q, A8, np + 1, c8, rfl, rfl, rfl, by rw [← r4.len]; exact Nat.le_trans HQ.out hna, HN.out, r8, dl _, val_digs U_two _, os8, b8⟩
      case measure =>
        simp
        omega
end Go.Proofs.YtphpcpomhcodpaaDoor.Tx
