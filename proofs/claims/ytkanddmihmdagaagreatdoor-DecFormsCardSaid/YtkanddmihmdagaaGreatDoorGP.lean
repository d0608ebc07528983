/- Texts of one layer, joined: Cf, Cg, Ch. -/
import Derived.Test.YtkanddmihmdagaaGreatDoorGO
import Derived.Test.YtkanddmihmdagaaGreatDoorGN
import Derived.Test.YtkanddmihmdagaaGreatDoorGL
set_option linter.unusedVariables false
set_option linter.unusedSimpArgs false
set_option linter.unusedSectionVars false
/- Layer 5: dec.Parse whole. -/
set_option linter.unusedSimpArgs false
set_option linter.unusedVariables false
namespace Go.Proofs.YtkanddmihmdagaaGreatDoor.Dc
open Go.RowKit Go.Proofs.YtkanddmihmdagaaGreatDoor.Dig Go.Proofs.YtkanddmihmdagaaGreatDoor.W Go.Proofs.YtkanddmihmdagaaGreatDoor.Nat Go.Proofs.YtkanddmihmdagaaGreatDoor.Wh Go.Proofs.YtkanddmihmdagaaGreatDoor.Td Go.Proofs.YtkanddmihmdagaaGreatDoor.Bu Go.Proofs.YtkanddmihmdagaaGreatDoor.Tx Go.Proofs.YtkanddmihmdagaaGreatDoor.Sp Go.Proofs.YtkanddmihmdagaaGreatDoor.Rd

/-- without the points -/
def nodot (l : List UInt8) : List UInt8 := l.filter (· != 46)
theorem nodot_cons (c : UInt8) (r : List UInt8) : nodot (c :: r) = if c = 46 then nodot r else c :: nodot r := by
  unfold nodot
  rw [List.filter_cons]
  by_cases h : c = 46
  · subst h; simp
  · rw [if_pos (by simpa using h), if_neg h]
theorem idx_zero (r : List UInt8) : Lib.index (46 :: r) [46] = 0 := by
  rw [Lib.index_one]
  rfl
theorem idx_next {c : UInt8} {r : List UInt8} {i : Nat} (hc : c ≠ 46) (h : Lib.index r [46] = i) : Lib.index (c :: r) [46] = ((i + 1 : Nat) : Int) := by
  rw [Lib.index_one] at h ⊢
  unfold Lib.indexByte
  simp [hc, h]
  try omega
theorem rep_dots : ∀ l : List UInt8, Lib.replaceK [46] [] (Lib.count l [46]) l = nodot l
  | [] => by
    rw [Lib.count_one]
    rfl
  | c :: r => by
    have ih := rep_dots r
    rw [nodot_cons]
    by_cases hc : c = 46
    · subst hc
      rw [if_pos rfl, Lib.count_cons_eq, Nat.add_comm, Lib.replaceK_hit _ _ _ _ 0 (idx_zero r), ← ih]
      rfl
    · rw [if_neg hc, Lib.count_cons_ne _ _ _ hc]
      cases hk : Lib.count r [46] with
      | zero =>
        rw [hk] at ih
        rw [← ih]
        rfl
      | succ k =>
        obtain ⟨i, hi⟩ := Lib.index_of_count (s := r) (old := [46]) (by omega)
        rw [hk, Lib.replaceK_hit _ _ _ _ i hi] at ih
        rw [Lib.replaceK_hit _ _ _ _ (i + 1) (idx_next hc hi), ← ih]
        rfl
theorem repall_dots (l : List UInt8) : Lib.replaceAll l [46] [] = nodot l := by
  unfold Lib.replaceAll Lib.replace
  rw [if_neg (by decide)]
  unfold Lib.replaceNum
  rw [if_pos (.inl (by omega))]
  exact rep_dots l
theorem scan_spec : ∀ (l : List UInt8) (D B i : Nat) (p : Bool) (D' B' e : Nat), scan D B i p l = (D', B', e) →
    i ≤ e ∧ e - i ≤ l.length ∧ (∀ c ∈ nodot (l.take (e - i)), isDig c) ∧ D' = D + (nodot (l.take (e - i))).length ∧ B ≤ B' ∧ B' - B ≤ e - i
  | [], D, B, i, p, D', B', e, h => by
    rw [scan_nil] at h
    obtain ⟨rfl, rfl, rfl⟩ := trip h
    simp [nodot]
  | c :: r, D, B, i, p, D', B', e, h => by
    rw [scan_cons] at h
    by_cases hd : 48 ≤ c.toNat ∧ c.toNat ≤ 57
    · rw [if_pos hd] at h
      obtain ⟨h1, h2, h3, h4, h5, h6⟩ := scan_spec r _ _ _ _ _ _ _ h
      have hc : c ≠ 46 := by rintro rfl; exact absurd hd.1 (by decide)
      have he : e - i = (e - (i + 1)) + 1 := by omega
      rw [he, List.take_succ_cons, nodot_cons, if_neg hc]
      refine ⟨by omega, by simp; omega, ?_, by simp; omega, ?_, ?_⟩
      · intro b hb
        rcases List.mem_cons.1 hb with rfl | hb
        · exact hd
        · exact h3 b hb
      · split at h5 <;> omega
      · split at h5 <;> split at h6 <;> omega
    · rw [if_neg hd] at h
      by_cases hp : c.toNat = 46 ∧ p = false
      · rw [if_pos hp] at h
        obtain ⟨h1, h2, h3, h4, h5, h6⟩ := scan_spec r _ _ _ _ _ _ _ h
        have hc : c = 46 := UInt8.toNat_inj.mp hp.1
        have he : e - i = (e - (i + 1)) + 1 := by omega
        rw [he, List.take_succ_cons, nodot_cons, if_pos hc]
        exact ⟨by omega, by simp; omega, h3, h4, h5, by omega⟩
      · rw [if_neg hp] at h
        obtain ⟨rfl, rfl, rfl⟩ := trip h
        simp [nodot]
/-- what is read -/
def readV (g : Bool) (r : List UInt8) : Array Value × Int :=
  match expV (r.drop (scan 0 0 0 false r).2.2) with
  | none => (dec 0 false [] 0, 50)
  | some x => if nodot (r.take (scan 0 0 0 false r).2.2) = [] then (dec 0 false [] 0, 50)
    else (oc g (told g (nv 0 (nodot (r.take (scan 0 0 0 false r).2.2))) (x - ((scan 0 0 0 false r).2.1 : Int))), oe (told g (nv 0 (nodot (r.take (scan 0 0 0 false r).2.2))) (x - ((scan 0 0 0 false r).2.1 : Int))))
/-- what dec.Parse answers -/
def parseV (s : List UInt8) : Array Value × Int :=
  if s = [110, 97, 110] then (dec 2 false [] 0, 0) else if s = [105, 110, 102] then (dec 1 false [] 0, 0) else if s = [45, 105, 110, 102] then (dec 1 true [] 0, 0)
  else readV (Lib.hasPrefix s [45]) (Lib.trimPrefix s [45])
theorem expV_bound {l : List UInt8} {x : Int} (h : expV l = some x) : -100000 < x ∧ x < 100000 := by
  cases l with
  | nil => injection h with h; omega
  | cons a r =>
    rw [expV_cons] at h
    split at h
    case isTrue hh =>
      obtain ⟨n, hn, h1, h2, _⟩ := exp_ok hh.2
      rw [hn] at h
      injection h with h
      omega
    case isFalse => cases h
set_option maxHeartbeats 8000000 in
set_option maxRecDepth 100000 in
theorem parse_nan (s : ByteArray) (w : World) (e1 : (s.toList == [110, 97, 110]) = true)  : Calls Tryz.prog 18 #[.string s] w fun e w' => e = .returned (.tuple #[.agg #[.int .i64 2, .bool false, .string ⟨#[]⟩, .int .i64 0], .int .i64 0]) ∧ Below w.heap.size w w' := by
  go_enter Tryz.func18, Tryz.ntmps18
  go_wp2
  go_step3
  go_wp2
  rw [Exit.noGoto_ret]
  exact bodyPost_ret (res_bk_t rfl _ (Bk.start w _ _) rfl Tryz.underlying23 rfl (by kernel_rfl)) rfl ⟨rfl, alloc_below _ _⟩
set_option maxHeartbeats 8000000 in
set_option maxRecDepth 100000 in
theorem parse_inf (s : ByteArray) (w : World) (e1 : (s.toList == [110, 97, 110]) = false) (e2 : (s.toList == [105, 110, 102]) = true) (h0 : 0 < s.size) (hb : (s[0].toNat : Int) = 105) : Calls Tryz.prog 18 #[.string s] w fun e w' => e = .returned (.tuple #[.agg #[.int .i64 1, .bool false, .string ⟨#[]⟩, .int .i64 0], .int .i64 0]) ∧ Below w.heap.size w w' := by
  go_enter Tryz.func18, Tryz.ntmps18
  go_wp2
  go_step3
  go_wp2
  rw [Exit.noGoto_ret]
  exact bodyPost_ret (res_bk_t rfl _ (Bk.start w _ _) rfl Tryz.underlying23 rfl (by kernel_rfl)) rfl ⟨rfl, alloc_below _ _⟩
set_option maxHeartbeats 8000000 in
set_option maxRecDepth 100000 in
theorem parse_ninf (s : ByteArray) (w : World) (e1 : (s.toList == [110, 97, 110]) = false) (e2 : (s.toList == [105, 110, 102]) = false) (e3 : (s.toList == [45, 105, 110, 102]) = true) (h0 : 0 < s.size) (hb : (s[0].toNat : Int) = 45) : Calls Tryz.prog 18 #[.string s] w fun e w' => e = .returned (.tuple #[.agg #[.int .i64 1, .bool true, .string ⟨#[]⟩, .int .i64 0], .int .i64 0]) ∧ Below w.heap.size w w' := by
  go_enter Tryz.func18, Tryz.ntmps18
  go_wp2
  go_step3
  go_wp2
  rw [Exit.noGoto_ret]
  exact bodyPost_ret (res_bk_t rfl _ (Bk.start w _ _) rfl Tryz.underlying23 rfl (by kernel_rfl)) rfl ⟨rfl, alloc_below _ _⟩
theorem neq_str {s t : List UInt8} (h : s ≠ t) : ((⟨s.toArray⟩ : ByteArray).toList == t) = false := by
  rw [Lib.toList_data, beq_eq_false_iff_ne]
  exact fun e => h (by simpa using e)
theorem ext_from (l : List UInt8) (n : Nat) : ((⟨l.toArray⟩ : ByteArray).extract n (⟨l.toArray⟩ : ByteArray).size) = ⟨(l.drop n).toArray⟩ := by
  apply ByteArray.ext
  rw [ByteArray.data_extract]
  apply Array.ext'
  rw [size_of, Array.toList_extract]
  simp [List.extract]
  exact List.take_of_length_le (by simp)
theorem ext_to (l : List UInt8) (n : Nat) : ((⟨l.toArray⟩ : ByteArray).extract 0 n) = ⟨(l.take n).toArray⟩ := by
  apply ByteArray.ext
  rw [ByteArray.data_extract]
  apply Array.ext'
  rw [Array.toList_extract]
  simp [List.extract]
theorem readV_calls (s : List UInt8) (h1 : s ≠ [110, 97, 110]) (h2 : s ≠ [105, 110, 102]) (h3 : s ≠ [45, 105, 110, 102]) (w : World) (hMx : Mx w) (hl : s.length ≤ 90000000) :
    Calls Tryz.prog 18 #[str s] w (Res w (readV (Lib.hasPrefix s [45]) (Lib.trimPrefix s [45]))) := by
  have HC := fun w1 => Tryz.strings_CutPrefix ⟨s.toArray⟩ ⟨#[45]⟩ w1
  rw [show (⟨s.toArray⟩ : ByteArray).data.toList = s by simp, show (⟨#[45]⟩ : ByteArray).data.toList = [45] from rfl] at HC
  have hrl : (Lib.trimPrefix s [45]).length ≤ s.length := by
    unfold Lib.trimPrefix
    split
    · rw [List.length_drop]; omega
    · exact Nat.le_refl _
  generalize Lib.hasPrefix s [45] = g at *
  generalize Lib.trimPrefix s [45] = r at *
  have hrs : (⟨r.toArray⟩ : ByteArray).size = r.length := size_of r
  obtain ⟨D, B, e, hsc⟩ : ∃ D B e, scan 0 0 0 false r = (D, B, e) := ⟨_, _, _, rfl⟩
  obtain ⟨s1, s2, s3, s4, s5, s6⟩ := scan_spec _ _ _ _ _ _ _ _ hsc
  simp only [Nat.sub_zero] at s2 s3 s4 s6
  rw [Nat.zero_add] at s4
  have HE := fun w1 => exp_calls (r.drop e) w1 (by rw [List.length_drop]; omega)
  unfold str at HE ⊢
  rw [← ext_from] at HE
  have hsc' : scan 0 0 0 false (⟨r.toArray⟩ : ByteArray).data.toList = (D, B, e) := by rw [show (⟨r.toArray⟩ : ByteArray).data.toList = r by simp]; exact hsc
  unfold readV Res
  rw [hsc]
  dsimp only
  cases hx : expV (r.drop e) with
  | none =>
    rw [hx] at HE
    by_cases h0 : D = 0
    · exact parse_none ⟨s.toArray⟩ ⟨r.toArray⟩ ⟨#[]⟩ g false D B e 0 false ⟨#[]⟩ 0 0 w (by omega) (neq_str h1) (neq_str h2) (neq_str h3) (Lib.hid HC) (Lib.hid hsc') (by omega) (Lib.hid HE) (by rw [h0]; rfl) (by omega)
    · exact parse_noexp ⟨s.toArray⟩ ⟨r.toArray⟩ ⟨#[]⟩ g false D B e 0 false ⟨#[]⟩ 0 0 w (by omega) (neq_str h1) (neq_str h2) (neq_str h3) (Lib.hid HC) (Lib.hid hsc') (by omega) (Lib.hid HE) (eqB (by omega)) (by omega) rfl
  | some x =>
    rw [hx] at HE
    obtain ⟨b1, b2⟩ := expV_bound hx
    dsimp only
    by_cases h0 : nodot (r.take e) = []
    · rw [if_pos h0]
      have h0 : D = 0 := by rw [h0] at s4; exact s4
      exact parse_none ⟨s.toArray⟩ ⟨r.toArray⟩ ⟨#[]⟩ g true D B e x false ⟨#[]⟩ 0 0 w (by omega) (neq_str h1) (neq_str h2) (neq_str h3) (Lib.hid HC) (Lib.hid hsc') (by omega) (Lib.hid HE) (by rw [h0]; rfl) (by omega)
    · rw [if_neg h0]
      have h0' : D ≠ 0 := fun e0 => h0 (List.eq_nil_of_length_eq_zero (by omega))
      have hln : (nodot (r.take e)).length ≤ 100000000 := by
        have : (nodot (r.take e)).length ≤ (r.take e).length := (List.filter_sublist).length_le
        rw [List.length_take] at this
        omega
      have HM := fun w1 => dmade_calls g (nodot (r.take e)) (x - (B : Int)) w1 s3 hln (by omega) (by omega)
      have HR := fun w1 (h : Mx w1) => show Calls Tryz.prog 36 #[.string ((⟨r.toArray⟩ : ByteArray).extract 0 e), .string ⟨#[46]⟩, .string ⟨#[]⟩] w1 fun e' w' => e' = .returned (.string ⟨(nodot (r.take e)).toArray⟩) ∧ Below w1.heap.size w1 w' by
        obtain ⟨m, hm⟩ := h
        have c := Tryz.strings_ReplaceAll ⟨(r.take e).toArray⟩ ⟨#[46]⟩ ⟨#[]⟩ m w1 (by rw [size_of, List.length_take]; omega) hm (by decide) (by
          rw [show (⟨#[]⟩ : ByteArray).size = 0 from rfl, Nat.mul_zero, size_of, List.length_take]
          omega)
        rw [show (⟨(r.take e).toArray⟩ : ByteArray).data.toList = r.take e by simp, show (⟨#[46]⟩ : ByteArray).data.toList = [46] from rfl, show (⟨#[]⟩ : ByteArray).data.toList = [] from rfl, repall_dots, ← ext_to] at c
        exact c
      unfold Ans str at HM
      obtain ⟨G, L, Y, e4⟩ := oc_four g (told g (nv 0 (nodot (r.take e))) (x - (B : Int)))
      rw [e4] at HM ⊢
      generalize oe (told g (nv 0 (nodot (r.take e))) (x - (B : Int))) = er at *
      exact parse_made ⟨s.toArray⟩ ⟨r.toArray⟩ ⟨(nodot (r.take e)).toArray⟩ g true D B e x G L Y er w (by omega) (neq_str h1) (neq_str h2) (neq_str h3) (Lib.hid HC) (Lib.hid hsc') (by omega) (Lib.hid HE) (eqB (by omega)) (by omega) rfl ⟨by omega, by omega⟩ hMx (Lib.hid HR) (Lib.hid HM)
theorem parse_calls (s : List UInt8) (w : World) (hMx : Mx w) (hl : s.length ≤ 90000000) : Calls Tryz.prog 18 #[str s] w (Res w (parseV s)) := by
  unfold parseV
  by_cases h1 : s = [110, 97, 110]
  · rw [if_pos h1]; subst h1; exact parse_nan _ w (by rw [Lib.toList_data]; rfl)
  · rw [if_neg h1]
    by_cases h2 : s = [105, 110, 102]
    · rw [if_pos h2]; subst h2; exact parse_inf _ w (by rw [Lib.toList_data]; rfl) (by rw [Lib.toList_data]; rfl) (by decide) rfl
    · rw [if_neg h2]
      by_cases h3 : s = [45, 105, 110, 102]
      · rw [if_pos h3]; subst h3; exact parse_ninf _ w (by rw [Lib.toList_data]; rfl) (by rw [Lib.toList_data]; rfl) (by rw [Lib.toList_data]; rfl) (by decide) rfl
      · rw [if_neg h3]
        exact readV_calls s h1 h2 h3 w hMx hl
end Go.Proofs.YtkanddmihmdagaaGreatDoor.Dc

/- Layer 5: what awake asks. -/
set_option linter.unusedSimpArgs false
set_option linter.unusedVariables false
namespace Go.Proofs.YtkanddmihmdagaaGreatDoor.Dc
open Go.RowKit Go.Proofs.YtkanddmihmdagaaGreatDoor.Dig Go.Proofs.YtkanddmihmdagaaGreatDoor.W Go.Proofs.YtkanddmihmdagaaGreatDoor.Nat Go.Proofs.YtkanddmihmdagaaGreatDoor.Wh Go.Proofs.YtkanddmihmdagaaGreatDoor.Td Go.Proofs.YtkanddmihmdagaaGreatDoor.Bu Go.Proofs.YtkanddmihmdagaaGreatDoor.Tx Go.Proofs.YtkanddmihmdagaaGreatDoor.Sp Go.Proofs.YtkanddmihmdagaaGreatDoor.Rd

theorem formed_15 : Formed [49, 53] := ⟨by decide, ⟨49, [53], rfl, rfl⟩, ⟨[49], 53, rfl, rfl⟩⟩
theorem formed_225 : Formed [50, 50, 53] := ⟨by decide, ⟨50, [50, 53], rfl, rfl⟩, ⟨[50, 50], 53, rfl, rfl⟩⟩
theorem formed_3' : Formed [51] := ⟨by decide, ⟨51, [], rfl, rfl⟩, ⟨[], 51, rfl, rfl⟩⟩
theorem formed_1' : Formed [49] := ⟨by decide, ⟨49, [], rfl, rfl⟩, ⟨[], 49, rfl, rfl⟩⟩
theorem may_15 : mayB 0 false [49, 53] (-1) = true := by decide
theorem p_a : parseV [49, 46, 53, 48] = (dec 0 false [49, 53] (-1), 0) := by
  have e1 : told false (nv 0 (nodot [49, 46, 53, 48])) (0 - ((2 : Nat) : Int)) = some ([49, 53], -1) := by
    rw [show nv 0 (nodot [49, 46, 53, 48]) = nv 0 [49, 53] * 10 ^ 1 by decide, told_mul]
    exact told_own formed_15 (by decide)
  unfold parseV
  rw [if_neg (by decide), if_neg (by decide), if_neg (by decide)]
  show readV false [49, 46, 53, 48] = _
  unfold readV
  rw [show scan 0 0 0 false [49, 46, 53, 48] = (3, 2, 4) from rfl]
  dsimp only
  rw [show expV (List.drop 4 [49, 46, 53, 48]) = some 0 from rfl]
  dsimp only
  rw [if_neg (by decide), show List.take 4 ([49, 46, 53, 48] : List UInt8) = [49, 46, 53, 48] from rfl, e1]
  rfl
theorem p_b : parseV [] = (dec 0 false [] 0, 50) := rfl
theorem p_c : parseV [49, 101, 50, 48, 48, 48] = (dec 0 false [] 0, 51) := by
  have e1 : told false (nv 0 [49]) (2000 - ((0 : Nat) : Int)) = none := by
    unfold told
    rw [formed_1'.cd, formed_1'.ce, if_neg (Nat.pos_iff_ne_zero.1 formed_1'.pos), if_neg (by decide)]
  unfold parseV
  rw [if_neg (by decide), if_neg (by decide), if_neg (by decide)]
  show readV false [49, 101, 50, 48, 48, 48] = _
  unfold readV
  rw [show scan 0 0 0 false [49, 101, 50, 48, 48, 48] = (1, 0, 1) from rfl]
  dsimp only
  rw [show expV (List.drop 1 [49, 101, 50, 48, 48, 48]) = some 2000 by decide]
  dsimp only
  rw [show nodot (List.take 1 [49, 101, 50, 48, 48, 48]) = [49] from rfl, if_neg (by decide), e1]
  rfl
theorem p_d : printV 0 false [49, 53] (-1) = ([49, 53, 101, 45, 49], 0) := by
  have e1 : Lib.itoa (-1) = [45, 49] := by
    unfold Lib.itoa
    rw [if_pos (by decide), show (-1 : Int).natAbs = 1 from rfl, dec_small (by decide)]
    rfl
  unfold printV numT
  rw [may_15, if_neg (by decide), if_neg (by decide), if_neg (by decide), if_neg (by decide), e1]
  rfl
theorem p_e : printV 0 false [] 1 = ([], 52) := by
  unfold printV
  rw [if_pos (by decide)]
theorem p_f : addV 0 false [49, 53] (-1) 0 false [49, 53] (-1) = (dec 0 false [51] 0, 0) := by
  have e1 : told false (nv 0 [51] * 10 ^ 1) (-1) = some ([51], 0) := by
    rw [told_mul]
    exact told_own formed_3' (by decide)
  unfold addV
  rw [if_neg (by rw [may_15]; decide), if_neg (by decide), if_neg (by decide), if_neg (by decide), if_neg (by decide),
    show decide (sg false (amt [49, 53] (-1) (min (-1) (-1))) + sg false (amt [49, 53] (-1) (min (-1) (-1))) < 0) = false by decide,
    show (sg false (amt [49, 53] (-1) (min (-1) (-1))) + sg false (amt [49, 53] (-1) (min (-1) (-1)))).natAbs = nv 0 [51] * 10 ^ 1 by decide, show min (-1 : Int) (-1) = -1 from rfl, e1]
  rfl
theorem p_g : mulV 0 false [49, 53] (-1) 0 false [49, 53] (-1) = (dec 0 false [50, 50, 53] (-2), 0) := by
  have e1 : told false (nv 0 [50, 50, 53]) (-2) = some ([50, 50, 53], -2) := told_own formed_225 (by decide)
  unfold mulV
  rw [if_neg (by rw [may_15]; decide), if_neg (by decide), if_neg (by decide), if_neg (by decide), show nv 0 [49, 53] * nv 0 [49, 53] = nv 0 [50, 50, 53] by decide, show (-1 : Int) + (-1) = -2 from rfl, show (false != false) = false from rfl, e1]
  rfl
theorem p_h : scaleV 0 false [49, 53] (-1) 3 = (dec 0 false [49, 53] 2, 0) := by
  have e1 : told false (nv 0 [49, 53]) (-1 + 3) = some ([49, 53], 2) := told_own formed_15 (by decide)
  unfold scaleV
  rw [may_15, if_neg (by decide), if_neg (by decide), if_neg (by decide), e1]
  rfl
theorem p_i : cmpV 0 false [49, 53] (-1) 0 false [51] 0 = (-1, 0) := by
  unfold cmpV
  rw [if_neg (by rw [may_15]; decide)]
  have e1 : lex (keyV 0 false) (valV 0 false [49, 53] (-1)) (keyV 0 false) (valV 0 false [51] 0) = -1 := by
    unfold lex order
    rw [if_neg (by decide), if_neg (by decide), if_pos (by decide +kernel)]
  rw [e1]
theorem p_j : ngV 0 false [49, 53] (-1) = (dec 0 true [49, 53] (-1), 0) := by
  unfold ngV
  rw [if_neg (by decide)]
  rfl
abbrev D15 : Value := .agg #[.int .i64 0, .bool false, .string ⟨#[49, 53]⟩, .int .i64 (-1)]
def RD (w : World) (c : Int) (g : Bool) (S : ByteArray) (x er : Int) (e : Ending) (w' : World) : Prop := e = .returned (.tuple #[.agg #[.int .i64 c, .bool g, .string S, .int .i64 x], .int .i64 er]) ∧ Below w.heap.size w w'
theorem aw5_a (w : World) (hm : Mx w) : Calls Tryz.prog 18 #[.string ⟨#[49, 46, 53, 48]⟩] w fun e w' => e = .returned (.tuple #[.agg #[.int .i64 0, .bool false, .string ⟨#[49, 53]⟩, .int .i64 (-1)], .int .i64 0]) ∧ Below w.heap.size w w' := by
  have e := parse_calls [49, 46, 53, 48] w hm (by decide)
  rw [p_a] at e
  exact e
theorem aw5_b (w : World) (hm : Mx w) : Calls Tryz.prog 18 #[.string ⟨#[]⟩] w fun e w' => e = .returned (.tuple #[.agg #[.int .i64 0, .bool false, .string ⟨#[]⟩, .int .i64 0], .int .i64 50]) ∧ Below w.heap.size w w' := by
  have e := parse_calls [] w hm (by decide)
  rw [p_b] at e
  exact e
theorem aw5_c (w : World) (hm : Mx w) : Calls Tryz.prog 18 #[.string ⟨#[49, 101, 50, 48, 48, 48]⟩] w fun e w' => e = .returned (.tuple #[.agg #[.int .i64 0, .bool false, .string ⟨#[]⟩, .int .i64 0], .int .i64 51]) ∧ Below w.heap.size w w' := by
  have e := parse_calls [49, 101, 50, 48, 48, 48] w hm (by decide)
  rw [p_c] at e
  exact e
theorem aw5_d (w : World) (hp : Pow w) : Calls Tryz.prog 20 #[D15] w fun e w' => e = .returned (.tuple #[.string ⟨#[49, 53, 101, 45, 49]⟩, .int .i64 0]) ∧ Below w.heap.size w w' := by
  have e := print_calls 0 false [49, 53] (-1) w hp (by decide)
  rw [p_d] at e
  exact e
theorem aw5_e (w : World) (hp : Pow w) : Calls Tryz.prog 20 #[.agg #[.int .i64 0, .bool false, .string ⟨#[]⟩, .int .i64 1]] w fun e w' => e = .returned (.tuple #[.string ⟨#[]⟩, .int .i64 52]) ∧ Below w.heap.size w w' := by
  have e := print_calls 0 false [] 1 w hp (by decide)
  rw [p_e] at e
  exact e
theorem aw5_f (w : World) (hp : Pow w) : Calls Tryz.prog 28 #[D15, D15] w fun e w' => e = .returned (.tuple #[.agg #[.int .i64 0, .bool false, .string ⟨#[51]⟩, .int .i64 0], .int .i64 0]) ∧ Below w.heap.size w w' := by
  have e := add_calls 0 false [49, 53] (-1) 0 false [49, 53] (-1) w hp (by decide) (by decide)
  rw [p_f] at e
  exact e
theorem aw5_g (w : World) (hp : Pow w) : Calls Tryz.prog 30 #[D15, D15] w fun e w' => e = .returned (.tuple #[.agg #[.int .i64 0, .bool false, .string ⟨#[50, 50, 53]⟩, .int .i64 (-2)], .int .i64 0]) ∧ Below w.heap.size w w' := by
  have e := mul_calls 0 false [49, 53] (-1) 0 false [49, 53] (-1) w hp (by decide) (by decide)
  rw [p_g] at e
  exact e
theorem aw5_h (w : World) : Calls Tryz.prog 26 #[D15, .int .i64 3] w fun e w' => e = .returned (.tuple #[.agg #[.int .i64 0, .bool false, .string ⟨#[49, 53]⟩, .int .i64 2], .int .i64 0]) ∧ Below w.heap.size w w' := by
  have e := scale_calls 0 false [49, 53] (-1) 3 w (by decide)
  rw [p_h] at e
  exact e
theorem aw5_i (w : World) : Calls Tryz.prog 22 #[D15, .agg #[.int .i64 0, .bool false, .string ⟨#[51]⟩, .int .i64 0]] w fun e w' => e = .returned (.tuple #[.int .i64 (-1), .int .i64 0]) ∧ Below w.heap.size w w' := by
  have e := cmp_all 0 false [49, 53] (-1) 0 false [51] 0 w (by decide) (by decide)
  rw [p_i] at e
  exact e
theorem aw5_j (w : World) : Calls Tryz.prog 24 #[D15] w fun e w' => e = .returned (.tuple #[.agg #[.int .i64 0, .bool true, .string ⟨#[49, 53]⟩, .int .i64 (-1)], .int .i64 0]) ∧ Below w.heap.size w w' := by
  have e := neg_calls 0 false [49, 53] (-1) w (by decide)
  rw [p_j] at e
  exact e
theorem aw5_k (w : World) : Calls Tryz.prog 14 #[D15] w fun e w' => e = .returned (.bool true) ∧ Below w.heap.size w w' := by
  have e := dmay_calls 0 false [49, 53] (-1) w (by decide)
  rw [may_15] at e
  exact e
theorem aw5_l (w : World) : Calls Tryz.prog 16 #[D15] w fun e w' => e = .returned (.int .i64 1) ∧ Below w.heap.size w w' := by
  have e := place_calls false [49, 53] (-1) w formed_15 (by decide)
  exact e
end Go.Proofs.YtkanddmihmdagaaGreatDoor.Dc

/- Layer 5's laws: awake. -/
set_option linter.unusedSimpArgs false
set_option linter.unusedVariables false
namespace Go.Proofs.YtkanddmihmdagaaGreatDoor.Dc
open Go.RowKit Go.Proofs.YtkanddmihmdagaaGreatDoor.Dig Go.Proofs.YtkanddmihmdagaaGreatDoor.W Go.Proofs.YtkanddmihmdagaaGreatDoor.Nat Go.Proofs.YtkanddmihmdagaaGreatDoor.Wh Go.Proofs.YtkanddmihmdagaaGreatDoor.Td Go.Proofs.YtkanddmihmdagaaGreatDoor.Bu Go.Proofs.YtkanddmihmdagaaGreatDoor.Tx Go.Proofs.YtkanddmihmdagaaGreatDoor.Sp Go.Proofs.YtkanddmihmdagaaGreatDoor.Rd

/-- what a row's world bears -/
def PM (w : World) : Prop := Pow w ∧ Mx w
theorem PM.p {w : World} (h : PM w) : Pow w := h.1
theorem PM.m {w : World} (h : PM w) : Mx w := h.2
theorem PM.below {w w' : World} (h : PM w) (hb : Below w.heap.size w w') : PM w' := ⟨h.1.below hb, h.2.below hb⟩
attribute [local go_sem ↓] eq_dec
set_option maxHeartbeats 16000000 in
set_option maxRecDepth 100000 in
theorem awake_calls (w : World) (hp : PM w) : Calls Tryz.prog 13 #[] w fun e w' => e = .returned (.bool true) ∧ Below w.heap.size w w' := by
  have P0 := Lib.hid hp
  have L0 := Lib.hid (Below.refl w.heap.size w)
  have ng := no_guard
  clear hp
  go_enter Tryz.func13, Tryz.ntmps13
  go_upto_region 2 with (first
    | (go_at_call 18; (with_reducible refine (aw5_a w (P0.out.m)).mono ?_); rintro e v1 ⟨rfl, c1⟩))
  have P1 := Lib.hid ((P0.out.below c1).below (alloc_below v1 (.cells #[.int .i64 0, .bool false, .string ⟨#[49, 53]⟩, .int .i64 (-1)] 23)))
  have L1 := Lib.hid (on (on L0.out c1) (alloc_below v1 (.cells #[.int .i64 0, .bool false, .string ⟨#[49, 53]⟩, .int .i64 (-1)] 23)))
  have Ba := Bk.start v1 23 #[.int .i64 0, .bool false, .string ⟨#[49, 53]⟩, .int .i64 (-1)]
  obtain ⟨V1, hV1⟩ : ∃ V, V = v1.alloc (.cells #[.int .i64 0, .bool false, .string ⟨#[49, 53]⟩, .int .i64 (-1)] 23) := ⟨_, rfl⟩
  rw [← hV1] at P1 L1 Ba ⊢
  generalize v1.heap.size = ga at *
  clear hV1 P0 L0 c1
  have ka := four Ba
  go_upto_region 3 with (first
    | (go_at_call 20; (with_reducible refine (aw5_d V1 (P1.out.p)).mono ?_); rintro e v2 ⟨rfl, c2⟩))
  clear ka
  have P2 := Lib.hid (P1.out.below c2)
  have L2 := Lib.hid (on L1.out c2)
  replace Ba := Ba.below c2
  clear P1 L1 c2
  have ka := four Ba
  go_upto_region 4 with (first
    | (go_at_call 18; (with_reducible refine (aw5_b v2 (P2.out.m)).mono ?_); rintro e v3 ⟨rfl, c3⟩))
  clear ka
  have P3 := Lib.hid ((P2.out.below c3).below (alloc_below v3 (.cells #[.int .i64 0, .bool false, .string ⟨#[]⟩, .int .i64 0] 23)))
  have L3 := Lib.hid (on (on L2.out c3) (alloc_below v3 (.cells #[.int .i64 0, .bool false, .string ⟨#[]⟩, .int .i64 0] 23)))
  replace Ba := (Ba.below c3).alloc (.cells #[.int .i64 0, .bool false, .string ⟨#[]⟩, .int .i64 0] 23)
  obtain ⟨V3, hV3⟩ : ∃ V, V = v3.alloc (.cells #[.int .i64 0, .bool false, .string ⟨#[]⟩, .int .i64 0] 23) := ⟨_, rfl⟩
  rw [← hV3] at P3 L3 Ba ⊢
  clear hV3 P2 L2 c3
  have ka := four Ba
  go_upto_region 5 with (first
    | (go_at_call 18; (with_reducible refine (aw5_c V3 (P3.out.m)).mono ?_); rintro e v4 ⟨rfl, c4⟩))
  clear ka
  have P4 := Lib.hid ((P3.out.below c4).below (alloc_below v4 (.cells #[.int .i64 0, .bool false, .string ⟨#[]⟩, .int .i64 0] 23)))
  have L4 := Lib.hid (on (on L3.out c4) (alloc_below v4 (.cells #[.int .i64 0, .bool false, .string ⟨#[]⟩, .int .i64 0] 23)))
  replace Ba := (Ba.below c4).alloc (.cells #[.int .i64 0, .bool false, .string ⟨#[]⟩, .int .i64 0] 23)
  obtain ⟨V4, hV4⟩ : ∃ V, V = v4.alloc (.cells #[.int .i64 0, .bool false, .string ⟨#[]⟩, .int .i64 0] 23) := ⟨_, rfl⟩
  rw [← hV4] at P4 L4 Ba ⊢
  clear hV4 P3 L3 c4
  have ka := four Ba
  go_upto_region 6 with (first
    | (go_at_call 20; (with_reducible refine (aw5_e V4 (P4.out.p)).mono ?_); rintro e v5 ⟨rfl, c5⟩))
  clear ka
  have P5 := Lib.hid (P4.out.below c5)
  have L5 := Lib.hid (on L4.out c5)
  replace Ba := Ba.below c5
  clear P4 L4 c5
  have ka := four Ba
  go_upto_region 7 with (first
    | (go_at_call 28; (with_reducible refine (aw5_f v5 (P5.out.p)).mono ?_); rintro e v6 ⟨rfl, c6⟩))
  clear ka
  have P6 := Lib.hid ((P5.out.below c6).below (alloc_below v6 (.cells #[.int .i64 0, .bool false, .string ⟨#[51]⟩, .int .i64 0] 23)))
  have L6 := Lib.hid (on (on L5.out c6) (alloc_below v6 (.cells #[.int .i64 0, .bool false, .string ⟨#[51]⟩, .int .i64 0] 23)))
  replace Ba := (Ba.below c6).alloc (.cells #[.int .i64 0, .bool false, .string ⟨#[51]⟩, .int .i64 0] 23)
  have Bx := Bk.start v6 23 #[.int .i64 0, .bool false, .string ⟨#[51]⟩, .int .i64 0]
  obtain ⟨V6, hV6⟩ : ∃ V, V = v6.alloc (.cells #[.int .i64 0, .bool false, .string ⟨#[51]⟩, .int .i64 0] 23) := ⟨_, rfl⟩
  rw [← hV6] at P6 L6 Ba Bx ⊢
  generalize v6.heap.size = gx at *
  clear hV6 P5 L5 c6
  have ka := four Ba
  have kx := four Bx
  go_upto_region 8 with (first
    | (go_at_call 30; (with_reducible refine (aw5_g V6 (P6.out.p)).mono ?_); rintro e v7 ⟨rfl, c7⟩))
  clear ka
  clear kx
  have P7 := Lib.hid ((P6.out.below c7).below (alloc_below v7 (.cells #[.int .i64 0, .bool false, .string ⟨#[50, 50, 53]⟩, .int .i64 (-2)] 23)))
  have L7 := Lib.hid (on (on L6.out c7) (alloc_below v7 (.cells #[.int .i64 0, .bool false, .string ⟨#[50, 50, 53]⟩, .int .i64 (-2)] 23)))
  replace Ba := (Ba.below c7).alloc (.cells #[.int .i64 0, .bool false, .string ⟨#[50, 50, 53]⟩, .int .i64 (-2)] 23)
  replace Bx := (Bx.below c7).alloc (.cells #[.int .i64 0, .bool false, .string ⟨#[50, 50, 53]⟩, .int .i64 (-2)] 23)
  have By := Bk.start v7 23 #[.int .i64 0, .bool false, .string ⟨#[50, 50, 53]⟩, .int .i64 (-2)]
  obtain ⟨V7, hV7⟩ : ∃ V, V = v7.alloc (.cells #[.int .i64 0, .bool false, .string ⟨#[50, 50, 53]⟩, .int .i64 (-2)] 23) := ⟨_, rfl⟩
  rw [← hV7] at P7 L7 Ba Bx By ⊢
  generalize v7.heap.size = gy at *
  clear hV7 P6 L6 c7
  have ka := four Ba
  have kx := four Bx
  go_upto_region 9 with (first
    | (go_at_call 26; (with_reducible refine (aw5_h V7).mono ?_); rintro e v8 ⟨rfl, c8⟩))
  clear ka
  clear kx
  have P8 := Lib.hid ((P7.out.below c8).below (alloc_below v8 (.cells #[.int .i64 0, .bool false, .string ⟨#[49, 53]⟩, .int .i64 2] 23)))
  have L8 := Lib.hid (on (on L7.out c8) (alloc_below v8 (.cells #[.int .i64 0, .bool false, .string ⟨#[49, 53]⟩, .int .i64 2] 23)))
  replace Ba := (Ba.below c8).alloc (.cells #[.int .i64 0, .bool false, .string ⟨#[49, 53]⟩, .int .i64 2] 23)
  replace Bx := (Bx.below c8).alloc (.cells #[.int .i64 0, .bool false, .string ⟨#[49, 53]⟩, .int .i64 2] 23)
  replace By := (By.below c8).alloc (.cells #[.int .i64 0, .bool false, .string ⟨#[49, 53]⟩, .int .i64 2] 23)
  have Bz := Bk.start v8 23 #[.int .i64 0, .bool false, .string ⟨#[49, 53]⟩, .int .i64 2]
  obtain ⟨V8, hV8⟩ : ∃ V, V = v8.alloc (.cells #[.int .i64 0, .bool false, .string ⟨#[49, 53]⟩, .int .i64 2] 23) := ⟨_, rfl⟩
  rw [← hV8] at P8 L8 Ba Bx By Bz ⊢
  generalize v8.heap.size = gz at *
  clear hV8 P7 L7 c8
  have ka := four Ba
  have kx := four Bx
  go_upto_region 10 with (first
    | (go_at_call 22; (with_reducible refine (aw5_i V8).mono ?_); rintro e v9 ⟨rfl, c9⟩))
  clear ka
  clear kx
  have P9 := Lib.hid (P8.out.below c9)
  have L9 := Lib.hid (on L8.out c9)
  replace Ba := Ba.below c9
  replace Bx := Bx.below c9
  replace By := By.below c9
  replace Bz := Bz.below c9
  clear P8 L8 c9
  have ka := four Ba
  have kx := four Bx
  go_upto_region 11 with (first
    | (go_at_call 24; (with_reducible refine (aw5_j v9).mono ?_); rintro e v10 ⟨rfl, c10⟩))
  clear ka
  clear kx
  have P10 := Lib.hid ((P9.out.below c10).below (alloc_below v10 (.cells #[.int .i64 0, .bool true, .string ⟨#[49, 53]⟩, .int .i64 (-1)] 23)))
  have L10 := Lib.hid (on (on L9.out c10) (alloc_below v10 (.cells #[.int .i64 0, .bool true, .string ⟨#[49, 53]⟩, .int .i64 (-1)] 23)))
  replace Ba := (Ba.below c10).alloc (.cells #[.int .i64 0, .bool true, .string ⟨#[49, 53]⟩, .int .i64 (-1)] 23)
  replace Bx := (Bx.below c10).alloc (.cells #[.int .i64 0, .bool true, .string ⟨#[49, 53]⟩, .int .i64 (-1)] 23)
  replace By := (By.below c10).alloc (.cells #[.int .i64 0, .bool true, .string ⟨#[49, 53]⟩, .int .i64 (-1)] 23)
  replace Bz := (Bz.below c10).alloc (.cells #[.int .i64 0, .bool true, .string ⟨#[49, 53]⟩, .int .i64 (-1)] 23)
  have Bn := Bk.start v10 23 #[.int .i64 0, .bool true, .string ⟨#[49, 53]⟩, .int .i64 (-1)]
  obtain ⟨V10, hV10⟩ : ∃ V, V = v10.alloc (.cells #[.int .i64 0, .bool true, .string ⟨#[49, 53]⟩, .int .i64 (-1)] 23) := ⟨_, rfl⟩
  rw [← hV10] at P10 L10 Ba Bx By Bz Bn ⊢
  generalize v10.heap.size = gn at *
  clear hV10 P9 L9 c10
  have ka := four Ba
  have kx := four Bx
  have ky := four By
  have kz := four Bz
  have kn := four Bn
  go_wp2_with (first
    | (go_at_call 14; (with_reducible refine (aw5_k V10).mono ?_); rintro e v11 ⟨rfl, c11⟩; have ka2 := four (Ba.below c11))
    | (go_at_call 16; (with_reducible refine (aw5_l v11).mono ?_); rintro e v12 ⟨rfl, c12⟩))
  go_ret
  exact ⟨rfl, on (on L10.out c11) c12⟩
end Go.Proofs.YtkanddmihmdagaaGreatDoor.Dc
