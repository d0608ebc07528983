/- Texts of one layer, joined: Qf, Tb, Tz, Ty, Ts, Tp, Tr, Ia, Ib, Ic, Jc, Jf. -/
import Derived.Test.YtphpcpomhcodpaaDoorGE
import Derived.Test.YtphpcpomhcodpaaDoorGF
import Derived.Shelf.Strings.SlTrimAscii
import Derived.Lib.SmallJoins
import Derived.Test.YtphpcpomhcodpaaDoorGI
import Derived.Test.YtphpcpomhcodpaaDoorGK
import Derived.Deep.DeepCutAuto
set_option linter.unusedVariables false
set_option linter.unusedSimpArgs false
set_option linter.unusedSectionVars false
/- The document's answer of layer 2, on: Add of like signs. -/
namespace Go.Proofs.YtphpcpomhcodpaaDoor.Rw
open Go.RowKit Go.Proofs.YtphpcpomhcodpaaDoor.Dig Go.Proofs.YtphpcpomhcodpaaDoor.W Go.Proofs.YtphpcpomhcodpaaDoor.Nat Go.Proofs.YtphpcpomhcodpaaDoor.Wh
open Go.Proofs.YtphpcpomhcodpaaDoor.Rf (V V_two V_pos)

theorem len_addR {l l' : List Nat} {n n' M : Nat} (hl : Lt V l) (hl' : Lt V l') (h : l.length = n) (h' : l'.length = n') (hn : n ≤ M) (hn' : n' ≤ M) : (digs V (val V l + val V l')).length ≤ M + 1 := by
  have h1 := val_lt V_pos hl
  have h2 := val_lt V_pos hl'
  have p1 : V ^ l.length ≤ V ^ M := Nat.pow_le_pow_right V_pos (by omega)
  have p2 : V ^ l'.length ≤ V ^ M := Nat.pow_le_pow_right V_pos (by omega)
  have p3 : V ^ M * 2 ≤ V ^ (M + 1) := by rw [Nat.pow_succ]; exact Nat.mul_le_mul_left _ V_two
  exact (digs_length_le V_two _ _).2 (by omega)
end Go.Proofs.YtphpcpomhcodpaaDoor.Rw

/- The document's answer of layer 2, on: by. -/
namespace Go.Proofs.YtphpcpomhcodpaaDoor.Rw
open Go.RowKit Go.Proofs.YtphpcpomhcodpaaDoor.Dig Go.Proofs.YtphpcpomhcodpaaDoor.W Go.Proofs.YtphpcpomhcodpaaDoor.Nat Go.Proofs.YtphpcpomhcodpaaDoor.Wh
open Go.Proofs.YtphpcpomhcodpaaDoor.Rf (V V_two V_pos)

/-- the word that is divided -/
def xw (r d : Nat) : Nat := r * 65536 + d
theorem xw_lt {r d : Nat} (hr : r < 10000) (hd : d < 65536) : xw r d < 655360000 := by unfold xw; omega
theorem by_or {r d : Nat} (hr : r < 10000) (hd : d < V) : Go.bits .or .u32 ((r : Int) * 65536) (d : Int) = (xw r d : Nat) := by
  have hd' : d < 2 ^ 16 := hd
  have e := Nat.two_pow_add_eq_or_of_lt hd' r
  have h1 := u32_or_nat (2 ^ 16 * r) d (by omega) (by unfold Rf.V at hd; omega)
  rw [← e] at h1
  rw [show (r : Int) * 65536 = ((2 ^ 16 * r : Nat) : Int) by omega, h1]
  unfold xw
  congr 1
  omega
theorem by_rem (x : Nat) : ((x : Nat) : Int).tmod 10000 = ((x % 10000 : Nat) : Int) := by
  rw [Int.tmod_eq_emod_of_nonneg (by omega)]; omega
theorem by_quo {x : Nat} (h : x < 655360000) : ((x : Nat) : Int).tdiv 10000 % 4294967296 = ((x / 10000 : Nat) : Int) := by
  rw [Int.tdiv_eq_ediv_of_nonneg (by omega)]; omega
/-- where by stands: the digits from i on are divided -/
structure ByI (l O : List Nat) (n i r : Nat) : Prop where
  len : O.length = n
  lt : Lt V O
  zero : O.take i = List.replicate i 0
  inv : V ^ i * (10000 * val V (O.drop i) + r) = V ^ i * val V (l.drop i)
  rlt : r < 10000
theorem ByI.start {l : List Nat} {n : Nat} (h : l.length = n) : ByI l (List.replicate n 0) n n 0 :=
  ⟨by simp, fun x hx => by rw [(List.mem_replicate.1 hx).2]; exact V_pos, by rw [List.take_of_length_le (by simp)], by
    rw [← h, List.drop_length, List.drop_of_length_le (by simp)]; simp [val_nil], by omega⟩
theorem ByI.round {l O : List Nat} {n i r : Nat} (h : ByI l O n (i + 1) r) (hl : Lt V l) (hn : l.length = n) (hi : i < n) :
    ByI l (O.set i (xw r (rd l i) / 10000)) n i (xw r (rd l i) % 10000) := by
  have hd := rd_lt hl V_pos i
  have hx : xw r (rd l i) / 10000 < V := by
    have := h.rlt
    have h1 : xw r (rd l i) < 10000 * 65536 := by unfold xw; unfold Rf.V at hd; omega
    unfold Rf.V
    omega
  have hval : 10000 * val V (O.drop (i + 1)) + r = val V (l.drop (i + 1)) := Nat.eq_of_mul_eq_mul_left (Nat.pow_pos V_pos) h.inv
  refine ⟨by rw [List.length_set, h.len], set_lt h.lt hx, ?_, ?_, Nat.mod_lt _ (by omega)⟩
  · rw [List.take_set_of_le (Nat.le_refl i)]
    have := congrArg (List.take i) h.zero
    rw [List.take_take, Nat.min_eq_left (by omega), List.take_replicate, Nat.min_eq_left (by omega)] at this
    exact this
  · congr 1
    rw [drop_rd (by omega : i < l.length), val_cons, ← hval, drop_rd (by rw [List.length_set, h.len]; exact hi), val_cons, rd_set (by rw [h.len]; exact hi), if_pos rfl, List.drop_set_of_lt (by omega)]
    have e := Nat.mod_add_div (xw r (rd l i)) 10000
    have ev : V = 65536 := rfl
    unfold xw at e ⊢
    rw [ev] at *
    generalize val 65536 (O.drop (i + 1)) = q at *
    omega
theorem ByI.done {l O : List Nat} {n r : Nat} (h : ByI l O n 0 r) : val V O = val V l / 10000 ∧ r = val V l % 10000 := by
  have e := h.inv
  rw [Nat.pow_zero, Nat.one_mul, Nat.one_mul, List.drop_zero, List.drop_zero] at e
  have := h.rlt
  omega
end Go.Proofs.YtphpcpomhcodpaaDoor.Rw

/- The document's answer of layer 2, on: Text. -/
namespace Go.Proofs.YtphpcpomhcodpaaDoor.Rw
open Go.RowKit Go.Proofs.YtphpcpomhcodpaaDoor.Dig Go.Proofs.YtphpcpomhcodpaaDoor.W Go.Proofs.YtphpcpomhcodpaaDoor.Nat Go.Proofs.YtphpcpomhcodpaaDoor.Wh Go.Proofs.YtphpcpomhcodpaaDoor.Td
open Go.Proofs.YtphpcpomhcodpaaDoor.Rf (V V_two V_pos)

/-- bytes as numbers -/
def bN (l : List UInt8) : List Nat := l.map UInt8.toNat
theorem bN_len (l : List UInt8) : (bN l).length = l.length := by simp [bN]
theorem bN_app (a b : List UInt8) : bN (a ++ b) = bN a ++ bN b := by simp [bN]
theorem bN_rd {l : List UInt8} {j : Nat} (h : j < l.length) : rd (bN l) j = l[j].toNat := by
  unfold rd bN
  rw [List.getD_eq_getElem?_getD, List.getElem?_map, List.getElem?_eq_getElem h]
  rfl
theorem info8 : (Tryd.prog.info? 5).map (fun i => (i.zero, i.size, i.bytes)) = some (some (.int .u8 0), 1, 1) := by kernel_rfl
theorem own_empty8 (w : World) : Ow (w.alloc (.cells #[] 5)) w.heap.size 5 .u8 (.slice (some ⟨w.heap.size, 0, none⟩) 0 0) [] :=
  ⟨rfl, .inr ⟨w.heap.size, 0, #[], rfl, Nat.le_refl _, heap_alloc_new w _, Nat.le_refl _, by unfold maxLen; omega, rfl, rfl⟩⟩
theorem lit8 (w : World) (x : Nat) {z : Int} (hz : z = x) : SI (w.alloc (.cells #[.int .u8 z] 5)) .u8 (some ⟨w.heap.size, 0, none⟩) 1 1 [x] := by
  subst hz
  exact ⟨rfl, Nat.le_refl _, by omega, fun _ => ⟨w.heap.size, 0, rfl, fun j u hu => by
    rw [World.cell?, show (w.alloc (.cells #[.int .u8 (x : Nat)] 5)).heap[w.heap.size]? = _ from heap_alloc_new w _]
    simpa [nums] using hu⟩⟩
theorem dd_cons (k m : Nat) : dd (k + 1) m = db (m / 10 ^ k % 10) :: dd k m := by
  rw [Nat.add_comm, dd_add]
  rfl
/-- the digits of M without noughts ahead -/
def strip (M : Nat) : List UInt8 := if M = 0 then [] else Lib.decDigits M
theorem strip_row {K M : Nat} (h : M < 10 ^ K) (h0 : M = 0 ∨ 0 < K) : (strip M).length ≤ K ∧ (dd K M).reverse = (strip M).reverse ++ List.replicate (K - (strip M).length) 48 := by
  unfold strip
  by_cases hM : M = 0
  · subst hM
    rw [if_pos rfl, dd_zero]
    simp
  · rw [if_neg hM]
    have h1 := pad_dd K M h (h0.resolve_left hM)
    refine ⟨h1.1, ?_⟩
    rw [← h1.2, List.reverse_append, List.reverse_replicate]
theorem strip_top {M : Nat} (h : 0 < (strip M).length) : ∃ c, (strip M).head? = some c ∧ (c == 48) = false := by
  unfold strip at h ⊢
  by_cases hM : M = 0
  · rw [if_pos hM] at h; simp at h
  · rw [if_neg hM]
    obtain ⟨c, r, e, hc⟩ := dec_head M hM
    exact ⟨c, by rw [e]; rfl, hc⟩
/-- what low reads at a place -/
theorem low_hi {M K j : Nat} {B : List UInt8} (hB : B = (strip M).reverse ++ List.replicate (K - (strip M).length) 48) (h1 : (strip M).length ≤ j) (h2 : j < K) : rd (bN B) j = 48 := by
  subst hB
  rw [bN_app, rd_append_right (by rw [bN_len, List.length_reverse]; exact h1), bN_len, List.length_reverse, bN_rd (by rw [List.length_replicate]; omega), List.getElem_replicate]
  rfl
theorem low_top {M K : Nat} {B : List UInt8} (hB : B = (strip M).reverse ++ List.replicate (K - (strip M).length) 48) {N : Nat} (hN : (strip M).length = N + 1) : rd (bN B) N ≠ 48 := by
  subst hB
  obtain ⟨c, hc, hne⟩ := strip_top (M := M) (by omega)
  rw [bN_app, rd_append_left (by rw [bN_len, List.length_reverse]; omega), bN_rd (by rw [List.length_reverse]; omega), List.getElem_reverse]
  have h0 : (strip M)[(strip M).length - 1 - N]'(by omega) = c := by
    have e : (strip M).length - 1 - N = 0 := by omega
    rw [List.head?_eq_getElem?, List.getElem?_eq_getElem (by omega)] at hc
    injection hc with hc
    simp only [e]
    exact hc
  rw [h0]
  intro e
  rw [beq_eq_false_iff_ne] at hne
  apply hne
  rw [← UInt8.ofNat_toNat (x := c), e]
  rfl
theorem low_at {M K : Nat} {B : List UInt8} (hB : B = (strip M).reverse ++ List.replicate (K - (strip M).length) 48) {j : Nat} (hj : j < (strip M).length) :
    rd (bN B) j = rd (bN (strip M)) ((strip M).length - (j + 1)) := by
  subst hB
  rw [bN_app, rd_append_left (by rw [bN_len, List.length_reverse]; omega), bN_rd (by rw [List.length_reverse]; omega), bN_rd (by omega), List.getElem_reverse]
  congr 2
  omega
theorem take_next {E : List Nat} {N j : Nat} (hN : E.length = N) (hj : j < N) : E.take (N - (j + 1)) ++ [rd E (N - (j + 1))] = E.take (N - j) := by
  rw [show N - j = N - (j + 1) + 1 by omega, take_succ_rd (by omega)]
theorem byte_row {w : World} {A : Option Addr} {n c : Nat} {E : List UInt8} (h : SI w .u8 A n c (bN E)) (hn : 0 < n) :
    (convert 58 9 (.slice A n c)).run Tryd.prog w = .ok (.string ⟨E.toArray⟩) w := by
  obtain ⟨b, o, rfl, hc⟩ := h.all_ hn
  have hl := h.len
  rw [bN_len] at hl
  subst hl
  refine run_convert_bytes_back (P := Tryd.prog) w 58 9 5 ⟨b, o, none⟩ c E Tryd.underlying58 Tryd.underlying5 Tryd.underlying9 (fun j hj => ?_)
  rw [add_at, hc j hj, bN_rd hj]
/-- where Text's first loop stands -/
structure RT (M t m : Nat) (B : List UInt8) : Prop where
  q : m = M / 10 ^ (4 * t)
  row : B = (dd (4 * t) M).reverse
theorem RT.start (M : Nat) : RT M 0 M [] := ⟨by simp, rfl⟩
theorem RT.round {M t m : Nat} {B : List UInt8} (h : RT M t m B) : RT M (t + 1) (m / 10000) (B ++ (dd 4 (m % 10000)).reverse) := by
  refine ⟨?_, ?_⟩
  · rw [h.q, Nat.div_div_eq_div_mul, show 10000 = 10 ^ 4 from rfl, ← Nat.pow_add]
    congr 2
  · rw [h.row, ← List.reverse_append, show 4 * (t + 1) = 4 + 4 * t by omega, dd_add, ← h.q, show 10000 = 10 ^ 4 from rfl, dd_mod]
theorem RT.len {M t m : Nat} {B : List UInt8} (h : RT M t m B) : B.length = 4 * t := by rw [h.row, List.length_reverse, dd_len]
theorem RT.less {M t m n : Nat} {B : List UInt8} (h : RT M t m B) (hM : M < V ^ n) (h0 : m ≠ 0) : t ≤ 2 * n := by
  rcases Nat.lt_or_ge (2 * n) t with z | z
  · exfalso
    have h1 : 10 ^ (4 * t) ≤ M := by
      rcases Nat.lt_or_ge M (10 ^ (4 * t)) with y | y
      · exact absurd (h.q.trans (Nat.div_eq_of_lt y)) h0
      · exact y
    have h2 : (10 ^ 8) ^ n ≤ 10 ^ (4 * t) := by rw [← Nat.pow_mul]; exact Nat.pow_le_pow_right (by omega) (by omega)
    have h3 : V ^ n ≤ (10 ^ 8) ^ n := Nat.pow_le_pow_left (by decide) n
    omega
  · exact z
/-- rows of unlike types lie apart -/
theorem ow_apart {w : World} {b1 b2 : Nat} {e1 e2 : TypeId} {k1 k2 : IntKind} {v1 v2 : Value} {l1 l2 : List Nat} (h1 : Ow w b1 e1 k1 v1 l1) (h2 : Ow w b2 e2 k2 v2 l2) (hne : e1 ≠ e2) : v1.ownBlock = none ∨ v1.ownBlock ≠ v2.ownBlock := by
  rcases h1.2 with ⟨rfl, _⟩ | ⟨g, cap, cur, rfl, _, hg, _⟩
  · exact .inl rfl
  · refine .inr ?_
    rcases h2.2 with ⟨rfl, _⟩ | ⟨g2, cap2, cur2, rfl, _, hg2, _⟩
    · simp [Value.ownBlock]
    · intro he
      simp only [Value.ownBlock, Option.some.injEq] at he
      subst he
      rw [hg] at hg2
      injection hg2 with hg2
      injection hg2 with _ hg2 _
      exact hne hg2
theorem ow_grown {w w' : World} {b1 b2 : Nat} {e1 e2 : TypeId} {k1 k2 : IntKind} {v1 v2 : Value} {l1 l2 : List Nat} (h1 : Ow w b1 e1 k1 v1 l1) (h2 : Ow w b2 e2 k2 v2 l2) (hne : e1 ≠ e2) (hg : w.grownBy w' v2.ownBlock) : Ow w' b1 e1 k1 v1 l1 :=
  World.ownsRow.kept h1 hg (ow_apart h1 h2 hne)
end Go.Proofs.YtphpcpomhcodpaaDoor.Rw

/- The document's answer of layer 2, on: Text whole. -/
namespace Go.Proofs.YtphpcpomhcodpaaDoor.Rw
open Go.RowKit Go.Proofs.YtphpcpomhcodpaaDoor.Dig Go.Proofs.YtphpcpomhcodpaaDoor.W Go.Proofs.YtphpcpomhcodpaaDoor.Nat Go.Proofs.YtphpcpomhcodpaaDoor.Wh Go.Proofs.YtphpcpomhcodpaaDoor.Td
open Go.Proofs.YtphpcpomhcodpaaDoor.Rf (V V_two V_pos)

end Go.Proofs.YtphpcpomhcodpaaDoor.Rw

/- The document's answer of layer 2, on: times. -/
namespace Go.Proofs.YtphpcpomhcodpaaDoor.Rw
open Go.RowKit Go.Proofs.YtphpcpomhcodpaaDoor.Dig Go.Proofs.YtphpcpomhcodpaaDoor.W Go.Proofs.YtphpcpomhcodpaaDoor.Nat Go.Proofs.YtphpcpomhcodpaaDoor.Wh Go.Proofs.YtphpcpomhcodpaaDoor.Td
open Go.Proofs.YtphpcpomhcodpaaDoor.Rf (V V_two V_pos)

/-- the word of one digit -/
def tw (x cy : Nat) : Nat := x * 10 + cy
structure TM (l o : List Nat) (d i cy : Nat) : Prop where
  inv : val V o + V ^ o.length * cy = pv V l i * 10 + d
  lt : Lt V o
  len : o.length = i
  cl : cy < 10
theorem TM.start (l : List Nat) {d : Nat} (hd : d < 10) : TM l [] d 0 d := ⟨by simp [val_nil, pv], fun x hx => by simp at hx, rfl, hd⟩
theorem TM.round {l o : List Nat} {d i cy : Nat} (h : TM l o d i cy) (hl : Lt V l) : TM l (o ++ [tw (rd l i) cy % 65536]) d (i + 1) (tw (rd l i) cy / 65536) := by
  have hx := rd_lt hl V_pos i
  have hV : V = 65536 := rfl
  have hc := h.cl
  refine ⟨?_, snoc_lt h.lt (by rw [hV]; omega), by rw [List.length_append, h.len]; rfl, ?_⟩
  · rw [val_snoc, List.length_append, List.length_singleton, Nat.pow_succ, pv, Nat.mul_assoc, Nat.add_assoc, ← Nat.mul_add, hV]
    have e : tw (rd l i) cy % 65536 + 65536 * (tw (rd l i) cy / 65536) = tw (rd l i) cy := Nat.mod_add_div _ _
    rw [e]
    have e2 := h.inv
    rw [hV, h.len] at e2
    rw [h.len]
    unfold tw
    rw [Nat.mul_add, Nat.add_mul, Nat.add_right_comm, ← e2, Nat.mul_comm (65536 ^ i) (rd l i * 10), Nat.mul_assoc, Nat.mul_comm 10, ← Nat.mul_assoc, Nat.mul_comm (rd l i)]
    omega
  · unfold tw; rw [hV] at hx; omega
theorem own_empty32 (w : World) : Ow (w.alloc (.cells #[] 30)) w.heap.size 30 .u32 (.slice (some ⟨w.heap.size, 0, none⟩) 0 0) [] :=
  ⟨rfl, .inr ⟨w.heap.size, 0, #[], rfl, Nat.le_refl _, heap_alloc_new w _, Nat.le_refl _, by unfold maxLen; omega, rfl, rfl⟩⟩
theorem lit32 (w : World) (x : Nat) {z : Int} (hz : z = x) : SI (w.alloc (.cells #[.int .u32 z] 30)) .u32 (some ⟨w.heap.size, 0, none⟩) 1 1 [x] := by
  subst hz
  exact ⟨rfl, Nat.le_refl _, by omega, fun _ => ⟨w.heap.size, 0, rfl, fun j u hu => by
    rw [World.cell?, show (w.alloc (.cells #[.int .u32 (x : Nat)] 30)).heap[w.heap.size]? = _ from heap_alloc_new w _]
    simpa [nums] using hu⟩⟩
end Go.Proofs.YtphpcpomhcodpaaDoor.Rw

/- Layer 2, on: Parse. -/
namespace Go.Proofs.YtphpcpomhcodpaaDoor.Tx
open Go.RowKit Go.Proofs.YtphpcpomhcodpaaDoor.Dig Go.Proofs.YtphpcpomhcodpaaDoor.W Go.Proofs.YtphpcpomhcodpaaDoor.Nat Go.Proofs.YtphpcpomhcodpaaDoor.Wh Go.Proofs.YtphpcpomhcodpaaDoor.Td Go.Proofs.YtphpcpomhcodpaaDoor.Bu

def digset : List UInt8 := [48, 49, 50, 51, 52, 53, 54, 55, 56, 57]
theorem digset_has (b : UInt8) : digset.contains b = decide (isDig b) := by
  have h : ∀ n : Fin 256, digset.contains (UInt8.ofNat n.val) = decide (isDig (UInt8.ofNat n.val)) := by decide +kernel
  have e := h ⟨b.toNat, b.toNat_lt⟩
  rwa [UInt8.ofNat_toNat] at e
theorem dropWhile_nil {p : UInt8 → Bool} : ∀ {l : List UInt8}, l.dropWhile p = [] ↔ ∀ x ∈ l, p x = true
  | [] => by simp
  | x :: l => by
    cases h : p x with
    | true => rw [List.dropWhile_cons_of_pos h, dropWhile_nil]; simp [h]
    | false => rw [List.dropWhile_cons_of_neg (by simp [h])]; simp [h]
theorem trim_all {l : List UInt8} (h : ∀ b ∈ l, isDig b) : Lib.trimS l digset = [] := by
  unfold Lib.trimS Lib.trimRightS Lib.trimLeftS
  have : l.reverse.dropWhile (digset.contains ·) = [] := by
    rw [dropWhile_nil]
    intro b hb
    rw [digset_has, decide_eq_true (h b (by simpa using hb))]
  rw [this]
  rfl
theorem takeWhile_has {p : UInt8 → Bool} {b : UInt8} : ∀ {l : List UInt8}, b ∈ l.takeWhile p → p b = true
  | [], h => by simp at h
  | x :: l, h => by
    cases hx : p x with
    | true =>
      rw [List.takeWhile_cons_of_pos hx, List.mem_cons] at h
      rcases h with rfl | h
      · exact hx
      · exact takeWhile_has h
    | false => rw [List.takeWhile_cons_of_neg (by simp [hx])] at h; simp at h
theorem trim_some {l : List UInt8} (h : ¬ ∀ b ∈ l, isDig b) : (Lib.trimS l digset).isEmpty = false := by
  rw [Bool.eq_false_iff]
  intro he
  apply h
  rw [List.isEmpty_iff] at he
  unfold Lib.trimS Lib.trimRightS Lib.trimLeftS at he
  rw [dropWhile_nil] at he
  intro b hb
  have hall : ∀ b ∈ l.reverse.dropWhile (digset.contains ·), isDig b := fun b hb => by
    have := he b (by simpa using hb)
    rw [digset_has] at this
    exact of_decide_eq_true this
  have hs := List.takeWhile_append_dropWhile (p := (digset.contains ·)) (l := l.reverse)
  have hb2 : b ∈ l.reverse := by simpa using hb
  rw [← hs, List.mem_append] at hb2
  rcases hb2 with h1 | h1
  · have := takeWhile_has h1
    rw [digset_has] at this
    exact of_decide_eq_true this
  · exact hall b h1
theorem trimset_calls (s : ByteArray) (hs : s.size ≤ 9223372036854775807) (w : World) :
    Calls Tryd.prog 19 #[.string s, .string ⟨#[48, 49, 50, 51, 52, 53, 54, 55, 56, 57]⟩] w fun e w' => e = .returned (.string ⟨(Lib.trimS s.data.toList digset).toArray⟩) ∧ Below w.heap.size w w' :=
  Any.strings_Trim_laid Tryd.lays160 (by kernel_rfl) s ⟨#[48, 49, 50, 51, 52, 53, 54, 55, 56, 57]⟩ w hs (by decide) (ascii_of_all (by decide))
/-- is it a numeral, as Parse takes it? -/
def Numeral (l : List UInt8) : Prop := (∀ b ∈ l, isDig b) ∧ ∃ c r, l = c :: r ∧ (c ≠ 48 ∨ r = [])
theorem empty_of {s : ByteArray} (h : s.size = 0) : s.toList.isEmpty = true := by
  rw [Lib.toList_data, List.isEmpty_iff]
  exact List.eq_nil_of_length_eq_zero (by rw [← Lib.size_eq]; exact h)
theorem not_empty_of {s : ByteArray} (h : 0 < s.size) : s.toList.isEmpty = false := by
  rw [Lib.toList_data, Bool.eq_false_iff]
  intro he
  rw [List.isEmpty_iff] at he
  have := Lib.size_eq s
  rw [he, List.length_nil] at this
  omega
theorem first_of {s : ByteArray} (h : 0 < s.size) {c : UInt8} {r : List UInt8} (hl : s.data.toList = c :: r) : s[0] = c := by
  show s.data[0] = c
  have h2 : s.data.toList[0]? = some c := by rw [hl]; rfl
  rw [Array.getElem?_toList] at h2
  exact (Array.getElem?_eq_some_iff.1 h2).2
theorem head_list (s : ByteArray) (k : Nat) : (s.extract 0 k).data.toList = s.data.toList.take k := by
  rw [ByteArray.data_extract, Array.toList_extract]
  simp [List.extract_eq_take_drop]
theorem tail_list (s : ByteArray) (k : Nat) : (s.extract k s.size).data.toList = s.data.toList.drop k := by
  rw [Lib.extract_from]
theorem pow10_calls (k : Nat) (w : World) (hk : k ≤ 18) : Calls Tryd.prog 50 #[.int .u64 10, .int .i64 (k : Nat)] w (Gives w .u64 (digs U (10 ^ k))) := power_calls 10 k w (by omega) (by omega) (by omega)
theorem nv_short {l : List UInt8} (h : ∀ b ∈ l, isDig b) (hl : l.length ≤ 8192) : (digs U (nv 0 l)).length ≤ 8192 := pow_short (a := 10) (Nat.le_refl _) hl (Nat.le_of_lt (nv_lt h))
end Go.Proofs.YtphpcpomhcodpaaDoor.Tx

/- The document's answer of layer 2, on: Of, Parse. -/
namespace Go.Proofs.YtphpcpomhcodpaaDoor.Rw
open Go.RowKit Go.Proofs.YtphpcpomhcodpaaDoor.Dig Go.Proofs.YtphpcpomhcodpaaDoor.W Go.Proofs.YtphpcpomhcodpaaDoor.Nat Go.Proofs.YtphpcpomhcodpaaDoor.Wh Go.Proofs.YtphpcpomhcodpaaDoor.Td Go.Proofs.YtphpcpomhcodpaaDoor.Tx
open Go.Proofs.YtphpcpomhcodpaaDoor.Rf (V V_two V_pos)

theorem byte_at {S : ByteArray} {i : Nat} (h : i < S.size) : ∃ c, S.data.toList[i]? = some c ∧ S[i] = c := by
  have h2 : i < S.data.toList.length := by rw [← Lib.size_eq]; exact h
  refine ⟨S.data.toList[i], List.getElem?_eq_getElem h2, ?_⟩
  show S.data[i] = _
  rw [Array.getElem_toList]
theorem nv_take {l : List UInt8} {i : Nat} {c : UInt8} (h : l[i]? = some c) : nv 0 (l.take (i + 1)) = nv 0 (l.take i) * 10 + (c.toNat - 48) := by
  rw [List.take_add_one, h, nv_append]
  show nv _ [c] = _
  rw [nv_cons, nv_nil]
def PR (w : World) (S : ByteArray) (e : Ending) (w' : World) : Prop :=
  (Numeral S.data.toList → ∃ A n c, e = .returned (.tuple #[.slice A n c, .int .i64 0]) ∧ SI w' .u32 A n c (digs V (nv 0 S.data.toList)) ∧ Below w.heap.size w w') ∧
  (¬ Numeral S.data.toList → e = .returned (.tuple #[.slice none 0 0, .int .i64 20]) ∧ Below w.heap.size w w')
end Go.Proofs.YtphpcpomhcodpaaDoor.Rw

/- Layer 3, the document: the parts of a float. -/
set_option linter.unusedSimpArgs false
set_option linter.unusedVariables false
namespace Go.Proofs.YtphpcpomhcodpaaDoor.Sh
open Go.RowKit Go.Proofs.YtphpcpomhcodpaaDoor.Dig Go.Proofs.YtphpcpomhcodpaaDoor.W Go.Proofs.YtphpcpomhcodpaaDoor.Nat Go.Proofs.YtphpcpomhcodpaaDoor.Wh Go.Proofs.YtphpcpomhcodpaaDoor.Td Go.Proofs.YtphpcpomhcodpaaDoor.Bu Go.Proofs.YtphpcpomhcodpaaDoor.Tx Go.Proofs.YtphpcpomhcodpaaDoor.Sp

theorem blk1 (w : World) (cs : Array Value) (t : TypeId) (n : Nat) : Bk ((w.alloc (.cells cs t)).drewN n) w.heap.size t cs ∧ Below w.heap.size w ((w.alloc (.cells cs t)).drewN n) :=
  ⟨(Bk.start w t cs).drewN n, (alloc_below w _).trans (((drewN_below _ _)).mono (by simp))⟩
theorem keep2 {w : World} {g : Nat} {t : TypeId} {M X : Int} (C1 : Bk w g t #[.int .i64 M, .int .i64 X]) : w.cell? ⟨g, 0, none⟩ = some (.int .i64 M) ∧ w.cell? ⟨g, 1, none⟩ = some (.int .i64 X) := ⟨C1.at_ 0 rfl, C1.at_ 1 rfl⟩
theorem Fl.and1_w {bits x m : Nat} {ng : Bool} (H : Fl 52 11 bits ng x m) : (Go.bits .and .u64 ((bits : Int) / 9223372036854775808) 1 == 1) = ng := by
  have h1 := H.lt; have h2 := H.neg
  simp only [Nat.reducePow, Nat.reduceAdd] at h1 h2
  have := and_low (bits / 9223372036854775808) 1 (by omega) (by omega)
  rw [show ((bits : Int) / 9223372036854775808) = ((bits / 9223372036854775808 : Nat) : Int) by omega, show (1 : Int) = ((2 ^ 1 - 1 : Nat) : Int) from rfl, this]
  cases ng <;> simp at h2 ⊢ <;> omega
theorem Fl.and1_n {bits x m : Nat} {ng : Bool} (H : Fl 23 8 bits ng x m) : (Go.bits .and .u64 ((bits : Int) / 2147483648) 1 == 1) = ng := by
  have h1 := H.lt; have h2 := H.neg
  simp only [Nat.reducePow, Nat.reduceAdd] at h1 h2
  have := and_low (bits / 2147483648) 1 (by omega) (by omega)
  rw [show ((bits : Int) / 2147483648) = ((bits / 2147483648 : Nat) : Int) by omega, show (1 : Int) = ((2 ^ 1 - 1 : Nat) : Int) from rfl, this]
  cases ng <;> simp at h2 ⊢ <;> omega
end Go.Proofs.YtphpcpomhcodpaaDoor.Sh

/- Layer 3, the document: limb, Amount, within. -/
set_option linter.unusedSimpArgs false
set_option linter.unusedVariables false
namespace Go.Proofs.YtphpcpomhcodpaaDoor.Sh
open Go.RowKit Go.Proofs.YtphpcpomhcodpaaDoor.Dig Go.Proofs.YtphpcpomhcodpaaDoor.W Go.Proofs.YtphpcpomhcodpaaDoor.Nat Go.Proofs.YtphpcpomhcodpaaDoor.Wh Go.Proofs.YtphpcpomhcodpaaDoor.Td Go.Proofs.YtphpcpomhcodpaaDoor.Bu Go.Proofs.YtphpcpomhcodpaaDoor.Tx Go.Proofs.YtphpcpomhcodpaaDoor.Sp
open Go.Proofs.YtphpcpomhcodpaaDoor.Rf (V V_two V_pos)

theorem rone_len {m : Nat} (h : m < U) : (digs V m).length ≤ 4 := (digs_length_le V_two _ _).2 (by unfold U at h; unfold Rf.V; omega)
theorem rpow5_len (k : Nat) : (digs V (5 ^ k)).length ≤ k + 1 := by
  refine (digs_length_le V_two _ _).2 ?_
  have h1 : 5 ^ k ≤ V ^ k := Nat.pow_le_pow_left (by unfold Rf.V; omega) k
  have h2 : V ^ k < V ^ (k + 1) := Nat.pow_lt_pow_right (by unfold Rf.V; omega) (Nat.lt_succ_self k)
  exact Nat.lt_of_le_of_lt h1 h2
/-- a whole number's amount, and where it stands -/
def GivesA (w : World) (m : Nat) (x : Int) (e : Ending) (w' : World) : Prop := ∃ A n c, e = .returned (.tuple #[.slice A n c, .int .i64 x]) ∧ SI w' .u32 A n c (digs V m) ∧ Below w.heap.size w w'
theorem cmp_three (x y : Nat) : (x < y ∧ cmp x y = -1) ∨ (x = y ∧ cmp x y = 0) ∨ (y < x ∧ cmp x y = 1) := by
  unfold cmp
  rcases Nat.lt_trichotomy x y with h | h | h
  · exact .inl ⟨h, if_pos h⟩
  · exact .inr (.inl ⟨h, by rw [if_neg (by omega), if_neg (by omega)]⟩)
  · exact .inr (.inr ⟨h, by rw [if_neg (by omega), if_pos h]⟩)
end Go.Proofs.YtphpcpomhcodpaaDoor.Sh

/- Layer 3, the document: Dec, Exact, reach. -/
set_option linter.unusedSimpArgs false
set_option linter.unusedVariables false
namespace Go.Proofs.YtphpcpomhcodpaaDoor.Sh
open Go.RowKit Go.Proofs.YtphpcpomhcodpaaDoor.Dig Go.Proofs.YtphpcpomhcodpaaDoor.W Go.Proofs.YtphpcpomhcodpaaDoor.Nat Go.Proofs.YtphpcpomhcodpaaDoor.Wh Go.Proofs.YtphpcpomhcodpaaDoor.Td Go.Proofs.YtphpcpomhcodpaaDoor.Bu Go.Proofs.YtphpcpomhcodpaaDoor.Tx Go.Proofs.YtphpcpomhcodpaaDoor.Sp
open Go.Proofs.YtphpcpomhcodpaaDoor.Rf (V V_two V_pos)

theorem last_gen (l : List UInt8) (b : UInt8) (i : Nat) (hi : i = l.length) (h : i < (⟨(l ++ [b]).toArray⟩ : ByteArray).size) : (⟨(l ++ [b]).toArray⟩ : ByteArray)[i] = b := by
  subst hi
  have e1 := Lib.getElem_mk (l ++ [b]) _ h
  rw [List.getElem?_append_right (Nat.le_refl _), Nat.sub_self] at e1
  simp only [List.getElem?_cons_zero, Option.some.injEq] at e1
  exact e1.symm
/-- the last byte of a text -/
theorem last_at (l : List UInt8) (b : UInt8) (h : (⟨(l ++ [b]).toArray⟩ : ByteArray).size - 1 < (⟨(l ++ [b]).toArray⟩ : ByteArray).size) : (⟨(l ++ [b]).toArray⟩ : ByteArray)[(⟨(l ++ [b]).toArray⟩ : ByteArray).size - 1] = b :=
  last_gen l b _ (by rw [size_of, List.length_append, List.length_singleton, Nat.add_sub_cancel]) h
theorem cut_last (l : List UInt8) (b : UInt8) : (⟨(l ++ [b]).toArray⟩ : ByteArray).extract 0 ((⟨(l ++ [b]).toArray⟩ : ByteArray).size - 1) = ⟨l.toArray⟩ := by
  rw [Lib.extract_upto, size_of]
  show (⟨((l ++ [b]).take _).toArray⟩ : ByteArray) = _
  rw [List.length_append, List.length_singleton, Nat.add_sub_cancel, List.take_left]
/-- digits, and i noughts behind -/
structure Tz (B : List UInt8) (i : Nat) (S : ByteArray) : Prop where
  e : S = ⟨(B ++ List.replicate i 48).toArray⟩
theorem Tz.size {B : List UInt8} {i : Nat} {S : ByteArray} (h : Tz B i S) : S.size = B.length + i := by rw [h.e, size_of, List.length_append, List.length_replicate]
theorem Tz.step {B : List UInt8} {i : Nat} {S : ByteArray} (h : Tz B (i + 1) S) : Tz B i (S.extract 0 (S.size - 1)) ∧ ∀ hl : S.size - 1 < S.size, S[S.size - 1] = 48 := by
  obtain ⟨rfl⟩ := h
  rw [List.replicate_succ', ← List.append_assoc]
  exact ⟨⟨cut_last _ _⟩, fun hl => last_at _ _ hl⟩
theorem Tz.stop {r : List UInt8} {c : UInt8} {S : ByteArray} (h : Tz (r ++ [c]) 0 S) : ∀ hl : S.size - 1 < S.size, S[S.size - 1] = c := by
  obtain ⟨rfl⟩ := h
  rw [List.replicate_zero, List.append_nil]
  exact fun hl => last_at _ _ hl
end Go.Proofs.YtphpcpomhcodpaaDoor.Sh

/- Layer 3's laws: number, order, formed. -/
set_option linter.unusedSimpArgs false
set_option linter.unusedVariables false
namespace Go.Proofs.YtphpcpomhcodpaaDoor.Sh
open Go.RowKit Go.Proofs.YtphpcpomhcodpaaDoor.Dig Go.Proofs.YtphpcpomhcodpaaDoor.W Go.Proofs.YtphpcpomhcodpaaDoor.Nat Go.Proofs.YtphpcpomhcodpaaDoor.Wh Go.Proofs.YtphpcpomhcodpaaDoor.Td Go.Proofs.YtphpcpomhcodpaaDoor.Bu Go.Proofs.YtphpcpomhcodpaaDoor.Tx Go.Proofs.YtphpcpomhcodpaaDoor.Sp
open Go.Proofs.YtphpcpomhcodpaaDoor.Rf (V V_two V_pos)

/-- a Dec that a wide float is told by: its digits, its exponent, the amount in the least units -/
structure Dw (l : List UInt8) (x : Int) (A most : Nat) : Prop where
  dig : ∀ c ∈ l, isDig c
  len : l.length ≤ most
  ends : (l = [] ∧ x = 0) ∨ ((∃ c r, l = c :: r ∧ (c == 48) = false) ∧ (∃ r c, l = r ++ [c] ∧ (c == 48) = false) ∧ -1100 ≤ x ∧ x ≤ 400)
  rep : Rep 1076 l x A
theorem Dw.exp {l : List UInt8} {x : Int} {A most : Nat} (h : Dw l x A most) : -1100 ≤ x ∧ x ≤ 400 := by
  rcases h.ends with ⟨_, e⟩ | ⟨_, _, e⟩
  · omega
  · exact e
theorem Dw.low {l : List UInt8} {x : Int} {A most : Nat} (h : Dw l x A most) : -1076 ≤ x := by
  obtain ⟨k, hk, _⟩ := h.rep
  omega
def oA (b : Nat) : Nat := if b = 0 then 0 else fF 52 1076 b * 10 ^ un 1076 (b / 2 ^ 52 - 1)
def xA (b : Nat) : Nat := 4 * sc 52 b * 5 ^ 1076
theorem oA_lt {a b : Nat} (h : a < b) : oA a < oA b := by
  unfold oA
  rw [if_neg (show b ≠ 0 by omega)]
  by_cases h0 : a = 0
  · rw [if_pos h0]
    exact Nat.mul_pos (Nat.pos_of_ne_zero (fF_pos (by omega))) (p10 _)
  · rw [if_neg h0]
    exact fF_lt 52 1076 (by decide) (by omega) h
theorem p5 (k : Nat) : 0 < 5 ^ k := Nat.pow_pos (by omega)
set_option exponentiation.threshold 2000 in
theorem xA_lt {a b : Nat} (h : a < b) : xA a < xA b := by
  have := sc_lt 52 h
  exact Nat.mul_lt_mul_of_pos_right (by omega) (p5 _)
theorem cmp_mono {f : Nat → Nat} (hf : ∀ {a b}, a < b → f a < f b) (a b : Nat) : cmp (f a) (f b) = cmp a b := by
  unfold cmp
  rcases Nat.lt_trichotomy a b with h | h | h
  · rw [if_pos h, if_pos (hf h)]
  · subst h; simp
  · have := hf h
    rw [if_neg (by omega), if_pos this, if_neg (by omega), if_pos h]
theorem cmp_iff {p q A B : Nat} (h1 : p < q ↔ A < B) (h2 : q < p ↔ B < A) : cmp p q = cmp A B := by
  unfold cmp
  simp only [h1, h2]
set_option exponentiation.threshold 2000 in
/-- what Of64 says of a finite float -/
theorem dw_os {bits : Nat} (h : bits % 9223372036854775808 < 9218868437227405312) : ∃ l x, oV_w bits = #[.int .i64 0, .bool (decide (bits / 9223372036854775808 = 1)), .string ⟨l.toArray⟩, .int .i64 x] ∧ Dw l x (oA (bits % 9223372036854775808)) 17 ∧ (l = [] ↔ bits % 9223372036854775808 = 0) := by
  unfold oV_w oA
  generalize decide (bits / 9223372036854775808 = 1) = g
  generalize bits % 9223372036854775808 = b at *
  have e3 : b / 2 ^ 52 < 2047 := by simp only [Nat.reducePow]; omega
  rw [if_neg (by omega)]
  by_cases h0 : b = 0
  · rw [if_pos h0, if_pos h0]
    exact ⟨[], 0, rfl, ⟨fun c hc => by simp at hc, by simp, .inl ⟨rfl, rfl⟩, ⟨1076, rfl, by rw [nv_nil, Nat.zero_mul]⟩⟩, by simp [h0]⟩
  · rw [if_neg h0, if_neg h0]
    obtain ⟨x1, x2⟩ := fF_exp (by omega) e3
    have hp := fF_pos (M := 52) (Z := 1076) (b := b) (by omega)
    obtain ⟨h1, h2⟩ := cd_ends hp
    exact ⟨_, _, rfl, ⟨cd_isDig _, fF_len (by omega) (by decide) (by decide), .inr ⟨h1, h2, by omega, by omega⟩, rep_f b⟩, by rw [cd_nil]; simp [hp, h0]⟩
set_option exponentiation.threshold 2000 in
theorem dw_xs {bits : Nat} (h : bits % 9223372036854775808 < 9218868437227405312) : ∃ l x, eV_w bits = #[.int .i64 0, .bool (decide (bits / 9223372036854775808 = 1)), .string ⟨l.toArray⟩, .int .i64 x] ∧ Dw l x (xA (bits % 9223372036854775808)) 767 ∧ (l = [] ↔ bits % 9223372036854775808 = 0) := by
  unfold eV_w xA
  generalize decide (bits / 9223372036854775808 = 1) = g
  generalize bits % 9223372036854775808 = b at *
  have e3 : b / 2 ^ 52 < 2047 := by simp only [Nat.reducePow]; omega
  rw [if_neg (by omega)]
  by_cases h0 : b = 0
  · have hx : xF 52 1074 b = 0 := by
      subst h0
      have : am 52 0 = 0 := by unfold am; simp
      unfold xF
      rw [this, Nat.zero_mul]
    refine ⟨_, _, rfl, ⟨cd_isDig _, xF_len e3, ?_, rep_x b⟩, by rw [hx, cd_zero]; simp [h0]⟩
    rw [hx]
    exact .inl ⟨cd_zero, ce_zero _⟩
  · have hp := xF_pos (M := 52) (Z := 1074) (b := b) (by omega)
    obtain ⟨x1, x2⟩ := xF_exp (by omega) e3
    obtain ⟨h1, h2⟩ := cd_ends hp
    exact ⟨_, _, rfl, ⟨cd_isDig _, xF_len e3, .inr ⟨h1, h2, by omega, by omega⟩, rep_x b⟩, by rw [cd_nil]; simp [hp, h0]⟩
theorem dw_o {b : Nat} (h : b < 9218868437227405312) : ∃ l x, oV_w b = #[.int .i64 0, .bool false, .string ⟨l.toArray⟩, .int .i64 x] ∧ Dw l x (oA b) 17 := by
  have e1 : b % 9223372036854775808 = b := by omega
  have e2 : decide (b / 9223372036854775808 = 1) = false := decide_eq_false (by omega)
  obtain ⟨l, x, h1, h2, _⟩ := dw_os (bits := b) (by omega)
  rw [e2] at h1
  rw [e1] at h2
  exact ⟨l, x, h1, h2⟩
theorem dw_x {b : Nat} (h : b < 9218868437227405312) : ∃ l x, eV_w b = #[.int .i64 0, .bool false, .string ⟨l.toArray⟩, .int .i64 x] ∧ Dw l x (xA b) 767 := by
  have e1 : b % 9223372036854775808 = b := by omega
  have e2 : decide (b / 9223372036854775808 = 1) = false := decide_eq_false (by omega)
  obtain ⟨l, x, h1, h2, _⟩ := dw_xs (bits := b) (by omega)
  rw [e2] at h1
  rw [e1] at h2
  exact ⟨l, x, h1, h2⟩
theorem nv_len {l : List UInt8} {K : Nat} (h : ∀ c ∈ l, isDig c) (hl : l.length ≤ K) (hK : 0 < K) : (digs V (nv 0 l)).length ≤ K := by
  refine (digs_length_le V_two _ _).2 (Nat.lt_of_lt_of_le (nv_lt h) ?_)
  exact Nat.le_trans (Nat.pow_le_pow_left (by unfold Rf.V; omega) _) (Nat.pow_le_pow_right V_pos hl)
theorem ten_len (k : Nat) : (digs V (10 ^ k)).length ≤ k + 1 := by
  refine (digs_length_le V_two _ _).2 ?_
  have h1 : 10 ^ k ≤ V ^ k := Nat.pow_le_pow_left (by unfold Rf.V; omega) k
  have h2 : V ^ k < V ^ (k + 1) := Nat.pow_lt_pow_right (by unfold Rf.V; omega) (Nat.lt_succ_self k)
  exact Nat.lt_of_le_of_lt h1 h2
theorem num_len' {l : List UInt8} {k : Nat} (h : ∀ c ∈ l, isDig c) : (digs V (nv 0 l * 10 ^ k)).length ≤ l.length + k := by
  refine (digs_length_le V_two _ _).2 (Nat.lt_of_lt_of_le (Nat.mul_lt_mul_of_pos_right (nv_lt h) (p10 k)) ?_)
  rw [← Nat.pow_add]
  exact Nat.pow_le_pow_left (by unfold Rf.V; omega) _
theorem num_len {l : List UInt8} {K k : Nat} (h : ∀ c ∈ l, isDig c) (hl : l.length ≤ K) (hK : K ≤ 767) (hk : k ≤ 4096) : (digs V (nv 0 l * 10 ^ k)).length ≤ 8192 := Nat.le_trans (num_len' h) (by omega)
theorem keepd {w : World} {g : Nat} {t : TypeId} {a b : Value} {l : ByteArray} {x : Int} (C : Bk w g t #[a, b, .string l, .int .i64 x]) : w.cell? ⟨g, 2, none⟩ = some (.string l) ∧ w.cell? ⟨g, 3, none⟩ = some (.int .i64 x) := ⟨C.at_ 2 rfl, C.at_ 3 rfl⟩
theorem keep8 {w : World} {g : Nat} {t : TypeId} {l m : List UInt8} {x y : Int} (C : Bk w g t #[.int .i64 0, .bool false, .string ⟨l.toArray⟩, .int .i64 x]) (D : Bk w (g + 1) t #[.int .i64 0, .bool false, .string ⟨m.toArray⟩, .int .i64 y]) :
    w.cell? ⟨g, 0, none⟩ = some (.int .i64 0) ∧ w.cell? ⟨g, 1, none⟩ = some (.bool false) ∧ w.cell? ⟨g, 2, none⟩ = some (.string ⟨l.toArray⟩) ∧ w.cell? ⟨g, 3, none⟩ = some (.int .i64 x) ∧ w.cell? ⟨(g + 1), 0, none⟩ = some (.int .i64 0) ∧ w.cell? ⟨(g + 1), 1, none⟩ = some (.bool false) ∧ w.cell? ⟨(g + 1), 2, none⟩ = some (.string ⟨m.toArray⟩) ∧ w.cell? ⟨(g + 1), 3, none⟩ = some (.int .i64 y) := ⟨C.at_ 0 rfl, C.at_ 1 rfl, C.at_ 2 rfl, C.at_ 3 rfl, D.at_ 0 rfl, D.at_ 1 rfl, D.at_ 2 rfl, D.at_ 3 rfl⟩
theorem last_gen' (r : List UInt8) (c : UInt8) (h : (⟨(r ++ [c]).toArray⟩ : ByteArray).size - 1 < (⟨(r ++ [c]).toArray⟩ : ByteArray).size) : (⟨(r ++ [c]).toArray⟩ : ByteArray)[(⟨(r ++ [c]).toArray⟩ : ByteArray).size - 1] = c := last_at r c h
theorem byte_at (l : List UInt8) (i : Nat) (h : i < (⟨l.toArray⟩ : ByteArray).size) : (⟨l.toArray⟩ : ByteArray)[i] ∈ l := List.mem_of_getElem? (Lib.getElem_mk l i h)
/-- a formed text -/
structure Fm (S : ByteArray) (x : Int) (most : Nat) : Prop where
  dig : ∀ i (h : i < S.size), 48 ≤ S[i].toNat ∧ S[i].toNat ≤ 57
  len : S.size ≤ most
  nil : S.size = 0 → x = 0
  ends : 0 < S.size → (∀ h : 0 < S.size, S[0].toNat ≠ 48) ∧ (∀ h : S.size - 1 < S.size, S[S.size - 1].toNat ≠ 48) ∧ -1100 ≤ x ∧ x ≤ 400
theorem ne_of {c : UInt8} (h : (c == 48) = false) : c.toNat ≠ 48 := fun e => by
  have : c = 48 := UInt8.toNat_inj.mp e
  rw [this] at h
  cases h
theorem Dw.fm {l : List UInt8} {x : Int} {A most : Nat} (h : Dw l x A most) : Fm ⟨l.toArray⟩ x most := by
  refine ⟨fun i hi => h.dig _ (byte_at l i hi), by rw [size_of]; exact h.len, fun h0 => ?_, fun h0 => ?_⟩
  · rw [size_of] at h0
    rcases h.ends with ⟨_, e⟩ | ⟨⟨c, r, e, _⟩, _⟩
    · exact e
    · rw [e] at h0; simp at h0
  · rcases h.ends with ⟨e, _⟩ | ⟨⟨c, r, e1, c1⟩, ⟨r', c', e2, c2⟩, h3, h4⟩
    · rw [size_of, e] at h0; simp at h0
    · refine ⟨fun hh => ?_, fun hh => ?_, h3, h4⟩
      · subst e1
        have := Lib.getElem_mk (c :: r) 0 hh
        simp only [List.getElem?_cons_zero, Option.some.injEq] at this
        rw [← this]
        exact ne_of c1
      · subst e2
        rw [last_gen' r' c' hh]
        exact ne_of c2
set_option maxHeartbeats 4000000 in
set_option maxRecDepth 100000 in
theorem formed_any (S : ByteArray) (g : Bool) (x : Int) (most : Nat) (M : Int) (w : World) (h : Fm S x most) (hM : M = (most : Nat)) (hm : most ≤ 767) :
    Calls Tryd.prog 8 #[.agg #[.int .i64 0, .bool g, .string S, .int .i64 x], .int .i64 M] w fun e w' => e = .returned (.bool true) ∧ Below w.heap.size w w' := by
  subst hM
  have HF := Lib.hid h
  have hS := h.len
  have hS2 : S.size ≤ 767 := by omega
  obtain ⟨B1, bl⟩ := blk1 w #[.int .i64 0, .bool g, .string S, .int .i64 x] 24 0
  have HB1 := Lib.hid B1
  have HB := Lib.hid bl
  clear B1 bl h
  go_enter Tryd.func8, Tryd.ntmps8
  go_wp2
  obtain ⟨Y, hY⟩ : ∃ Y, Y = w.alloc (.cells #[.int .i64 0, .bool g, .string S, .int .i64 x] 24) := ⟨_, rfl⟩
  have C : Bk Y w.heap.size 24 #[.int .i64 0, .bool g, .string S, .int .i64 x] := by rw [hY]; exact HB1.out
  have bY : Below w.heap.size w Y := by rw [hY]; exact HB.out
  rw [← hY]
  have k2 := C.at_ 2 rfl
  have k3 := C.at_ 3 rfl
  clear hY HB1 HB C
  go_loopw [6] (fun z wr => ∃ i : Nat, z = .int .i64 (i : Nat) ∧ i ≤ S.size ∧ Y = wr) (fun z _ => S.size - (intOf z).toNat)
  case atStart => exact ⟨0, rfl, Nat.zero_le _, rfl⟩
  case round =>
    obtain ⟨i, rfl, hi, rfl⟩ := hrel
    by_cases hlt : i < S.size
    · obtain ⟨d1, d2⟩ := HF.out.dig i hlt
      obtain ⟨bt, hbt⟩ : ∃ bt : Nat, bt = S[i].toNat := ⟨_, rfl⟩
      have d3 : ¬ ((S[i].toNat : Int) < 48) := by rw [← hbt] at d1 ⊢; omega
      have d4 : ¬ ((57 : Int) < (S[i].toNat : Int)) := by rw [← hbt] at d2 ⊢; omega
      go_wp2
      go_roundw
      case rel => exact ⟨i + 1, by go_num, by omega, trivial⟩
      case measure => simp [intOf]; omega
    · obtain rfl : i = S.size := by omega
      rcases Nat.eq_zero_or_pos S.size with z0 | z0
      · have hx0 := HF.out.nil z0
        subst hx0
        have z1 : ((S.size : Int) == 0) = true := by rw [z0]; rfl
        have z2 : (S.size == 0) = true := by rw [z0]; rfl
        clear z0 hlt
        go_wp2
        go_ret
        exact ⟨rfl, bY⟩
      · obtain ⟨f1, f2, f3, f4⟩ := HF.out.ends z0
        have g1 := f1 z0
        have z5 : S.size - 1 < S.size := by omega
        have g2 := f2 z5
        have z1 : ((S.size : Int) == 0) = false := by rw [beq_eq_false_iff_ne]; omega
        have z2 : (S.size == 0) = false := by rw [beq_eq_false_iff_ne]; omega
        have z3 : (1 : Int) ≤ (S.size : Int) := by omega
        have u1 : ((S[0].toNat : Int) == 48) = false := by simp; omega
        have u2 : ((S[S.size - 1].toNat : Int) == 48) = false := by simp; omega
        have u3 : ((S[0].toNat : Int) != 48) = true := by simp; omega
        have u4 : ((S[S.size - 1].toNat : Int) != 48) = true := by simp; omega
        clear f1 f2 g1 g2 hlt
        go_wp2
        go_ret
        exact ⟨rfl, bY⟩
theorem formed_calls (l : List UInt8) (x : Int) (A most : Nat) (M : Int) (w : World) (h : Dw l x A most) (hM : M = (most : Nat)) (hm : most ≤ 767) :
    Calls Tryd.prog 8 #[.agg #[.int .i64 0, .bool false, .string ⟨l.toArray⟩, .int .i64 x], .int .i64 M] w fun e w' => e = .returned (.bool true) ∧ Below w.heap.size w w' :=
  formed_any ⟨l.toArray⟩ false x most M w h.fm hM hm
end Go.Proofs.YtphpcpomhcodpaaDoor.Sh

/- Layer 3's laws: ShortestForms. -/
set_option linter.unusedSimpArgs false
set_option linter.unusedVariables false
namespace Go.Proofs.YtphpcpomhcodpaaDoor.Sh
open Go.RowKit Go.Proofs.YtphpcpomhcodpaaDoor.Dig Go.Proofs.YtphpcpomhcodpaaDoor.W Go.Proofs.YtphpcpomhcodpaaDoor.Nat Go.Proofs.YtphpcpomhcodpaaDoor.Wh Go.Proofs.YtphpcpomhcodpaaDoor.Td Go.Proofs.YtphpcpomhcodpaaDoor.Bu Go.Proofs.YtphpcpomhcodpaaDoor.Tx Go.Proofs.YtphpcpomhcodpaaDoor.Sp

attribute [local go_sem ↓] eq_dec
theorem keep44 {w : World} {g : Nat} {t : TypeId} {a0 a1 a2 a3 c0 c1 c2 c3 : Value} (C : Bk w g t #[a0, a1, a2, a3]) (D : Bk w (g + 1) t #[c0, c1, c2, c3]) :
    w.cell? ⟨g, 0, none⟩ = some a0 ∧ w.cell? ⟨g, 1, none⟩ = some a1 ∧ w.cell? ⟨g, 2, none⟩ = some a2 ∧ w.cell? ⟨g, 3, none⟩ = some a3 ∧ w.cell? ⟨g + 1, 0, none⟩ = some c0 ∧ w.cell? ⟨g + 1, 1, none⟩ = some c1 ∧ w.cell? ⟨g + 1, 2, none⟩ = some c2 ∧ w.cell? ⟨g + 1, 3, none⟩ = some c3 :=
  ⟨C.at_ 0 rfl, C.at_ 1 rfl, C.at_ 2 rfl, C.at_ 3 rfl, D.at_ 0 rfl, D.at_ 1 rfl, D.at_ 2 rfl, D.at_ 3 rfl⟩
theorem keep444 {w : World} {g q : Nat} {t : TypeId} {a0 a1 a2 a3 c0 c1 c2 c3 d0 d1 d2 d3 : Value} (C : Bk w g t #[a0, a1, a2, a3]) (D : Bk w (g + 1) t #[c0, c1, c2, c3]) (E : Bk w q t #[d0, d1, d2, d3]) :
    w.cell? ⟨g, 0, none⟩ = some a0 ∧ w.cell? ⟨g, 1, none⟩ = some a1 ∧ w.cell? ⟨g, 2, none⟩ = some a2 ∧ w.cell? ⟨g, 3, none⟩ = some a3 ∧ w.cell? ⟨g + 1, 0, none⟩ = some c0 ∧ w.cell? ⟨g + 1, 1, none⟩ = some c1 ∧ w.cell? ⟨g + 1, 2, none⟩ = some c2 ∧ w.cell? ⟨g + 1, 3, none⟩ = some c3 ∧ w.cell? ⟨q, 0, none⟩ = some d0 ∧ w.cell? ⟨q, 1, none⟩ = some d1 ∧ w.cell? ⟨q, 2, none⟩ = some d2 ∧ w.cell? ⟨q, 3, none⟩ = some d3 :=
  ⟨C.at_ 0 rfl, C.at_ 1 rfl, C.at_ 2 rfl, C.at_ 3 rfl, D.at_ 0 rfl, D.at_ 1 rfl, D.at_ 2 rfl, D.at_ 3 rfl, E.at_ 0 rfl, E.at_ 1 rfl, E.at_ 2 rfl, E.at_ 3 rfl⟩
theorem empty_of (l : List UInt8) (b : Bool) (h : l = [] ↔ b = true) : ((⟨l.toArray⟩ : ByteArray).toList.isEmpty = b) ∧ (((⟨l.toArray⟩ : ByteArray).toList == []) = b) := by
  rw [ByteArray.toList_mk]
  cases b
  · have : l ≠ [] := fun e => by have := h.1 e; cases this
    cases l with
    | nil => exact absurd rfl this
    | cons _ _ => exact ⟨rfl, rfl⟩
  · have : l = [] := h.2 rfl
    subst this
    exact ⟨rfl, rfl⟩
set_option maxHeartbeats 8000000 in
set_option maxRecDepth 100000 in
theorem shortestForms_calls (z : Int) (h0 : 0 ≤ z) (h1 : z < 18446744073709551616) (w : World) (hp : Pow w) :
    Calls Tryd.prog 3 #[.int .u64 z] w fun e w' => e = .returned (.bool true) ∧ Below w.heap.size w w' := by
  obtain ⟨bits, rfl⟩ : ∃ bits : Nat, z = bits := ⟨z.toNat, by omega⟩
  have hb : bits < 18446744073709551616 := by omega
  have HA := Lib.hid (fun W (bl : Below w.heap.size w W) => awake_calls W (hp.below bl))
  obtain ⟨ca, ga, la, xa, ea⟩ := oV_four_w bits
  obtain ⟨cb, gb, lb, xb, eb⟩ := eV_four_w bits
  have H1 := Lib.hid (ea ▸ Of64_calls hb w hp)
  have H2 := Lib.hid (fun W (bl : Below w.heap.size w W) => eb ▸ Exact64_calls hb W (hp.below bl))
  have hfb := fb_w hb
  obtain ⟨e0, e1, e2, _, x1, mm1⟩ := hfb.fl_w.facts_w
  have nogd := no_guard
  have hdm := Nat.div_add_mod (bits % 9223372036854775808) 4503599627370496
  have hcase : (bits % 9223372036854775808 / 4503599627370496 = 2047 ∧ bits % 9223372036854775808 % 4503599627370496 = 0 ∧ oV_w bits = dec 1 (decide (bits / 9223372036854775808 = 1)) [] 0 ∧ eV_w bits = dec 1 (decide (bits / 9223372036854775808 = 1)) [] 0) ∨
      (bits % 9223372036854775808 / 4503599627370496 = 2047 ∧ bits % 9223372036854775808 % 4503599627370496 ≠ 0 ∧ oV_w bits = dec 2 false [] 0 ∧ eV_w bits = dec 2 false [] 0) ∨ bits % 9223372036854775808 < 9218868437227405312 := by
    by_cases h : bits % 9223372036854775808 / 4503599627370496 = 2047
    · by_cases h2 : bits % 9223372036854775808 % 4503599627370496 = 0
      · exact .inl ⟨h, h2, by unfold oV_w; rw [if_pos h, if_pos h2], by unfold eV_w; rw [if_pos h, if_pos h2]⟩
      · exact .inr (.inl ⟨h, h2, by unfold oV_w; rw [if_pos h, if_neg h2], by unfold eV_w; rw [if_pos h, if_neg h2]⟩)
    · exact .inr (.inr (by omega))
  have four : ∀ {c g l x c' g' l' x'}, (#[.int .i64 c, .bool g, .string ⟨l⟩, .int .i64 x] : Array Value) = #[.int .i64 c', .bool g', .string ⟨l'⟩, .int .i64 x'] → c = c' ∧ g = g' ∧ l = l' ∧ x = x' := by
    intro c g l x c' g' l' x' h
    simpa using h
  rcases hcase with ⟨u1, u2, u3, u4⟩ | ⟨u1, u2, u3, u4⟩ | hfin
  · obtain ⟨rfl, rfl, rfl, rfl⟩ := four (ea.symm.trans u3)
    obtain ⟨rfl, rfl, rfl, rfl⟩ := four (eb.symm.trans u4)
    rw [u1] at e1
    rw [u2] at e2
    generalize decide (bits / 9223372036854775808 = 1) = ng at *
    clear u1 u2 u3 u4 ea eb four hdm x1 mm1 hb h1 h0 hfb
    go_enter Tryd.func3, Tryd.ntmps3
    go_upto_region 2 with (first
      | (go_at_call 5; (with_reducible refine H1.out.mono ?_); rintro e v1 ⟨rfl, b1⟩)
      | (go_at_call 6; (with_reducible refine (H2.out v1 b1).mono ?_); rintro e v2 ⟨rfl, b2⟩; have b2' := on b1 b2))
    obtain ⟨C, D, bl⟩ := blk_two v2 #[.int .i64 1, .bool ng, .string ⟨#[]⟩, .int .i64 0] #[.int .i64 1, .bool ng, .string ⟨#[]⟩, .int .i64 0] 24 24
    have bl' := on b2' bl
    obtain ⟨Y, hY⟩ : ∃ Y, Y = (v2.alloc (.cells #[.int .i64 1, .bool ng, .string ⟨#[]⟩, .int .i64 0] 24)).alloc (.cells #[.int .i64 1, .bool ng, .string ⟨#[]⟩, .int .i64 0] 24) := ⟨_, rfl⟩
    rw [← hY] at C D bl' ⊢
    generalize v2.heap.size = g at *
    clear hY bl b2' b1 b2 H1 H2
    go_upto_region 9 with (go_at_call 7; (with_reducible refine (HA.out Y bl').mono ?_); rintro e v3 ⟨rfl, b3⟩; have C3 := C.below b3; have D3 := D.below b3; have hb3 := on bl' b3)
    have C4 := C3.alloc (.cells #[.int .i64 1, .bool ng, .string ⟨#[]⟩, .int .i64 0] 24)
    have D4 := D3.alloc (.cells #[.int .i64 1, .bool ng, .string ⟨#[]⟩, .int .i64 0] 24)
    have E4 := Bk.start v3 24 #[.int .i64 1, .bool ng, .string ⟨#[]⟩, .int .i64 0]
    have hb4 := on hb3 (alloc_below v3 (.cells #[.int .i64 1, .bool ng, .string ⟨#[]⟩, .int .i64 0] 24))
    have kq := keep444 C4 D4 E4
    clear C3 D3 C4 D4 E4 C D bl' hb3 b3
    generalize v3.alloc (.cells #[.int .i64 1, .bool ng, .string ⟨#[]⟩, .int .i64 0] 24) = V at *
    generalize v3.heap.size = q at *
    go_wp2
    go_ret
    exact ⟨rfl, hb4⟩
  · obtain ⟨rfl, rfl, rfl, rfl⟩ := four (ea.symm.trans u3)
    obtain ⟨rfl, rfl, rfl, rfl⟩ := four (eb.symm.trans u4)
    rw [u1] at e1
    generalize decide (bits / 9223372036854775808 = 1) = ng at *
    obtain ⟨m, hm⟩ : ∃ m, m = bits % 9223372036854775808 % 4503599627370496 := ⟨_, rfl⟩
    rw [← hm] at e2 u2
    have t1 : ((m : Int) == 0) = false := by rw [beq_eq_false_iff_ne]; omega
    have t2 : (m == 0) = false := by rw [beq_eq_false_iff_ne]; omega
    clear u1 u2 u3 u4 ea eb four hdm hm x1 mm1 hb h1 h0 hfb
    go_enter Tryd.func3, Tryd.ntmps3
    go_upto_region 2 with (first
      | (go_at_call 5; (with_reducible refine H1.out.mono ?_); rintro e v1 ⟨rfl, b1⟩)
      | (go_at_call 6; (with_reducible refine (H2.out v1 b1).mono ?_); rintro e v2 ⟨rfl, b2⟩; have b2' := on b1 b2))
    obtain ⟨C, D, bl⟩ := blk_two v2 #[.int .i64 2, .bool false, .string ⟨#[]⟩, .int .i64 0] #[.int .i64 2, .bool false, .string ⟨#[]⟩, .int .i64 0] 24 24
    have bl' := on b2' bl
    obtain ⟨Y, hY⟩ : ∃ Y, Y = (v2.alloc (.cells #[.int .i64 2, .bool false, .string ⟨#[]⟩, .int .i64 0] 24)).alloc (.cells #[.int .i64 2, .bool false, .string ⟨#[]⟩, .int .i64 0] 24) := ⟨_, rfl⟩
    rw [← hY] at C D bl' ⊢
    generalize v2.heap.size = g at *
    clear hY bl b2' b1 b2 H1 H2
    go_upto_region 9 with (go_at_call 7; (with_reducible refine (HA.out Y bl').mono ?_); rintro e v3 ⟨rfl, b3⟩; have C3 := C.below b3; have D3 := D.below b3; have hb3 := on bl' b3)
    have C4 := C3.alloc (.cells #[.int .i64 2, .bool false, .string ⟨#[]⟩, .int .i64 0] 24)
    have D4 := D3.alloc (.cells #[.int .i64 2, .bool false, .string ⟨#[]⟩, .int .i64 0] 24)
    have E4 := Bk.start v3 24 #[.int .i64 2, .bool false, .string ⟨#[]⟩, .int .i64 0]
    have hb4 := on hb3 (alloc_below v3 (.cells #[.int .i64 2, .bool false, .string ⟨#[]⟩, .int .i64 0] 24))
    have kq := keep444 C4 D4 E4
    clear C3 D3 C4 D4 E4 C D bl' hb3 b3
    generalize v3.alloc (.cells #[.int .i64 2, .bool false, .string ⟨#[]⟩, .int .i64 0] 24) = V at *
    generalize v3.heap.size = q at *
    go_wp2
    go_ret
    exact ⟨rfl, hb4⟩
  · obtain ⟨l, y, qa, da, na⟩ := dw_os hfin
    obtain ⟨l', y', qb, db, nb⟩ := dw_xs hfin
    obtain ⟨rfl, rfl, rfl, rfl⟩ := four (ea.symm.trans qa)
    obtain ⟨rfl, rfl, rfl, rfl⟩ := four (eb.symm.trans qb)
    have F1 := Lib.hid (fun (g : Bool) W => formed_any ⟨l.toArray⟩ g xa 17 17 W da.fm rfl (by omega))
    have F2 := Lib.hid (fun (g : Bool) W => formed_any ⟨l'.toArray⟩ g xb 767 767 W db.fm rfl (by omega))
    generalize hng : decide (bits / 9223372036854775808 = 1) = ng at *
    have hx2 : bits % 9223372036854775808 / 4503599627370496 < 2047 := by omega
    obtain ⟨m, hm⟩ : ∃ m, m = bits % 9223372036854775808 % 4503599627370496 := ⟨_, rfl⟩
    obtain ⟨x, hx⟩ : ∃ x, x = bits % 9223372036854775808 / 4503599627370496 := ⟨_, rfl⟩
    rw [← hx] at e1 hx2 hdm
    rw [← hm] at e2 hdm
    have s1 : ((x : Int) == 2047) = false := by rw [beq_eq_false_iff_ne]; omega
    have s2 : (x == 2047) = false := by rw [beq_eq_false_iff_ne]; omega
    obtain ⟨zx, zm, zz, k1, k2, k3, k4, k5, k6, kz⟩ : ∃ zx zm zz : Bool, ((x : Int) == 0) = zx ∧ (x == 0) = zx ∧ ((m : Int) == 0) = zm ∧ (m == 0) = zm ∧ decide (bits % 9223372036854775808 = 0) = zz ∧ (zx && zm) = zz ∧ (zx = true ∨ zx = false) := by
      refine ⟨x == 0, m == 0, (x == 0) && (m == 0), ?_, rfl, ?_, rfl, ?_, rfl, ?_⟩
      · rw [Bool.eq_iff_iff]; simp
      · rw [Bool.eq_iff_iff]; simp
      · rw [Bool.eq_iff_iff]; simp; omega
      · cases x == 0 <;> simp
    obtain ⟨n1, n2⟩ := empty_of l zz (na.trans (by rw [← k5]; simp))
    obtain ⟨n3, n4⟩ := empty_of l' zz (nb.trans (by rw [← k5]; simp))
    clear k5 na nb da db qa qb ea eb four hdm hm hx x1 mm1 hb h1 h0 hfb hfin hx2 kz hng
    have hgg : (ng == ng) = true := by cases ng <;> rfl
    obtain ⟨ls, hls⟩ : ∃ ls : ByteArray, ls = ⟨l.toArray⟩ := ⟨_, rfl⟩
    obtain ⟨ms, hms⟩ : ∃ ms : ByteArray, ms = ⟨l'.toArray⟩ := ⟨_, rfl⟩
    rw [← hls] at F1 H1 n1 n2
    rw [← hms] at F2 H2 n3 n4
    clear hls hms
    cases zx <;> cases zm <;> cases k6
    all_goals (
      go_enter Tryd.func3, Tryd.ntmps3
      go_upto_region 2 with (first
        | (go_at_call 5; (with_reducible refine H1.out.mono ?_); rintro e v1 ⟨rfl, b1⟩)
        | (go_at_call 6; (with_reducible refine (H2.out v1 b1).mono ?_); rintro e v2 ⟨rfl, b2⟩; have b2' := on b1 b2))
      obtain ⟨C, D, bl⟩ := blk_two v2 #[.int .i64 0, .bool ng, .string ls, .int .i64 xa] #[.int .i64 0, .bool ng, .string ms, .int .i64 xb] 24 24
      have bl' := on b2' bl
      obtain ⟨Y, hY⟩ : ∃ Y, Y = (v2.alloc (.cells #[.int .i64 0, .bool ng, .string ls, .int .i64 xa] 24)).alloc (.cells #[.int .i64 0, .bool ng, .string ms, .int .i64 xb] 24) := ⟨_, rfl⟩
      rw [← hY] at C D bl' ⊢
      generalize v2.heap.size = g at *
      clear hY bl b2' b1 b2 H1 H2
      go_wp2_with (first
        | (go_at_call 7; (with_reducible refine (HA.out Y bl').mono ?_); rintro e v3 ⟨rfl, b3⟩; have C3 := C.below b3; have D3 := D.below b3; have kq := keep44 C3 D3; have hb3 := on bl' b3)
        | (go_at_call 8; (with_reducible refine (F1.out _ v3).mono ?_); rintro e v4 ⟨rfl, b4⟩; have C4 := C3.below b4; have D4 := D3.below b4; have kq4 := keep44 C4 D4; have hb4 := on hb3 b4)
        | (go_at_call 8; (with_reducible refine (F2.out _ v4).mono ?_); rintro e v5 ⟨rfl, b5⟩; have C5 := C4.below b5; have D5 := D4.below b5; have kq5 := keep44 C5 D5; have hb5 := on hb4 b5))
      go_ret
      exact ⟨rfl, hb5⟩)
end Go.Proofs.YtphpcpomhcodpaaDoor.Sh
