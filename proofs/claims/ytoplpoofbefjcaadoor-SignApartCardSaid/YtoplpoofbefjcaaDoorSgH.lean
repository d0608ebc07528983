/- Layer 19, on: the comparers of tokens and of pieces. -/
import Derived.Test.YtoplpoofbefjcaaDoorSgF
import Derived.Laws.StructEq
namespace Go.Proofs.YtoplpoofbefjcaaDoor.Sg
open Go.RowKit Go.Proofs.YtoplpoofbefjcaaDoor.Dig Go.Proofs.YtoplpoofbefjcaaDoor.W

section
variable {P : Program} {d : Nat} {xs ys : Array Value} {f : Field} {fs : List Field} {a b : Value} {r s : Bool} {w : World}
theorem eqf_last (hn : (f.name == "_") = false) (ha : (part f.type xs f.offset).run P w = .ok a w) (hb : (part f.type ys f.offset).run P w = .ok b w) (he : (Op.equalIn d f.type a b).run P w = .ok r w) : (Op.eqFields d xs ys [f]).run P w = .ok r w := by
  have hn' : f.name ≠ "_" := by simpa using hn
  simp only [Op.eqFields, if_pos hn', Sem.run_bind, ha, hb, he, Result.andThen_ok]
  cases r <;> simp
theorem eqf_cons (hn : (f.name == "_") = false) (ha : (part f.type xs f.offset).run P w = .ok a w) (hb : (part f.type ys f.offset).run P w = .ok b w) (he : (Op.equalIn d f.type a b).run P w = .ok r w) (hr : (Op.eqFields d xs ys fs).run P w = .ok s w) : (Op.eqFields d xs ys (f :: fs)).run P w = .ok (r && s) w := by
  have hn' : f.name ≠ "_" := by simpa using hn
  rw [Op.eqFields]
  simp only [if_pos hn', Sem.run_bind, ha, hb, he, Result.andThen_ok]
  cases r
  · simp
  · simpa using hr
theorem eqA_of {t : TypeId} {fs : Array Field} (hu : P.underlying t = some (.struct fs)) (hp : P.stoodInHeld t = false) (h : (Op.eqFields d xs ys fs.toList).run P w = .ok r w) : (Op.equalIn (d + 1) t (.agg xs) (.agg ys)).run P w = .ok r w := by
  have hf : P.fieldsOf t = fs := by simp [Program.fieldsOf, hu]
  rw [run_equalIn_struct (P := P) w d t xs ys (by rw [hf]; exact hu) hp, hf]
  exact h
theorem neq_agg {t : TypeId} (h : (Op.equalIn 10000 t (.agg xs) (.agg ys)).run P w = .ok r w) : (binOp .neq t (.agg xs) (.agg ys)).run P w = .ok (.bool !r) w := by
  simp only [binOp]
  simp [Op.equal, Op.maxDepth, h]
theorem eql_agg {t : TypeId} (h : (Op.equalIn 10000 t (.agg xs) (.agg ys)).run P w = .ok r w) : (binOp .eql t (.agg xs) (.agg ys)).run P w = .ok (.bool r) w := by
  simp only [binOp]
  simp [Op.equal, Op.maxDepth, h]
end
theorem eq_tok (d : Nat) (w : World) (x0 y0 x1 y1 : Int) (x2 y2 : ByteArray) :
    (Op.equalIn (d + 2) 35 (.agg #[.int .i64 x0, .int .i64 x1, .string x2]) (.agg #[.int .i64 y0, .int .i64 y1, .string y2])).run Tryd.prog w = .ok (x0 == y0 && (x1 == y1 && (x2.toList == y2.toList))) w := by
  refine eqA_of Tryd.underlying35 (by kernel_rfl) ?_
  refine eqf_cons (by rfl) (by go_simp; rfl) (by go_simp; rfl) (by go_simp) ?_
  refine eqf_cons (by rfl) (by go_simp; rfl) (by go_simp; rfl) (by go_simp) ?_
  exact eqf_last (by rfl) (by go_simp; rfl) (by go_simp; rfl) (by go_simp)
theorem eq_pc (d : Nat) (w : World) (x0 y0 : ByteArray) (x1 y1 : Int) :
    (Op.equalIn (d + 2) 59 (.agg #[.string x0, .int .i64 x1]) (.agg #[.string y0, .int .i64 y1])).run Tryd.prog w = .ok (x0.toList == y0.toList && (x1 == y1)) w := by
  refine eqA_of Tryd.underlying59 (by kernel_rfl) ?_
  refine eqf_cons (by rfl) (by go_simp; rfl) (by go_simp; rfl) (by go_simp) ?_
  exact eqf_last (by rfl) (by go_simp; rfl) (by go_simp; rfl) (by go_simp)
theorem same_toks (A A' : Option Addr) (n c n' c' : Nat) (l : List Tok) (w : World) (h : ST w A n c l) (h' : ST w A' n' c' l) :
    Calls Tryd.prog 10 #[.slice A n c, .slice A' n' c'] w fun e w' => e = .returned (.bool true) ∧ Drawn w w' := by
  obtain rfl : n = n' := h.len.symm.trans h'.len
  have hn63 : n ≤ 9223372036854775807 := Nat.le_trans (Sl.le h) (Sl.cap h)
  go_enter Tryd.func10, Tryd.ntmps10
  go_wp2
  go_loopw [5] (fun z wr => ∃ i : Nat, z = .int .i64 (i : Nat) ∧ i ≤ n ∧ Drawn w wr) (fun z _ => n - (intOf z).toNat)
  case atStart => exact ⟨0, rfl, Nat.zero_le _, Drawn.refl _⟩
  case round =>
    obtain ⟨i, rfl, hin, hd⟩ := hrel
    by_cases hlt : i < n
    · obtain ⟨b, o, t, rfl, ht, c1, c2, c3⟩ := (h.below hd.below).at_ hlt
      obtain ⟨b', o', t', rfl, ht', d1, d2, d3⟩ := (h'.below hd.below).at_ hlt
      obtain rfl : t = t' := Option.some.inj (ht.symm.trans ht')
      have hne : ∀ W, (binOp .neq 35 (.agg #[.int .i64 t.kind, .int .i64 t.many, .string t.text]) (.agg #[.int .i64 t.kind, .int .i64 t.many, .string t.text])).run Tryd.prog W = .ok (.bool false) W := by
        intro W
        have e := neq_agg (eq_tok 9998 W t.kind t.kind t.many t.many t.text t.text)
        simpa using e
      clear ht ht'
      go_wp2
      go_quiet (fail)
      go_wp2
      go_roundw
      case rel => exact ⟨i + 1, by go_num, by omega, hd.drewN _⟩
      case measure => simp [intOf]; omega
    · go_wp2
      go_ret
      exact ⟨rfl, hd⟩
theorem pcs_get : ∀ (l : List Pc) (i : Nat) (t : Pc), l[i]? = some t → (pcs l)[i * 2]? = some (.string t.text) ∧ (pcs l)[i * 2 + 1]? = some (.int .i64 t.field)
  | [], _, _, h => by simp at h
  | t :: l, 0, u, h => by
    simp at h; subst h; exact ⟨rfl, rfl⟩
  | t :: l, i + 1, u, h => by
    have := pcs_get l i u (by simpa using h)
    rw [Nat.succ_mul]
    exact this
def SP (w : World) (A : Option Addr) (n c : Nat) (l : List Pc) : Prop := Sl w 2 A n c (pcs l)
theorem SP.len {w : World} {A : Option Addr} {n c : Nat} {l : List Pc} (h : SP w A n c l) : l.length = n := by
  have := Sl.len h; rw [pcs_length] at this; omega
theorem SP.below {w w' : World} {A : Option Addr} {n c : Nat} {l : List Pc} (h : SP w A n c l) (hb : Below w.heap.size w w') : SP w' A n c l := Sl.below h hb
theorem SP.at_ {w : World} {A : Option Addr} {n c : Nat} {l : List Pc} (h : SP w A n c l) {i : Nat} (hi : i < n) : ∃ b o t, A = some ⟨b, o, none⟩ ∧ l[i]? = some t ∧ w.cell? ⟨b, o + i * 2, none⟩ = some (.string t.text) ∧ w.cell? ⟨b, o + i * 2 + 1, none⟩ = some (.int .i64 t.field) := by
  obtain ⟨b, o, e, hc⟩ := Sl.get h (by omega)
  have hl := h.len
  obtain ⟨t, ht⟩ : ∃ t, l[i]? = some t := ⟨l[i], List.getElem?_eq_getElem (by omega)⟩
  obtain ⟨h1, h2⟩ := pcs_get l i t ht
  exact ⟨b, o, t, e, ht, hc _ _ h1, hc _ _ h2⟩
theorem same_pcs (A A' : Option Addr) (n c n' c' : Nat) (l : List Pc) (w : World) (h : SP w A n c l) (h' : SP w A' n' c' l) :
    Calls Tryd.prog 14 #[.slice A n c, .slice A' n' c'] w fun e w' => e = .returned (.bool true) ∧ Drawn w w' := by
  obtain rfl : n = n' := h.len.symm.trans h'.len
  have hn63 : n ≤ 9223372036854775807 := Nat.le_trans (Sl.le h) (Sl.cap h)
  go_enter Tryd.func14, Tryd.ntmps14
  go_wp2
  go_loopw [5] (fun z wr => ∃ i : Nat, z = .int .i64 (i : Nat) ∧ i ≤ n ∧ Drawn w wr) (fun z _ => n - (intOf z).toNat)
  case atStart => exact ⟨0, rfl, Nat.zero_le _, Drawn.refl _⟩
  case round =>
    obtain ⟨i, rfl, hin, hd⟩ := hrel
    by_cases hlt : i < n
    · obtain ⟨b, o, t, rfl, ht, c1, c2⟩ := (h.below hd.below).at_ hlt
      obtain ⟨b', o', t', rfl, ht', d1, d2⟩ := (h'.below hd.below).at_ hlt
      obtain rfl : t = t' := Option.some.inj (ht.symm.trans ht')
      have hne : ∀ W, (binOp .neq 59 (.agg #[.string t.text, .int .i64 t.field]) (.agg #[.string t.text, .int .i64 t.field])).run Tryd.prog W = .ok (.bool false) W := by
        intro W
        have e := neq_agg (eq_pc 9998 W t.text t.text t.field t.field)
        simpa using e
      clear ht ht'
      go_wp2
      go_quiet (fail)
      go_wp2
      go_roundw
      case rel => exact ⟨i + 1, by go_num, by omega, hd.drewN _⟩
      case measure => simp [intOf]; omega
    · go_wp2
      go_ret
      exact ⟨rfl, hd⟩
end Go.Proofs.YtoplpoofbefjcaaDoor.Sg
