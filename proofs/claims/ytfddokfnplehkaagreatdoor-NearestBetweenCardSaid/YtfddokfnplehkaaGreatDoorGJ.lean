/- Texts of one layer, joined: Da, Db, De, Df, Dg, Dh. -/
import Derived.Test.YtfddokfnplehkaaGreatDoorGI
import Derived.Test.YtfddokfnplehkaaGreatDoorGD
import Derived.Test.YtfddokfnplehkaaGreatDoorGF
import Derived.Lib.TrimByte
import Derived.Laws.StructEq
import Derived.Test.YtfddokfnplehkaaGreatDoorGE
set_option linter.unusedVariables false
set_option linter.unusedSimpArgs false
set_option linter.unusedSectionVars false
/- Layer 5: words for a Dec. -/
set_option linter.unusedSimpArgs false
set_option linter.unusedVariables false
namespace Go.Proofs.YtfddokfnplehkaaGreatDoor.Dc
open Go.RowKit Go.Proofs.YtfddokfnplehkaaGreatDoor.Dig Go.Proofs.YtfddokfnplehkaaGreatDoor.W Go.Proofs.YtfddokfnplehkaaGreatDoor.Nat Go.Proofs.YtfddokfnplehkaaGreatDoor.Wh Go.Proofs.YtfddokfnplehkaaGreatDoor.Td Go.Proofs.YtfddokfnplehkaaGreatDoor.Bu Go.Proofs.YtfddokfnplehkaaGreatDoor.Tx Go.Proofs.YtfddokfnplehkaaGreatDoor.Sp Go.Proofs.YtfddokfnplehkaaGreatDoor.Rd

/-- a text -/
def str (l : List UInt8) : Value := .string ⟨l.toArray⟩
/-- a Dec -/
def dec (c : Int) (ng : Bool) (l : List UInt8) (x : Int) : Array Value := #[.int .i64 c, .bool ng, str l, .int .i64 x]
theorem on {w W W' : World} (h : Below w.heap.size w W) (b : Below W.heap.size W W') : Below w.heap.size w W' := h.trans (b.mono h.size)
theorem res_bk_t {P : Program} {w : World} {g : Nat} {t : TypeId} {cs : Array Value} {fn : Func} {p q : Tmp} {ty : TypeId} (h : fn.results = #[.cell p ty, .tmp q]) (tmps : Array Value) {d : TypeDesc} (hg : Bk w g t cs) (hp : tmps.getD p undef = .pointer (some ⟨g, 0, none⟩))
    (hu : P.underlying ty = some d) (hd : (match d with | .struct _ | .array _ _ => true | _ => false) = true) (hi : (P.info? ty).map (·.size) = some cs.size) :
    (results fn tmps).run P w = .ok (.tuple #[.agg cs, tmps.getD q undef]) w := by
  have hp' : tmps[p]?.getD undef = .pointer (some ⟨g, 0, none⟩) := by simpa using hp
  have e1 := run_loadVar_row (P := P) w g t ty cs (0, 0) _ hg hu hd hi
  simp [results, h, hp', asAddr, e1]
theorem bk_two (w : World) (cs ds : Array Value) (t u : TypeId) : Bk ((w.alloc (.cells cs t)).alloc (.cells ds u)) w.heap.size t cs ∧ Bk ((w.alloc (.cells cs t)).alloc (.cells ds u)) (w.heap.size + 1) u ds ∧ Below w.heap.size w ((w.alloc (.cells cs t)).alloc (.cells ds u)) := by
  have h2 := Bk.start (w.alloc (.cells cs t)) u ds
  rw [show (w.alloc (.cells cs t)).heap.size = w.heap.size + 1 by simp] at h2
  exact ⟨(Bk.start w t cs).alloc _, h2, on (alloc_below w _) (alloc_below _ _)⟩
theorem bk_three (w : World) (cs ds es : Array Value) (t u v : TypeId) : Bk (((w.alloc (.cells cs t)).alloc (.cells ds u)).alloc (.cells es v)) w.heap.size t cs ∧ Bk (((w.alloc (.cells cs t)).alloc (.cells ds u)).alloc (.cells es v)) (w.heap.size + 1) u ds ∧ Bk (((w.alloc (.cells cs t)).alloc (.cells ds u)).alloc (.cells es v)) (w.heap.size + 1 + 1) v es ∧ Below w.heap.size w (((w.alloc (.cells cs t)).alloc (.cells ds u)).alloc (.cells es v)) := by
  obtain ⟨h1, h2, h3⟩ := bk_two w cs ds t u
  have h4 := Bk.start ((w.alloc (.cells cs t)).alloc (.cells ds u)) v es
  rw [show ((w.alloc (.cells cs t)).alloc (.cells ds u)).heap.size = w.heap.size + 1 + 1 by simp] at h4
  exact ⟨h1.alloc _, h2.alloc _, h4, on h3 (alloc_below _ _)⟩
/-- a block's four cells, to be read -/
theorem four {w : World} {g : Nat} {t : TypeId} {a0 a1 a2 a3 : Value} (C : Bk w g t #[a0, a1, a2, a3]) :
    w.cell? ⟨g, 0, none⟩ = some a0 ∧ w.cell? ⟨g, 1, none⟩ = some a1 ∧ w.cell? ⟨g, 2, none⟩ = some a2 ∧ w.cell? ⟨g, 3, none⟩ = some a3 := ⟨C.at_ 0 rfl, C.at_ 1 rfl, C.at_ 2 rfl, C.at_ 3 rfl⟩
theorem frz {w : World} {g : Nat} {t : TypeId} {a0 a1 a2 a3 : Value} (C : Bk w g t #[a0, a1, a2, a3]) :
    w.frozen? ⟨g, 0, none⟩ = false ∧ w.frozen? ⟨g, 1, none⟩ = false ∧ w.frozen? ⟨g, 2, none⟩ = false ∧ w.frozen? ⟨g, 3, none⟩ = false := ⟨C.fr 0, C.fr 1, C.fr 2, C.fr 3⟩
theorem below_set4 {w W : World} {g : Nat} (h : Below w.heap.size w W) (hg : w.heap.size ≤ g) (a b c d : Value) : Below w.heap.size w ((((W.setCell ⟨g, 0, none⟩ a).setCell ⟨g, 1, none⟩ b).setCell ⟨g, 2, none⟩ c).setCell ⟨g, 3, none⟩ d) :=
  (((h.setCell hg _).setCell hg _).setCell hg _).setCell hg _
section
variable {P : Program} {d : Nat} {xs ys : Array Value} {f : Field} {fs : List Field} {a b : Value} {r s : Bool} {w : World}
theorem eqf_last (hn : (f.name == "_") = false) (ha : (part f.type xs f.offset).run P w = .ok a w) (hb : (part f.type ys f.offset).run P w = .ok b w) (he : (Op.equalIn d f.type a b).run P w = .ok r w) : (Op.eqFields d xs ys [f]).run P w = .ok r w := by
  have hn' : f.name ≠ "_" := by simpa using hn
  simp only [Op.eqFields, if_pos hn', Sem.run_bind, ha, hb, he, Result.andThen_ok]
  cases r <;> simp
theorem eqf_cons (hn : (f.name == "_") = false) (ha : (part f.type xs f.offset).run P w = .ok a w) (hb : (part f.type ys f.offset).run P w = .ok b w) (he : (Op.equalIn d f.type a b).run P w = .ok r w) (hr : (Op.eqFields d xs ys fs).run P w = .ok s w) : (Op.eqFields d xs ys (f :: fs)).run P w = .ok (r && s) w := by
  have hn' : f.name ≠ "_" := by simpa using hn
  rw [Op.eqFields]
  simp only [if_pos hn', Sem.run_bind, ha, hb, he, Result.andThen_ok]
  cases r
  · simp
  · simpa using hr
theorem eqA_of {t : TypeId} {fs : Array Field} (hu : P.underlying t = some (.struct fs)) (hp : P.stoodInHeld t = false) (h : (Op.eqFields d xs ys fs.toList).run P w = .ok r w) : (Op.equalIn (d + 1) t (.agg xs) (.agg ys)).run P w = .ok r w := by
  have hf : P.fieldsOf t = fs := by simp [Program.fieldsOf, hu]
  rw [run_equalIn_struct (P := P) w d t xs ys (by rw [hf]; exact hu) hp, hf]
  exact h
theorem eql_agg {t : TypeId} (h : (Op.equalIn 10000 t (.agg xs) (.agg ys)).run P w = .ok r w) : (binOp .eql t (.agg xs) (.agg ys)).run P w = .ok (.bool r) w := by
  simp only [binOp]
  simp [Op.equal, Op.maxDepth, h]
end
theorem eq_four (d : Nat) (w : World) (x0 y0 x3 y3 : Int) (x1 y1 : Bool) (x2 y2 : ByteArray) :
    (Op.equalIn (d + 2) 23 (.agg #[.int .i64 x0, .bool x1, .string x2, .int .i64 x3]) (.agg #[.int .i64 y0, .bool y1, .string y2, .int .i64 y3])).run Tryz.prog w = .ok (x0 == y0 && (x1 == y1 && (x2.toList == y2.toList && (x3 == y3)))) w := by
  refine eqA_of Tryz.underlying23 (by kernel_rfl) ?_
  refine eqf_cons (by rfl) (by go_simp; rfl) (by go_simp; rfl) (by go_simp) ?_
  refine eqf_cons (by rfl) (by go_simp; rfl) (by go_simp; rfl) (by go_simp) ?_
  refine eqf_cons (by rfl) (by go_simp; rfl) (by go_simp; rfl) (by go_simp) ?_
  exact eqf_last (by rfl) (by go_simp; rfl) (by go_simp; rfl) (by go_simp)
/-- a Dec is itself -/
theorem eq_dec (c x : Int) (g : Bool) (l : ByteArray) (w : World) : (binOp .eql 23 (.agg #[.int .i64 c, .bool g, .string l, .int .i64 x]) (.agg #[.int .i64 c, .bool g, .string l, .int .i64 x])).run Tryz.prog w = .ok (.bool true) w := by
  have e := eql_agg (eq_four 9998 w c c x x g g l l)
  rw [e]
  simp
theorem no_guard : Tryz.prog.eqGuardType Tryz.prog.depth 23 = false := by kernel_rfl
theorem right_calls (l t : List UInt8) (h : Lib.trimRightB l 48 = t) (hl : l.length ≤ 9223372036854775807) (w : World) : Calls Tryz.prog 97 #[.string ⟨l.toArray⟩, .string ⟨#[48]⟩] w fun e w' => e = .returned (.string ⟨t.toArray⟩) ∧ w = w' := by
  subst h
  exact (Tryz.strings_TrimRight_one ⟨l.toArray⟩ 48 (by decide) w (by show l.toArray.size ≤ _; rw [List.size_toArray]; exact hl)).mono fun _ _ ⟨a, b⟩ => ⟨a, b.symm⟩
/-- what comes of a number: a Dec and no error, or none and 'out of range' -/
def oc (g : Bool) : Option (List UInt8 × Int) → Array Value
  | some p => dec 0 g p.1 p.2
  | none => dec 0 false [] 0
def oe : Option (List UInt8 × Int) → Int
  | some _ => 0
  | none => 51
theorem oc_four (g : Bool) (o : Option (List UInt8 × Int)) : ∃ g' l x, oc g o = #[.int .i64 0, .bool g', .string l, .int .i64 x] := by
  cases o with
  | none => exact ⟨_, _, _, rfl⟩
  | some p => exact ⟨_, _, _, rfl⟩
end Go.Proofs.YtfddokfnplehkaaGreatDoor.Dc

/- Layer 5: dec.May. -/
set_option linter.unusedSimpArgs false
set_option linter.unusedVariables false
namespace Go.Proofs.YtfddokfnplehkaaGreatDoor.Dc
open Go.RowKit Go.Proofs.YtfddokfnplehkaaGreatDoor.Dig Go.Proofs.YtfddokfnplehkaaGreatDoor.W Go.Proofs.YtfddokfnplehkaaGreatDoor.Nat Go.Proofs.YtfddokfnplehkaaGreatDoor.Wh Go.Proofs.YtfddokfnplehkaaGreatDoor.Td Go.Proofs.YtfddokfnplehkaaGreatDoor.Bu Go.Proofs.YtfddokfnplehkaaGreatDoor.Tx Go.Proofs.YtfddokfnplehkaaGreatDoor.Sp Go.Proofs.YtfddokfnplehkaaGreatDoor.Rd

theorem size_list (S : ByteArray) : (S.size : Int) = (S.data.toList.length : Int) := by rw [Lib.size_eq]
theorem nil_of {S : ByteArray} (h : S.size = 0) : S.data.toList = [] := List.eq_nil_of_length_eq_zero (by rw [← Lib.size_eq]; exact h)
theorem ne_nil {S : ByteArray} (h : 0 < S.size) : S.data.toList ≠ [] := fun e => by rw [Lib.size_eq, e] at h; exact absurd h (by simp)
theorem byte0 {S : ByteArray} (h : 0 < S.size) : S.data.toList.head? = some S[0] := by
  show _ = some S.data[0]
  rw [← Array.getElem_toList, List.head?_eq_getElem?, List.getElem?_eq_getElem]
theorem byteL {S : ByteArray} {k : Nat} (h : 0 < S.size) (hk : k + 1 = S.size) : S.data.toList.getLast? = some (S[k]'(by omega)) := by
  show _ = some (S.data[k]'(by have := Lib.size_eq S; rw [Array.length_toList] at this; omega))
  have hl : S.data.toList.length = k + 1 := by rw [← Lib.size_eq]; omega
  rw [List.getLast?_eq_getElem?, show S.data.toList.length - 1 = k by omega, ← Array.getElem_toList, List.getElem?_eq_getElem]
theorem is48 (b : UInt8) : ((b.toNat : Int) == 48) = (some b == some (48 : UInt8)) := by
  rw [Bool.eq_iff_iff]
  simp only [beq_iff_eq, Option.some.injEq]
  constructor
  · intro h; exact UInt8.toNat_inj.mp (show b.toNat = (48 : UInt8).toNat by have : (48 : UInt8).toNat = 48 := rfl; omega)
  · rintro rfl; rfl
theorem may_none {c x : Int} {g : Bool} {l : List UInt8} (h : l = []) : mayB c g l x = (decide (x = 0) && (decide (c = 0) || decide (c = 1) || (decide (c = 2) && !g))) := by unfold mayB; rw [if_pos h]
theorem may_some {c x : Int} {g : Bool} {l : List UInt8} (h : l ≠ []) : mayB c g l x = (decide (c = 0) && decide (fits l x) && l.all digB && !(l.head? == some 48) && !(l.getLast? == some 48)) := by unfold mayB; rw [if_neg h]
theorem eqB {a b : Int} (h : a ≠ b) : (a == b) = false := beq_eq_false_iff_ne.2 h
set_option maxHeartbeats 4000000 in
set_option maxRecDepth 100000 in
theorem dmay_nil (c : Int) (g : Bool) (S : ByteArray) (x : Int) (w : World) (h0 : S.size = 0) :
    Calls Tryz.prog 54 #[.agg #[.int .i64 c, .bool g, .string S, .int .i64 x]] w fun e w' => e = .returned (.bool (mayB c g S.data.toList x)) ∧ Below w.heap.size w w' := by
  have HB := Lib.hid (alloc_below w (.cells #[.int .i64 c, .bool g, .string S, .int .i64 x] 23))
  rw [may_none (nil_of h0)]
  by_cases hx : x = 0
  · subst hx
    by_cases h1 : c = 0
    · subst h1
      go_enter Tryz.func54, Tryz.ntmps54
      go_wp2
      go_ret
      exact ⟨by simp, HB.out⟩
    · have e1 := eqB h1
      by_cases h2 : c = 1
      · subst h2
        go_enter Tryz.func54, Tryz.ntmps54
        go_wp2
        go_ret
        exact ⟨by simp, HB.out⟩
      · have e2 := eqB h2
        by_cases h3 : c = 2
        · subst h3
          go_enter Tryz.func54, Tryz.ntmps54
          go_wp2
          go_ret
          exact ⟨by simp, HB.out⟩
        · have e3 := eqB h3
          go_enter Tryz.func54, Tryz.ntmps54
          go_wp2
          go_ret
          exact ⟨by simp [h1, h2, h3], HB.out⟩
  · have e0 := eqB hx
    go_enter Tryz.func54, Tryz.ntmps54
    go_wp2
    go_ret
    exact ⟨by simp [hx], HB.out⟩
theorem digB_all {l : List UInt8} (h : ∀ b ∈ l, isDig b) : l.all digB = true := List.all_eq_true.2 fun b hb => (digB_iff b).2 (h b hb)
theorem digB_not {l : List UInt8} (h : ¬ ∀ b ∈ l, isDig b) : l.all digB = false := by
  rw [Bool.eq_false_iff]
  intro e
  exact h fun b hb => (digB_iff b).1 (List.all_eq_true.1 e b hb)
set_option maxHeartbeats 4000000 in
set_option maxRecDepth 100000 in
theorem dmay_some (c : Int) (g : Bool) (S : ByteArray) (x : Int) (w : World) (h0 : 0 < S.size) (hS : S.size ≤ 9223372036854775807) :
    Calls Tryz.prog 54 #[.agg #[.int .i64 c, .bool g, .string S, .int .i64 x]] w fun e w' => e = .returned (.bool (mayB c g S.data.toList x)) ∧ Below w.heap.size w w' := by
  have HB := Lib.hid (alloc_below w (.cells #[.int .i64 c, .bool g, .string S, .int .i64 x] 23))
  have HK := Lib.hid (Bk.start w 23 #[.int .i64 c, .bool g, .string S, .int .i64 x])
  rw [may_some (ne_nil h0)]
  have hn : ¬ ((S.size : Int) = 0) := by omega
  have hnB := eqB hn
  by_cases hc : c = 0
  · subst hc
    by_cases hf : fits S.data.toList x
    · obtain ⟨f1, f2, f3⟩ := hf
      have hf' : fits S.data.toList x := ⟨f1, f2, f3⟩
      rw [← Lib.size_eq] at f1 f2 f3
      have d1 : decide ((1000 : Int) < (S.size : Int)) = false := decide_eq_false (by omega)
      have d2 : decide (x < -2000 - (S.size : Int)) = false := decide_eq_false (by omega)
      have d3 : decide (2000 - (S.size : Int) < x) = false := decide_eq_false (by omega)
      have hT := trimset_calls S hS (w.alloc (.cells #[.int .i64 0, .bool g, .string S, .int .i64 x] 23))
      by_cases hall : ∀ b ∈ S.data.toList, isDig b
      · rw [trim_all hall] at hT
        rw [digB_all hall, decide_eq_true hf', byte0 h0, byteL (k := S.size - 1) h0 (by omega), ← is48, ← is48]
        have HT := Lib.hid hT
        clear hT hf' hall
        generalize hb0 : (S[0].toNat : Int) = y0
        generalize hb1 : ((S[S.size - 1]'(by omega)).toNat : Int) = y1
        cases z0 : (y0 == 48)
        · have z0' : ¬ y0 = 48 := beq_eq_false_iff_ne.1 z0
          go_enter Tryz.func54, Tryz.ntmps54
          go_wp2_with (go_at_call 83; (with_reducible refine HT.out.mono ?_); rintro e w1 ⟨rfl, b1⟩; have q := four (HK.out.below b1))
          go_ret
          exact ⟨by simp [bne, z0], on HB.out b1⟩
        · obtain rfl : y0 = 48 := beq_iff_eq.1 z0
          go_enter Tryz.func54, Tryz.ntmps54
          go_wp2_with (go_at_call 83; (with_reducible refine HT.out.mono ?_); rintro e w1 ⟨rfl, b1⟩; have q := four (HK.out.below b1))
          go_ret
          exact ⟨by simp [bne, z0], on HB.out b1⟩
      · have he := trim_some hall
        rw [digB_not hall]
        generalize Lib.trimS S.data.toList digset = D at *
        have HT := Lib.hid hT
        clear hT hall hf'
        go_enter Tryz.func54, Tryz.ntmps54
        go_wp2_with (go_at_call 83; (with_reducible refine HT.out.mono ?_); rintro e w1 ⟨rfl, b1⟩; have q := four (HK.out.below b1))
        go_ret
        exact ⟨by simp, on HB.out b1⟩
    · rw [decide_eq_false hf]
      unfold fits at hf
      rw [← Lib.size_eq] at hf
      by_cases k1 : (1000 : Int) < (S.size : Int)
      · have d1 := decide_eq_true k1
        go_enter Tryz.func54, Tryz.ntmps54
        go_wp2
        go_ret
        exact ⟨by simp, HB.out⟩
      · have d1 := decide_eq_false k1
        by_cases k2 : x < -2000 - (S.size : Int)
        · have d2 := decide_eq_true k2
          go_enter Tryz.func54, Tryz.ntmps54
          go_wp2
          go_ret
          exact ⟨by simp, HB.out⟩
        · have d2 := decide_eq_false k2
          have k3 : 2000 - (S.size : Int) < x := by omega
          have d3 := decide_eq_true k3
          clear hf
          go_enter Tryz.func54, Tryz.ntmps54
          go_wp2
          go_ret
          exact ⟨by simp, HB.out⟩
  · have e1 := eqB hc
    go_enter Tryz.func54, Tryz.ntmps54
    go_wp2
    go_ret
    exact ⟨by simp [hc], HB.out⟩
/-- dec.May answers as the plain word does -/
theorem dmay_calls (c : Int) (g : Bool) (l : List UInt8) (x : Int) (w : World) (hl : l.length ≤ 9223372036854775807) :
    Calls Tryz.prog 54 #[.agg (dec c g l x)] w fun e w' => e = .returned (.bool (mayB c g l x)) ∧ Below w.heap.size w w' := by
  have hs : (⟨l.toArray⟩ : ByteArray).size = l.length := by rw [Lib.size_eq]
  rcases Nat.eq_zero_or_pos l.length with h | h
  · exact dmay_nil c g ⟨l.toArray⟩ x w (by omega)
  · exact dmay_some c g ⟨l.toArray⟩ x w (by omega) (by omega)
end Go.Proofs.YtfddokfnplehkaaGreatDoor.Dc

/- The document's answer of layer 4: May. -/
set_option linter.unusedSimpArgs false
set_option linter.unusedVariables false
namespace Go.Proofs.YtfddokfnplehkaaGreatDoor.Dc
open Go.RowKit Go.Proofs.YtfddokfnplehkaaGreatDoor.Dig Go.Proofs.YtfddokfnplehkaaGreatDoor.W Go.Proofs.YtfddokfnplehkaaGreatDoor.Nat Go.Proofs.YtfddokfnplehkaaGreatDoor.Wh Go.Proofs.YtfddokfnplehkaaGreatDoor.Td Go.Proofs.YtfddokfnplehkaaGreatDoor.Bu Go.Proofs.YtfddokfnplehkaaGreatDoor.Tx Go.Proofs.YtfddokfnplehkaaGreatDoor.Sp Go.Proofs.YtfddokfnplehkaaGreatDoor.Rd

set_option maxHeartbeats 4000000 in
set_option maxRecDepth 100000 in
theorem rmay_odd (c : Int) (g : Bool) (S : ByteArray) (x : Int) (w : World) (hc : c ≠ 0) :
    Calls Tryz.prog 13 #[.agg #[.int .i64 c, .bool g, .string S, .int .i64 x]] w fun e w' => e = .returned (.bool (mayB c g S.data.toList x)) ∧ Below w.heap.size w w' := by
  have HB := Lib.hid (alloc_below w (.cells #[.int .i64 c, .bool g, .string S, .int .i64 x] 23))
  have e1 := eqB hc
  obtain ⟨b, hb, hb2⟩ : ∃ b : Bool, ((c == 1) || ((c == 2) && !g)) = b ∧ mayB c g S.data.toList x = (b && ((S.size : Int) == 0) && (x == 0)) := by
    refine ⟨_, rfl, ?_⟩
    by_cases h0 : S.size = 0
    · rw [may_none (nil_of h0), h0]
      simp [hc, Bool.and_comm]
      rw [Bool.eq_iff_iff]; simp
    · rw [may_some (ne_nil (by omega)), eqB (show ((S.size : Int) ≠ 0) by omega)]
      simp [hc]
  rw [hb2]
  clear hb2
  by_cases h1 : c = 1
  · subst h1
    obtain rfl : b = true := by rw [← hb]; rfl
    cases k0 : ((S.size : Int) == 0)
    · have k0' := beq_eq_false_iff_ne.1 k0
      go_enter Tryz.func13, Tryz.ntmps13
      go_wp2
      go_ret
      exact ⟨by simp, HB.out⟩
    · have k0' := beq_iff_eq.1 k0
      go_enter Tryz.func13, Tryz.ntmps13
      go_wp2
      go_ret
      exact ⟨by simp, HB.out⟩
  · have e2 := eqB h1
    by_cases h2 : c = 2
    · subst h2
      cases g
      · obtain rfl : b = true := by rw [← hb]; rfl
        cases k0 : ((S.size : Int) == 0)
        · have k0' := beq_eq_false_iff_ne.1 k0
          go_enter Tryz.func13, Tryz.ntmps13
          go_wp2
          go_ret
          exact ⟨by simp, HB.out⟩
        · have k0' := beq_iff_eq.1 k0
          go_enter Tryz.func13, Tryz.ntmps13
          go_wp2
          go_ret
          exact ⟨by simp, HB.out⟩
      · obtain rfl : b = false := by rw [← hb]; rfl
        go_enter Tryz.func13, Tryz.ntmps13
        go_wp2
        go_ret
        exact ⟨by simp, HB.out⟩
    · have e3 := eqB h2
      obtain rfl : b = false := by rw [← hb, e2, e3]; rfl
      go_enter Tryz.func13, Tryz.ntmps13
      go_wp2
      go_ret
      exact ⟨by simp, HB.out⟩
set_option maxHeartbeats 4000000 in
set_option maxRecDepth 100000 in
theorem rmay_nil (g : Bool) (S : ByteArray) (x : Int) (w : World) (h0 : S.size = 0) :
    Calls Tryz.prog 13 #[.agg #[.int .i64 0, .bool g, .string S, .int .i64 x]] w fun e w' => e = .returned (.bool (mayB 0 g S.data.toList x)) ∧ Below w.heap.size w w' := by
  have HB := Lib.hid (alloc_below w (.cells #[.int .i64 0, .bool g, .string S, .int .i64 x] 23))
  rw [may_none (nil_of h0)]
  go_enter Tryz.func13, Tryz.ntmps13
  go_wp2
  go_ret
  exact ⟨by simp; rw [Bool.eq_iff_iff]; simp, HB.out⟩
set_option maxHeartbeats 4000000 in
set_option maxRecDepth 100000 in
theorem rmay_out (g : Bool) (S : ByteArray) (x : Int) (w : World) (h0 : 0 < S.size) (hf : ¬ fits S.data.toList x) :
    Calls Tryz.prog 13 #[.agg #[.int .i64 0, .bool g, .string S, .int .i64 x]] w fun e w' => e = .returned (.bool (mayB 0 g S.data.toList x)) ∧ Below w.heap.size w w' := by
  have HB := Lib.hid (alloc_below w (.cells #[.int .i64 0, .bool g, .string S, .int .i64 x] 23))
  rw [may_some (ne_nil h0), decide_eq_false hf]
  have hn : ¬ ((S.size : Int) = 0) := by omega
  have hnB := eqB hn
  unfold fits at hf
  rw [← Lib.size_eq] at hf
  by_cases k1 : (1000 : Int) < (S.size : Int)
  · have d1 := decide_eq_true k1
    clear hf
    go_enter Tryz.func13, Tryz.ntmps13
    go_wp2
    go_ret
    exact ⟨by simp, HB.out⟩
  · have d1 := decide_eq_false k1
    by_cases k2 : x < -4000
    · have d2 := decide_eq_true k2
      clear hf
      go_enter Tryz.func13, Tryz.ntmps13
      go_wp2
      go_ret
      exact ⟨by simp, HB.out⟩
    · have d2 := decide_eq_false k2
      by_cases k3 : 4000 < x
      · have d3 := decide_eq_true k3
        clear hf
        go_enter Tryz.func13, Tryz.ntmps13
        go_wp2
        go_ret
        exact ⟨by simp, HB.out⟩
      · have d3 := decide_eq_false k3
        by_cases k4 : (S.size : Int) + x < -2000
        · have d4 := decide_eq_true k4
          clear hf
          go_enter Tryz.func13, Tryz.ntmps13
          go_wp2
          go_ret
          exact ⟨by simp, HB.out⟩
        · have d4 := decide_eq_false k4
          have k5 : 2000 < (S.size : Int) + x := by omega
          have d5 := decide_eq_true k5
          clear hf
          go_enter Tryz.func13, Tryz.ntmps13
          go_wp2
          go_ret
          exact ⟨by simp, HB.out⟩
theorem byte_at' {S : ByteArray} {i : Nat} (h : i < S.size) : ∃ c, S.data.toList[i]? = some c ∧ S[i] = c := by
  have h2 : i < S.data.toList.length := by rw [← Lib.size_eq]; exact h
  refine ⟨S.data.toList[i], List.getElem?_eq_getElem h2, ?_⟩
  show S.data[i] = _
  rw [Array.getElem_toList]
set_option maxHeartbeats 4000000 in
set_option maxRecDepth 100000 in
theorem rmay_in (g : Bool) (S : ByteArray) (x : Int) (w : World) (h0 : 0 < S.size) (hf : fits S.data.toList x) :
    Calls Tryz.prog 13 #[.agg #[.int .i64 0, .bool g, .string S, .int .i64 x]] w fun e w' => e = .returned (.bool (mayB 0 g S.data.toList x)) ∧ Below w.heap.size w w' := by
  have HB := Lib.hid (alloc_below w (.cells #[.int .i64 0, .bool g, .string S, .int .i64 x] 23))
  have hmb : mayB 0 g S.data.toList x = (S.data.toList.all digB && !(S.data.toList.head? == some 48) && !(S.data.toList.getLast? == some 48)) := by rw [may_some (ne_nil h0), decide_eq_true hf]; rfl
  have HMB := Lib.hid hmb
  clear hmb
  have hn : ¬ ((S.size : Int) = 0) := by omega
  have hnB := eqB hn
  obtain ⟨f1, f2, f3⟩ := hf
  rw [← Lib.size_eq] at f1 f2 f3
  have d1 : decide ((1000 : Int) < (S.size : Int)) = false := decide_eq_false (by omega)
  have d2 : decide (x < -4000) = false := decide_eq_false (by omega)
  have d3 : decide (4000 < x) = false := decide_eq_false (by omega)
  have d4 : decide ((S.size : Int) + x < -2000) = false := decide_eq_false (by omega)
  have d5 : decide (2000 < (S.size : Int) + x) = false := decide_eq_false (by omega)
  go_enter Tryz.func13, Tryz.ntmps13
  go_wp2
  go_loop [4] (fun z => ∃ i : Nat, z = .int .i64 (i : Nat) ∧ i ≤ S.size ∧ Hid (∀ b ∈ S.data.toList.take i, isDig b)) (fun z => S.size - (intOf z).toNat)
  case atStart => exact ⟨0, rfl, Nat.zero_le _, fun b hb => by simp at hb⟩
  case round =>
    obtain ⟨i, rfl, hi, HA⟩ := hrel
    by_cases hin : i < S.size
    · obtain ⟨ch, hch, hSi⟩ := byte_at' hin
      obtain ⟨b, hb⟩ : ∃ b, (S[i].toNat : Int) = ((b : Nat) : Int) := ⟨_, rfl⟩
      have hbc : ch.toNat = b := by rw [hSi] at hb; omega
      by_cases hdg : 48 ≤ b ∧ b ≤ 57
      · have c1 : decide ((b : Int) < 48) = false := decide_eq_false (by omega)
        have c2 : decide ((57 : Int) < (b : Int)) = false := decide_eq_false (by omega)
        have hnew : Hid (∀ b ∈ S.data.toList.take (i + 1), isDig b) := by
          intro x hx
          rw [List.take_add_one, hch, List.mem_append] at hx
          rcases hx with hx | hx
          · exact HA.out x hx
          · have : x = ch := by simpa using hx
            subst this
            unfold isDig
            omega
        clear hch hSi hbc
        go_wp2
        go_round
        case rel => exact ⟨i + 1, rfl, by omega, hnew⟩
        case measure => simp [intOf]; omega
      · have hnn : ¬ ∀ b ∈ S.data.toList, isDig b := fun h => hdg (by
          have := h ch (List.mem_of_getElem? hch)
          unfold isDig at this
          omega)
        have HD : Hid (mayB 0 g S.data.toList x = false) := by show _ = _; rw [HMB.out, digB_not hnn]; rfl
        clear hch hSi hbc hnn
        rcases Nat.lt_or_ge b 48 with hlt | hge
        · have c1 : decide ((b : Int) < 48) = true := decide_eq_true (by omega)
          go_wp2
          go_ret
          exact ⟨by rw [HD.out]; rfl, HB.out⟩
        · have c1 : decide ((b : Int) < 48) = false := decide_eq_false (by omega)
          have c2 : decide ((57 : Int) < (b : Int)) = true := decide_eq_true (by omega)
          go_wp2
          go_ret
          exact ⟨by rw [HD.out]; rfl, HB.out⟩
    · obtain rfl : i = S.size := by omega
      have hall := HA.out
      rw [List.take_of_length_le (by rw [← Lib.size_eq]; exact Nat.le_refl _)] at hall
      have HD : Hid (mayB 0 g S.data.toList x = (!((S[0].toNat : Int) == 48) && !(((S[S.size - 1]'(by omega)).toNat : Int) == 48))) := by
        show _ = _
        rw [HMB.out, digB_all hall, byte0 h0, byteL (k := S.size - 1) h0 (by omega), ← is48, ← is48]; rfl
      clear hall HA
      generalize hb0 : (S[0].toNat : Int) = y0 at HD
      generalize hb1 : ((S[S.size - 1]'(by omega)).toNat : Int) = y1 at HD
      cases z0 : (y0 == 48)
      · have z0' : ¬ y0 = 48 := beq_eq_false_iff_ne.1 z0
        go_wp2
        go_ret
        exact ⟨by rw [HD.out]; simp [bne, z0], HB.out⟩
      · obtain rfl : y0 = 48 := beq_iff_eq.1 z0
        go_wp2
        go_ret
        exact ⟨by rw [HD.out]; simp [bne, z0], HB.out⟩
theorem rmay_calls (c : Int) (g : Bool) (l : List UInt8) (x : Int) (w : World) :
    Calls Tryz.prog 13 #[.agg (dec c g l x)] w fun e w' => e = .returned (.bool (mayB c g l x)) ∧ Below w.heap.size w w' := by
  have hs : (⟨l.toArray⟩ : ByteArray).size = l.length := by rw [Lib.size_eq]
  by_cases hc : c = 0
  · subst hc
    rcases Nat.eq_zero_or_pos l.length with h | h
    · exact rmay_nil g ⟨l.toArray⟩ x w (by omega)
    · by_cases hf : fits l x
      · exact rmay_in g ⟨l.toArray⟩ x w (by omega) hf
      · exact rmay_out g ⟨l.toArray⟩ x w (by omega) hf
  · exact rmay_odd c g ⟨l.toArray⟩ x w hc
end Go.Proofs.YtfddokfnplehkaaGreatDoor.Dc

/- Layer 6: dec.Place; round.made. -/
set_option linter.unusedSimpArgs false
set_option linter.unusedVariables false
namespace Go.Proofs.YtfddokfnplehkaaGreatDoor.Dc
open Go.RowKit Go.Proofs.YtfddokfnplehkaaGreatDoor.Dig Go.Proofs.YtfddokfnplehkaaGreatDoor.W Go.Proofs.YtfddokfnplehkaaGreatDoor.Nat Go.Proofs.YtfddokfnplehkaaGreatDoor.Wh Go.Proofs.YtfddokfnplehkaaGreatDoor.Td Go.Proofs.YtfddokfnplehkaaGreatDoor.Bu Go.Proofs.YtfddokfnplehkaaGreatDoor.Tx Go.Proofs.YtfddokfnplehkaaGreatDoor.Sp Go.Proofs.YtfddokfnplehkaaGreatDoor.Rd

theorem emp {S : ByteArray} (h : 0 < S.size) : S.toList.isEmpty = false ∧ (S.toList == []) = false := by
  have h1 := not_empty_of h
  refine ⟨h1, ?_⟩
  cases e : S.toList with
  | nil => rw [e] at h1; cases h1
  | cons _ _ => rfl
theorem may_form {g : Bool} {l : List UInt8} {x : Int} (h : Formed l) : mayB 0 g l x = decide (fits l x) := by
  rw [Bool.eq_iff_iff, mayB_iff]
  have := h.ne
  simp only [decide_eq_true_eq]
  constructor
  · rintro (⟨h1, _⟩ | ⟨_, _, h3⟩)
    · exact absurd h1 this
    · exact h3
  · intro h3; exact .inr ⟨rfl, h, h3⟩
theorem size_of (l : List UInt8) : (⟨l.toArray⟩ : ByteArray).size = l.length := by rw [Lib.size_eq]
set_option maxHeartbeats 4000000 in
set_option maxRecDepth 100000 in
theorem place_calls (g : Bool) (l : List UInt8) (x : Int) (w : World) (h : Formed l) (hf : fits l x) :
    Calls Tryz.prog 93 #[.agg (dec 0 g l x)] w fun e w' => e = .returned (.int .i64 ((l.length : Int) + x)) ∧ Below w.heap.size w w' := by
  obtain ⟨f1, f2, f3⟩ := hf
  have hM := dmay_calls 0 g l x (w.alloc (.cells (dec 0 g l x) 23)) (by omega)
  rw [may_form h, decide_eq_true (show fits l x from ⟨f1, f2, f3⟩)] at hM
  have hs := size_of l
  have hl := h.len
  unfold dec str at hM ⊢
  generalize (⟨l.toArray⟩ : ByteArray) = S at *
  obtain ⟨e1, e2⟩ := emp (S := S) (by omega)
  have HB := Lib.hid (alloc_below w (.cells #[.int .i64 0, .bool g, .string S, .int .i64 x] 23))
  have HK := Lib.hid (Bk.start w 23 #[.int .i64 0, .bool g, .string S, .int .i64 x])
  have HM := Lib.hid hM
  rw [← hs] at f1 f2 f3 ⊢
  clear hM hs hl h
  go_enter Tryz.func93, Tryz.ntmps93
  go_wp2_with (go_at_call 54; (with_reducible refine HM.out.mono ?_); rintro e w1 ⟨rfl, b1⟩; have q := four (HK.out.below b1))
  go_ret
  exact ⟨rfl, on HB.out b1⟩
theorem dec_trim (W : Nat) : Lib.trimRightB (Lib.decDigits W) 48 = cd W ∧ (W ≠ 0 → (Lib.decDigits W).length = (cd W).length + tz W) := by
  by_cases h : W = 0
  · subst h
    exact ⟨by rw [dec_small (by omega)]; decide, fun h => absurd rfl h⟩
  · obtain ⟨b, e, hb⟩ := tz_spec W h
    refine ⟨?_, fun _ => by rw [dec_split h, List.length_append, List.length_replicate]⟩
    have h1 := trim_dec (k := tz W) hb
    have h2 := cd_of (k := tz W) hb
    rw [← e] at h1 h2
    rw [h1, h2]
theorem text_d (A : Option Addr) (n c m : Nat) (w : World) (h : SI w .u64 A n c (digs U m)) (hn : n ≤ 1000000000000) (hp : Pow w) :
    Calls Tryz.prog 64 #[.slice A n c] w fun e w' => e = .returned (str (Lib.decDigits m)) ∧ Below w.heap.size w w' := by
  have e := text_calls A n c (digs U m) w h (dl m) hn hp
  rw [val_digs U_two] at e
  exact e
theorem cd_len' {W K : Nat} (h : W < 10 ^ K) (hK : 0 < K) : (cd W).length ≤ K ∧ (W ≠ 0 → (cd W).length + tz W ≤ K) := by
  by_cases h0 : W = 0
  · subst h0
    rw [cd_zero]
    exact ⟨Nat.zero_le _, fun h => absurd rfl h⟩
  · have h1 := (dec_trim W).2 h0
    have h2 := dec_len_le h hK
    exact ⟨by omega, fun _ => by omega⟩
def zD : Array Value := #[.int .i64 0, .bool false, .string ⟨#[]⟩, .int .i64 0]
theorem told_zero (g : Bool) (E : Int) : told g 0 E = some ([], 0) := by unfold told; rw [if_pos rfl]
theorem may_zero (g : Bool) : mayB 0 g [] 0 = true := by cases g <;> rfl
set_option maxHeartbeats 4000000 in
set_option maxRecDepth 100000 in
theorem made_zero (g : Bool) (A : Option Addr) (n c : Nat) (E : Int) (w : World) (hp : Pow w) (h : SI w .u64 A n c (digs U 0)) :
    Calls Tryz.prog 91 #[.bool g, .slice A n c, .int .i64 E] w fun e w' => e = .returned (.tuple #[.agg (dec 0 g [] 0), .int .i64 0]) ∧ Below w.heap.size w w' := by
  have b0 := alloc_below w (.cells #[.int .i64 0, .bool false, .string ⟨#[]⟩, .int .i64 0] 23)
  have HB0 := Lib.hid (Bk.start w 23 #[.int .i64 0, .bool false, .string ⟨#[]⟩, .int .i64 0])
  obtain rfl : n = 0 := by rw [← h.len, digs_zero]; rfl
  have HT := Lib.hid (text_d A 0 c 0 _ (h.below b0) (by omega) (hp.below b0))
  have HR := Lib.hid (right_calls (Lib.decDigits 0) [] (dec_trim 0).1 (by rw [dec_small (by omega)]; decide))
  have HM := Lib.hid (fun w1 => may_zero g ▸ dmay_calls 0 g [] 0 w1 (by decide))
  have HB := Lib.hid b0
  clear hp h b0
  unfold str at HT
  unfold dec str at HM ⊢
  go_enter Tryz.func91, Tryz.ntmps91
  go_wp2_with (first
    | (go_at_call 64; (with_reducible refine HT.out.mono ?_); rintro e w1 ⟨rfl, b1⟩)
    | (go_at_call 97; (with_reducible refine (HR.out w1).mono ?_); rintro e w2 ⟨rfl, rfl⟩)
    | (go_at_call 54; (with_reducible refine (HM.out _).mono ?_); rintro e w3 ⟨rfl, b3⟩; have q := four ((Bk.start w1 23 #[.int .i64 0, .bool g, .string ⟨#[]⟩, .int .i64 0]).below b3); have Z := ((HB0.out.below b1).alloc (.cells #[.int .i64 0, .bool g, .string ⟨#[]⟩, .int .i64 0] 23)).below b3; have z := four Z; have f := frz Z))
  have bl := on (on (on HB.out b1) (alloc_below w1 (.cells #[.int .i64 0, .bool g, .string ⟨#[]⟩, .int .i64 0] 23))) b3
  exact bodyPost_ret (res_bk_t rfl _ (Z.set4 _ _ _ _ rfl) rfl Tryz.underlying23 rfl (by kernel_rfl)) rfl ⟨rfl, below_set4 bl (Nat.le_refl _) _ _ _ _⟩
set_option maxHeartbeats 4000000 in
set_option maxRecDepth 100000 in
theorem made_pos (g : Bool) (A : Option Addr) (n c W K : Nat) (E : Int) (w : World) (hp : Pow w) (h : SI w .u64 A n c (digs U W)) (hW : W < 10 ^ K) (hK : K ≤ 1000000) (hE : -1000000 ≤ E) (hE2 : E ≤ 1000000) (h0 : W ≠ 0) :
    Calls Tryz.prog 91 #[.bool g, .slice A n c, .int .i64 E] w fun e w' => e = .returned (.tuple #[.agg (oc g (told g W E)), .int .i64 (oe (told g W E))]) ∧ Below w.heap.size w w' := by
  have b0 := alloc_below w (.cells #[.int .i64 0, .bool false, .string ⟨#[]⟩, .int .i64 0] 23)
  have HB0 := Lib.hid (Bk.start w 23 #[.int .i64 0, .bool false, .string ⟨#[]⟩, .int .i64 0])
  have hK0 : 0 < K := by
    rcases Nat.eq_zero_or_pos K with e | e
    · subst e; simp at hW; omega
    · exact e
  have hn : n ≤ 1000000000000 := by rw [← h.len]; exact Nat.le_trans (len10 hW) (by omega)
  have HT := Lib.hid (text_d A n c W _ (h.below b0) hn (hp.below b0))
  obtain ⟨t1, t2⟩ := dec_trim W
  have t2 := t2 h0
  have hl := dec_len_le hW hK0
  have HR := Lib.hid (right_calls (Lib.decDigits W) (cd W) t1 (by omega))
  have hF := formed_cd h0
  have hM := fun w1 => dmay_calls 0 g (cd W) (ce W E) w1 (by omega)
  have hce : ce W E = E + ((Lib.decDigits W).length : Int) - ((cd W).length : Int) := by unfold ce; rw [if_neg h0]; omega
  have hs := size_of (cd W)
  have ht := size_of (Lib.decDigits W)
  have hlen := hF.len
  rw [may_form hF] at hM
  unfold told
  rw [if_neg h0]
  have HB := Lib.hid b0
  by_cases hf : fits (cd W) (ce W E)
  · rw [if_pos hf]
    rw [decide_eq_true hf] at hM
    clear hp h b0 hf t1 hF hW
    unfold str at HT
    unfold oc oe
    unfold dec str at hM ⊢
    rw [hce] at hM ⊢
    rw [← hs, ← ht] at hM ⊢
    rw [← hs] at hlen t2
    rw [← ht] at hl t2
    have hst : (⟨(cd W).toArray⟩ : ByteArray).size ≤ (⟨(Lib.decDigits W).toArray⟩ : ByteArray).size := by omega
    clear t2
    dsimp only
    generalize (⟨(cd W).toArray⟩ : ByteArray) = S at *
    generalize (⟨(Lib.decDigits W).toArray⟩ : ByteArray) = T at *
    obtain ⟨e1, e2⟩ := emp hlen
    have HM := Lib.hid hM
    clear hM hce hs ht
    go_enter Tryz.func91, Tryz.ntmps91
    go_wp2_with (first
      | (go_at_call 64; (with_reducible refine HT.out.mono ?_); rintro e w1 ⟨rfl, b1⟩)
      | (go_at_call 97; (with_reducible refine (HR.out w1).mono ?_); rintro e w2 ⟨rfl, rfl⟩)
      | (go_at_call 54; (with_reducible refine (HM.out _).mono ?_); rintro e w3 ⟨rfl, b3⟩; have q := four ((Bk.start w1 23 #[.int .i64 0, .bool g, .string S, .int .i64 (E + (T.size : Int) - (S.size : Int))]).below b3); have Z := ((HB0.out.below b1).alloc (.cells #[.int .i64 0, .bool g, .string S, .int .i64 (E + (T.size : Int) - (S.size : Int))] 23)).below b3; have z := four Z; have f := frz Z))
    have bl := on (on (on HB.out b1) (alloc_below w1 (.cells #[.int .i64 0, .bool g, .string S, .int .i64 (E + (T.size : Int) - (S.size : Int))] 23))) b3
    exact bodyPost_ret (res_bk_t rfl _ (Z.set4 _ _ _ _ rfl) rfl Tryz.underlying23 rfl (by kernel_rfl)) rfl ⟨rfl, below_set4 bl (Nat.le_refl _) _ _ _ _⟩
  · rw [if_neg hf]
    rw [decide_eq_false hf] at hM
    clear hp h b0 hf t1 hF hW
    unfold str at HT
    unfold oc oe
    unfold dec str at hM ⊢
    rw [hce] at hM
    rw [← hs, ← ht] at hM
    rw [← hs] at hlen t2
    rw [← ht] at hl t2
    have hst : (⟨(cd W).toArray⟩ : ByteArray).size ≤ (⟨(Lib.decDigits W).toArray⟩ : ByteArray).size := by omega
    clear t2
    dsimp only
    generalize (⟨(cd W).toArray⟩ : ByteArray) = S at *
    generalize (⟨(Lib.decDigits W).toArray⟩ : ByteArray) = T at *
    obtain ⟨e1, e2⟩ := emp hlen
    have HM := Lib.hid hM
    clear hM hce hs ht
    go_enter Tryz.func91, Tryz.ntmps91
    go_wp2_with (first
      | (go_at_call 64; (with_reducible refine HT.out.mono ?_); rintro e w1 ⟨rfl, b1⟩)
      | (go_at_call 97; (with_reducible refine (HR.out w1).mono ?_); rintro e w2 ⟨rfl, rfl⟩)
      | (go_at_call 54; (with_reducible refine (HM.out _).mono ?_); rintro e w3 ⟨rfl, b3⟩; have Z := ((HB0.out.below b1).alloc (.cells #[.int .i64 0, .bool g, .string S, .int .i64 (E + (T.size : Int) - (S.size : Int))] 23)).below b3; have z := four Z; have f := frz Z))
    have bl := on (on (on HB.out b1) (alloc_below w1 (.cells #[.int .i64 0, .bool g, .string S, .int .i64 (E + (T.size : Int) - (S.size : Int))] 23))) b3
    exact bodyPost_ret (res_bk_t rfl _ (Z.set4 _ _ _ _ rfl) rfl Tryz.underlying23 rfl (by kernel_rfl)) rfl ⟨rfl, below_set4 bl (Nat.le_refl _) _ _ _ _⟩
theorem made_calls (g : Bool) (A : Option Addr) (n c W K : Nat) (E : Int) (w : World) (hp : Pow w) (h : SI w .u64 A n c (digs U W)) (hW : W < 10 ^ K) (hK : K ≤ 1000000) (hE : -1000000 ≤ E) (hE2 : E ≤ 1000000) :
    Calls Tryz.prog 91 #[.bool g, .slice A n c, .int .i64 E] w fun e w' => e = .returned (.tuple #[.agg (oc g (told g W E)), .int .i64 (oe (told g W E))]) ∧ Below w.heap.size w w' := by
  by_cases h0 : W = 0
  · subst h0
    rw [told_zero]
    exact made_zero g A n c E w hp h
  · exact made_pos g A n c W K E w hp h hW hK hE hE2 h0
end Go.Proofs.YtfddokfnplehkaaGreatDoor.Dc

/- Layer 6: a rest; is a unit more taken? -/
set_option linter.unusedSimpArgs false
set_option linter.unusedVariables false
namespace Go.Proofs.YtfddokfnplehkaaGreatDoor.Dc
open Go.RowKit Go.Proofs.YtfddokfnplehkaaGreatDoor.Dig Go.Proofs.YtfddokfnplehkaaGreatDoor.W Go.Proofs.YtfddokfnplehkaaGreatDoor.Nat Go.Proofs.YtfddokfnplehkaaGreatDoor.Wh Go.Proofs.YtfddokfnplehkaaGreatDoor.Td Go.Proofs.YtfddokfnplehkaaGreatDoor.Bu Go.Proofs.YtfddokfnplehkaaGreatDoor.Tx Go.Proofs.YtfddokfnplehkaaGreatDoor.Sp Go.Proofs.YtfddokfnplehkaaGreatDoor.Rd

theorem above_calls (neg odd : Bool) (half : Int) (w : World) : Calls Tryz.prog 137 #[.agg #[.bool neg, .bool odd, .int .i64 half]] w fun e w' => e = .returned (.bool (!neg)) ∧ Below w.heap.size w w' := by
  go_enter Tryz.func137, Tryz.ntmps137
  go_wp2
  go_ret
  exact ⟨rfl, alloc_below _ _⟩
theorem below_calls (neg odd : Bool) (half : Int) (w : World) : Calls Tryz.prog 138 #[.agg #[.bool neg, .bool odd, .int .i64 half]] w fun e w' => e = .returned (.bool neg) ∧ Below w.heap.size w w' := by
  go_enter Tryz.func138, Tryz.ntmps138
  go_wp2
  go_ret
  exact ⟨rfl, alloc_below _ _⟩
theorem never_calls (neg odd : Bool) (half : Int) (w : World) : Calls Tryz.prog 139 #[.agg #[.bool neg, .bool odd, .int .i64 half]] w fun e w' => e = .returned (.bool false) ∧ Below w.heap.size w w' := by
  go_enter Tryz.func139, Tryz.ntmps139
  go_wp2
  go_ret
  exact ⟨rfl, by first | exact alloc_below _ _ | exact Below.refl _ _⟩
theorem always_calls (neg odd : Bool) (half : Int) (w : World) : Calls Tryz.prog 140 #[.agg #[.bool neg, .bool odd, .int .i64 half]] w fun e w' => e = .returned (.bool true) ∧ Below w.heap.size w w' := by
  go_enter Tryz.func140, Tryz.ntmps140
  go_wp2
  go_ret
  exact ⟨rfl, by first | exact alloc_below _ _ | exact Below.refl _ _⟩
theorem heven_calls (neg odd : Bool) {half : Int} (h : half = -1 ∨ half = 0 ∨ half = 1) (w : World) : Calls Tryz.prog 141 #[.agg #[.bool neg, .bool odd, .int .i64 half]] w fun e w' => e = .returned (.bool (up 4 neg odd half)) ∧ Below w.heap.size w w' := by
  rcases h with rfl | rfl | rfl
  all_goals
    go_enter Tryz.func141, Tryz.ntmps141
    go_wp2
    go_ret
    exact ⟨rfl, alloc_below _ _⟩
theorem hodd_calls (neg odd : Bool) {half : Int} (h : half = -1 ∨ half = 0 ∨ half = 1) (w : World) : Calls Tryz.prog 144 #[.agg #[.bool neg, .bool odd, .int .i64 half]] w fun e w' => e = .returned (.bool (up 7 neg odd half)) ∧ Below w.heap.size w w' := by
  rcases h with rfl | rfl | rfl
  all_goals
    go_enter Tryz.func144, Tryz.ntmps144
    go_wp2
    go_ret
    exact ⟨rfl, alloc_below _ _⟩
theorem hnever_calls (neg odd : Bool) {half : Int} (h : half = -1 ∨ half = 0 ∨ half = 1) (w : World) : Calls Tryz.prog 142 #[.agg #[.bool neg, .bool odd, .int .i64 half]] w fun e w' => e = .returned (.bool (up 5 neg odd half)) ∧ Below w.heap.size w w' := by
  rcases h with rfl | rfl | rfl
  all_goals
    go_enter Tryz.func142, Tryz.ntmps142
    go_wp2
    go_ret
    exact ⟨rfl, alloc_below _ _⟩
theorem hup_calls (neg odd : Bool) {half : Int} (h : half = -1 ∨ half = 0 ∨ half = 1) (w : World) : Calls Tryz.prog 143 #[.agg #[.bool neg, .bool odd, .int .i64 half]] w fun e w' => e = .returned (.bool (up 6 neg odd half)) ∧ Below w.heap.size w w' := by
  rcases h with rfl | rfl | rfl
  all_goals
    go_enter Tryz.func143, Tryz.ntmps143
    go_wp2
    go_ret
    exact ⟨rfl, alloc_below _ _⟩
theorem idx8 (f0 f1 f2 f3 f4 f5 f6 f7 : Value) (w : World) {k : Nat} (hk : k < 8) :
    (Instr.index 169 (.agg #[f0, f1, f2, f3, f4, f5, f6, f7]) (.int .i64 (k : Nat))).run Tryz.prog w = .ok (#[f0, f1, f2, f3, f4, f5, f6, f7].getD k undef) w := by
  have hi := Tryz.underlying169
  obtain rfl | rfl | rfl | rfl | rfl | rfl | rfl | rfl : k = 0 ∨ k = 1 ∨ k = 2 ∨ k = 3 ∨ k = 4 ∨ k = 5 ∨ k = 6 ∨ k = 7 := by omega
  all_goals
    simp [Instr.index, run_underlying hi, asIntOf]
    go_simp
theorem idx_0 (f0 f1 f2 f3 f4 f5 f6 f7 : Value) (w : World) : (Instr.index 169 (.agg #[f0, f1, f2, f3, f4, f5, f6, f7]) (.int .i64 0)).run Tryz.prog w = .ok f0 w := idx8 f0 f1 f2 f3 f4 f5 f6 f7 w (k := 0) (by omega)
theorem idx_1 (f0 f1 f2 f3 f4 f5 f6 f7 : Value) (w : World) : (Instr.index 169 (.agg #[f0, f1, f2, f3, f4, f5, f6, f7]) (.int .i64 1)).run Tryz.prog w = .ok f1 w := idx8 f0 f1 f2 f3 f4 f5 f6 f7 w (k := 1) (by omega)
theorem idx_2 (f0 f1 f2 f3 f4 f5 f6 f7 : Value) (w : World) : (Instr.index 169 (.agg #[f0, f1, f2, f3, f4, f5, f6, f7]) (.int .i64 2)).run Tryz.prog w = .ok f2 w := idx8 f0 f1 f2 f3 f4 f5 f6 f7 w (k := 2) (by omega)
theorem idx_3 (f0 f1 f2 f3 f4 f5 f6 f7 : Value) (w : World) : (Instr.index 169 (.agg #[f0, f1, f2, f3, f4, f5, f6, f7]) (.int .i64 3)).run Tryz.prog w = .ok f3 w := idx8 f0 f1 f2 f3 f4 f5 f6 f7 w (k := 3) (by omega)
theorem idx_4 (f0 f1 f2 f3 f4 f5 f6 f7 : Value) (w : World) : (Instr.index 169 (.agg #[f0, f1, f2, f3, f4, f5, f6, f7]) (.int .i64 4)).run Tryz.prog w = .ok f4 w := idx8 f0 f1 f2 f3 f4 f5 f6 f7 w (k := 4) (by omega)
theorem idx_5 (f0 f1 f2 f3 f4 f5 f6 f7 : Value) (w : World) : (Instr.index 169 (.agg #[f0, f1, f2, f3, f4, f5, f6, f7]) (.int .i64 5)).run Tryz.prog w = .ok f5 w := idx8 f0 f1 f2 f3 f4 f5 f6 f7 w (k := 5) (by omega)
theorem idx_6 (f0 f1 f2 f3 f4 f5 f6 f7 : Value) (w : World) : (Instr.index 169 (.agg #[f0, f1, f2, f3, f4, f5, f6, f7]) (.int .i64 6)).run Tryz.prog w = .ok f6 w := idx8 f0 f1 f2 f3 f4 f5 f6 f7 w (k := 6) (by omega)
theorem idx_7 (f0 f1 f2 f3 f4 f5 f6 f7 : Value) (w : World) : (Instr.index 169 (.agg #[f0, f1, f2, f3, f4, f5, f6, f7]) (.int .i64 7)).run Tryz.prog w = .ok f7 w := idx8 f0 f1 f2 f3 f4 f5 f6 f7 w (k := 7) (by omega)
attribute [local go_sem ↓] idx_0 idx_1 idx_2 idx_3 idx_4 idx_5 idx_6 idx_7
set_option maxHeartbeats 4000000 in
set_option maxRecDepth 100000 in
theorem up_calls {mode : Nat} (hm : mode < 8) (neg odd : Bool) {half : Int} (h : half = -1 ∨ half = 0 ∨ half = 1) (w : World) :
    Calls Tryz.prog 90 #[.agg #[.bool neg, .bool odd, .int .i64 half], .int .i64 (mode : Nat)] w fun e w' => e = .returned (.bool (up mode neg odd half)) ∧ Below w.heap.size w w' := by
  have H := Lib.hid h
  have b0 := alloc_below w (.cells #[.bool neg, .bool odd, .int .i64 half] 124)
  clear h
  obtain rfl | rfl | rfl | rfl | rfl | rfl | rfl | rfl : mode = 0 ∨ mode = 1 ∨ mode = 2 ∨ mode = 3 ∨ mode = 4 ∨ mode = 5 ∨ mode = 6 ∨ mode = 7 := by omega
  all_goals
    go_enter Tryz.func90, Tryz.ntmps90
    go_wp2_with (first
      | (go_at_call 137; (with_reducible refine (above_calls neg odd half _).mono ?_); rintro e w1 ⟨rfl, b1⟩)
      | (go_at_call 138; (with_reducible refine (below_calls neg odd half _).mono ?_); rintro e w1 ⟨rfl, b1⟩)
      | (go_at_call 139; (with_reducible refine (never_calls neg odd half _).mono ?_); rintro e w1 ⟨rfl, b1⟩)
      | (go_at_call 140; (with_reducible refine (always_calls neg odd half _).mono ?_); rintro e w1 ⟨rfl, b1⟩)
      | (go_at_call 141; (with_reducible refine (heven_calls neg odd H.out _).mono ?_); rintro e w1 ⟨rfl, b1⟩)
      | (go_at_call 142; (with_reducible refine (hnever_calls neg odd H.out _).mono ?_); rintro e w1 ⟨rfl, b1⟩)
      | (go_at_call 143; (with_reducible refine (hup_calls neg odd H.out _).mono ?_); rintro e w1 ⟨rfl, b1⟩)
      | (go_at_call 144; (with_reducible refine (hodd_calls neg odd H.out _).mono ?_); rintro e w1 ⟨rfl, b1⟩))
    go_ret
    exact ⟨rfl, on b0 b1⟩
end Go.Proofs.YtfddokfnplehkaaGreatDoor.Dc

/- Layer 6: round.to. -/
set_option linter.unusedSimpArgs false
set_option linter.unusedVariables false
namespace Go.Proofs.YtfddokfnplehkaaGreatDoor.Dc
open Go.RowKit Go.Proofs.YtfddokfnplehkaaGreatDoor.Dig Go.Proofs.YtfddokfnplehkaaGreatDoor.W Go.Proofs.YtfddokfnplehkaaGreatDoor.Nat Go.Proofs.YtfddokfnplehkaaGreatDoor.Wh Go.Proofs.YtfddokfnplehkaaGreatDoor.Td Go.Proofs.YtfddokfnplehkaaGreatDoor.Bu Go.Proofs.YtfddokfnplehkaaGreatDoor.Tx Go.Proofs.YtfddokfnplehkaaGreatDoor.Sp Go.Proofs.YtfddokfnplehkaaGreatDoor.Rd

theorem ofInt_u64 (a : Nat) (ha : a < 18446744073709551616) : (BitVec.ofInt 64 (a : Int)).toNat = a := by
  rw [BitVec.ofInt_natCast, BitVec.toNat_ofNat]; exact Nat.mod_eq_of_lt (by omega)
theorem and_nat (a b : Nat) (ha : a < 18446744073709551616) (hb : b < 18446744073709551616) : Go.bits .and .u64 (a : Int) (b : Int) = ((a &&& b : Nat) : Int) := by
  have hx : a &&& b < 2 ^ 64 := Nat.and_lt_two_pow _ (by omega)
  show IntKind.u64.wrap ((BitVec.ofInt 64 (a : Int) &&& BitVec.ofInt 64 (b : Int)).toNat : Int) = _
  rw [BitVec.toNat_and, ofInt_u64 a ha, ofInt_u64 b hb, IntKind.wrap_u64]
  omega
theorem and_one (a : Nat) (ha : a < 18446744073709551616) : Go.bits .and .u64 (a : Int) 1 = ((a % 2 : Nat) : Int) := by
  have e := and_nat a 1 ha (by omega)
  rw [show ((1 : Nat) : Int) = 1 by rfl] at e
  rw [e, show (1 : Nat) = 2 ^ 1 - 1 by rfl, Nat.and_two_pow_sub_one_eq_mod]
/-- of at most K decimal digits -/
def Lo (x K : Nat) : Prop := x < 10 ^ K
theorem Lo.mul {x y a b : Nat} (h : Lo x a) (h' : Lo y b) : Lo (x * y) (a + b) := by
  unfold Lo at *
  rw [Nat.pow_add]
  exact Nat.mul_lt_mul'' h h'
theorem Lo.mono {x a b : Nat} (h : Lo x a) (hab : a ≤ b) : Lo x b := Nat.lt_of_lt_of_le h (Nat.pow_le_pow_right (by omega) hab)
theorem Lo.le {x y a : Nat} (h : Lo x a) (hy : y ≤ x) : Lo y a := Nat.lt_of_le_of_lt hy h
theorem Lo.succ {x a : Nat} (h : Lo x a) : Lo (x + 1) (a + 1) := by
  unfold Lo at *
  have : 0 < 10 ^ a := Nat.pow_pos (by omega)
  rw [Nat.pow_succ]; omega
theorem Lo.add {x y a : Nat} (h : Lo x a) (h' : Lo y a) : Lo (x + y) (a + 1) := by
  unfold Lo at *
  rw [Nat.pow_succ]; omega
theorem Lo.pow (k : Nat) : Lo (10 ^ k) (k + 1) := Nat.pow_lt_pow_right (by omega) (by omega)
theorem Lo.len {x K : Nat} (h : Lo x K) : (digs U x).length ≤ K := len10 h
theorem Lo.one : Lo 1 1 := by unfold Lo; omega
theorem divmod_d (A A' : Option Addr) (n c n' c' x y : Nat) (w : World) (h : SI w .u64 A n c (digs U x)) (h' : SI w .u64 A' n' c' (digs U y)) {K : Nat} (hx : Lo x K) (hy : Lo y K) (hK : K ≤ 100000) (h0 : y ≠ 0) :
    Calls Tryz.prog 88 #[.slice A n c, .slice A' n' c'] w (Nat.GivesQR w 24 .u64 (digs U (x / y)) (digs U (x % y))) := by
  have e := Nat.divmod_calls A A' n c n' c' (digs U x) (digs U y) w h h' (dl x) (dl y) (by rw [← h.len]; have := hx.len; omega) (by rw [← h'.len]; have := hy.len; omega) (by rw [val_digs U_two]; exact h0)
  rw [val_digs U_two, val_digs U_two] at e
  exact e
theorem mul_10 (A A' : Option Addr) (n c n' c' x y : Nat) (w : World) (h : SI w .u64 A n c (digs U x)) (h' : SI w .u64 A' n' c' (digs U y)) {K : Nat} (hx : Lo x K) (hy : Lo y K) (hK : K ≤ 100000) :
    Calls Tryz.prog 70 #[.slice A n c, .slice A' n' c'] w (GivesOwn w 24 .u64 (digs U (x * y))) :=
  mul_d A A' n c n' c' x y w h h' (by rw [← h.len]; have := hx.len; omega) (by rw [← h'.len]; have := hy.len; omega)
theorem add_10 (A A' : Option Addr) (n c n' c' x y : Nat) (w : World) (h : SI w .u64 A n c (digs U x)) (h' : SI w .u64 A' n' c' (digs U y)) {K : Nat} (hx : Lo x K) (hy : Lo y K) (hK : K ≤ 100000) :
    Calls Tryz.prog 86 #[.slice A n c, .slice A' n' c'] w (GivesOwn w 24 .u64 (digs U (x + y))) :=
  add_d A A' n c n' c' x y K w h h' (by omega) hx.len hy.len
theorem cmp_10 (A A' : Option Addr) (n c n' c' x y : Nat) (w : World) (h : SI w .u64 A n c (digs U x)) (h' : SI w .u64 A' n' c' (digs U y)) :
    Calls Tryz.prog 89 #[.slice A n c, .slice A' n' c'] w fun e w' => e = .returned (.int .i64 (stand x y)) ∧ Drawn w w' := by
  have e := Nat.cmp_calls A A' n c n' c' (digs U x) (digs U y) w h h' (dl x) (dl y)
  rw [val_digs U_two, val_digs U_two, stand_cmp] at e
  exact e
/-- a formed text, read as its number -/
theorem parse_formed {l : List UInt8} (h : Formed l) (hl : l.length ≤ 8192) (w : World) :
    Calls Tryz.prog 55 #[.string ⟨l.toArray⟩] w fun e w' => ∃ A n c, e = .returned (.tuple #[.slice A n c, .int .i64 0]) ∧ SI w' .u64 A n c (digs U (nv 0 l)) ∧ Below w.heap.size w w' := by
  have hs := size_of l
  obtain ⟨c, r, e, hc⟩ := h.head
  have h0 : 0 < (⟨l.toArray⟩ : ByteArray).size := by rw [hs]; exact h.len
  refine parse_ok1 ⟨l.toArray⟩ (by omega) h0 h.dig ?_ w
  rw [first_of h0 (show (⟨l.toArray⟩ : ByteArray).data.toList = c :: r from e)]
  intro k
  have : c.toNat = 48 := by omega
  exact ne_48 hc (UInt8.toNat_inj.mp this)
theorem nv_10 {l : List UInt8} (h : Formed l) : Lo (nv 0 l) l.length := nv_lt h.dig
/-- a Dec's box and the result's cell -/
structure TB (w W : World) (g : Bool) (S : ByteArray) (x : Int) : Prop where
  a : Bk W w.heap.size 23 #[.int .i64 0, .bool g, .string S, .int .i64 x]
  r : Bk W (w.heap.size + 1) 23 #[.int .i64 0, .bool false, .string ⟨#[]⟩, .int .i64 0]
  bl : Below w.heap.size w W
def TC (w : World) (G : Nat) (g : Bool) (S : ByteArray) (x : Int) : Prop :=
  (w.cell? ⟨G, 0, none⟩ = some (.int .i64 0) ∧ w.cell? ⟨G, 1, none⟩ = some (.bool g) ∧ w.cell? ⟨G, 2, none⟩ = some (.string S) ∧ w.cell? ⟨G, 3, none⟩ = some (.int .i64 x)) ∧
  (w.cell? ⟨G + 1, 0, none⟩ = some (.int .i64 0) ∧ w.cell? ⟨G + 1, 1, none⟩ = some (.bool false) ∧ w.cell? ⟨G + 1, 2, none⟩ = some (.string ⟨#[]⟩) ∧ w.cell? ⟨G + 1, 3, none⟩ = some (.int .i64 0)) ∧
  (w.frozen? ⟨G + 1, 0, none⟩ = false ∧ w.frozen? ⟨G + 1, 1, none⟩ = false ∧ w.frozen? ⟨G + 1, 2, none⟩ = false ∧ w.frozen? ⟨G + 1, 3, none⟩ = false)
section
variable {w W W' : World} {g : Bool} {S : ByteArray} {x : Int}
theorem TB.start (w : World) (g : Bool) (S : ByteArray) (x : Int) : TB w ((w.alloc (.cells #[.int .i64 0, .bool g, .string S, .int .i64 x] 23)).alloc (.cells #[.int .i64 0, .bool false, .string ⟨#[]⟩, .int .i64 0] 23)) g S x := by
  obtain ⟨h1, h2, h3⟩ := bk_two w #[.int .i64 0, .bool g, .string S, .int .i64 x] #[.int .i64 0, .bool false, .string ⟨#[]⟩, .int .i64 0] 23 23
  exact ⟨h1, h2, h3⟩
theorem TB.below (h : TB w W g S x) (hb : Below W.heap.size W W') : TB w W' g S x := ⟨h.a.below hb, h.r.below hb, on h.bl hb⟩
theorem TB.drew (h : TB w W g S x) : TB w W.drew g S x := ⟨h.a.drew, h.r.drew, h.bl.drew⟩
theorem TB.alloc (h : TB w W g S x) (o : Obj) : TB w (W.alloc o) g S x := h.below (alloc_below _ _)
theorem TB.cells (h : TB w W g S x) : TC W w.heap.size g S x := ⟨four h.a, four h.r, frz h.r⟩
theorem TB.neg (h : TB w W g S x) : W.cell? ⟨w.heap.size, 1, none⟩ = some (.bool g) := h.a.at_ 1 rfl
theorem TB.res (h : TB w W g S x) : W.cell? ⟨w.heap.size + 1, 0, none⟩ = some (.int .i64 0) ∧ W.cell? ⟨w.heap.size + 1, 1, none⟩ = some (.bool false) ∧ W.cell? ⟨w.heap.size + 1, 2, none⟩ = some (.string ⟨#[]⟩) ∧ W.cell? ⟨w.heap.size + 1, 3, none⟩ = some (.int .i64 0) ∧
    W.frozen? ⟨w.heap.size + 1, 0, none⟩ = false ∧ W.frozen? ⟨w.heap.size + 1, 1, none⟩ = false ∧ W.frozen? ⟨w.heap.size + 1, 2, none⟩ = false ∧ W.frozen? ⟨w.heap.size + 1, 3, none⟩ = false :=
  ⟨h.r.at_ 0 rfl, h.r.at_ 1 rfl, h.r.at_ 2 rfl, h.r.at_ 3 rfl, h.r.fr 0, h.r.fr 1, h.r.fr 2, h.r.fr 3⟩
theorem TB.far (h : TB w W g S x) (a b c d : Value) : ((((W.setCell ⟨w.heap.size + 1, 0, none⟩ a).setCell ⟨w.heap.size + 1, 1, none⟩ b).setCell ⟨w.heap.size + 1, 2, none⟩ c).setCell ⟨w.heap.size + 1, 3, none⟩ d).cell? ⟨w.heap.size, 1, none⟩ = some (.bool g) := by
  have hne : ∀ j, (⟨w.heap.size + 1, j, none⟩ : Addr) ≠ (⟨w.heap.size, 1, none⟩ : Addr) := fun j e => by have : w.heap.size + 1 = w.heap.size := congrArg Addr.block e; omega
  rw [World.cell?_setCell_other _ _ _ _ (hne _), World.cell?_setCell_other _ _ _ _ (hne _), World.cell?_setCell_other _ _ _ _ (hne _), World.cell?_setCell_other _ _ _ _ (hne _)]
  exact h.neg
theorem TB.ret (h : TB w W g S x) (a b c d : Value) : Bk ((((W.setCell ⟨w.heap.size + 1, 0, none⟩ a).setCell ⟨w.heap.size + 1, 1, none⟩ b).setCell ⟨w.heap.size + 1, 2, none⟩ c).setCell ⟨w.heap.size + 1, 3, none⟩ d) (w.heap.size + 1) 23 #[a, b, c, d] ∧
    Below w.heap.size w ((((W.setCell ⟨w.heap.size + 1, 0, none⟩ a).setCell ⟨w.heap.size + 1, 1, none⟩ b).setCell ⟨w.heap.size + 1, 2, none⟩ c).setCell ⟨w.heap.size + 1, 3, none⟩ d) :=
  ⟨h.r.set4 a b c d rfl, below_set4 h.bl (by omega) a b c d⟩
end
set_option maxHeartbeats 8000000 in
set_option maxRecDepth 100000 in
theorem to_even {mode : Nat} (g : Bool) (l : List UInt8) (x : Int) (A : Option Addr) (n c u k1 k2 : Nat) (y e0 : Int) (w : World) (hp : Pow w) (hF : Formed l) (hf : l.length ≤ 1000) (h : SI w .u64 A n c (digs U u)) (hu : 0 < u) {K : Nat} (hu2 : Lo u K) (hK : K ≤ 1000)
    (hx : -4090 ≤ x ∧ x ≤ 4090) (hy : -4090 ≤ y ∧ y ≤ 4090) (he : min x y = e0) (hk1 : x - e0 = k1) (hk2 : y - e0 = k2) (hR : nv 0 l * 10 ^ k1 % (u * 10 ^ k2) = 0) :
    Calls Tryz.prog 56 #[.agg (dec 0 g l x), .slice A n c, .int .i64 y, .int .i64 (mode : Nat)] w fun e w' =>
      e = .returned (.tuple #[.agg (oc g (told g (nv 0 l * 10 ^ k1 / (u * 10 ^ k2) * u) y)), .int .i64 (oe (told g (nv 0 l * 10 ^ k1 / (u * 10 ^ k2) * u) y))]) ∧ Below w.heap.size w w' := by
  have hD := (nv_10 hF).mono hf
  have hb1 : k1 ≤ 8192 := by omega
  have hb2 : k2 ≤ 8192 := by omega
  have q1 := (Lo.pow k1).mono (show k1 + 1 ≤ 8193 by omega)
  have q2 := (Lo.pow k2).mono (show k2 + 1 ≤ 8193 by omega)
  have a1 := hD.mul q1
  have a2 := hu2.mul q2
  have hU : u * 10 ^ k2 ≠ 0 := Nat.pos_iff_ne_zero.1 (Nat.mul_pos hu (Nat.pow_pos (by omega)))
  have HP1 := Lib.hid (fun w1 => Wh.pow10_calls k1 w1 hb1)
  have HP2 := Lib.hid (fun w1 => Wh.pow10_calls k2 w1 hb2)
  have HPa := Lib.hid (fun w1 => parse_formed hF (by omega) w1)
  unfold dec str
  generalize (⟨l.toArray⟩ : ByteArray) = S at *
  generalize nv 0 l = D at *
  have hQ : Lo (D * 10 ^ k1 / (u * 10 ^ k2)) _ := a1.le (Nat.div_le_self _ _)
  have hQu := hQ.mul hu2
  have T := TB.start w g S x
  have HT := Lib.hid T
  have HS := Lib.hid (h.below T.bl)
  have HW := Lib.hid (hp.below T.bl)
  have HM1 := Lib.hid (fun (A A' : Option Addr) (n c n' c' : Nat) (w1 : World) (h : SI w1 .u64 A n c (digs U D)) (h' : SI w1 .u64 A' n' c' (digs U (10 ^ k1))) => mul_10 A A' n c n' c' D (10 ^ k1) w1 h h' (hD.mono (by omega : _ ≤ 20000)) (q1.mono (by omega)) (by omega))
  have HM2 := Lib.hid (fun (A A' : Option Addr) (n c n' c' : Nat) (w1 : World) (h : SI w1 .u64 A n c (digs U u)) (h' : SI w1 .u64 A' n' c' (digs U (10 ^ k2))) => mul_10 A A' n c n' c' u (10 ^ k2) w1 h h' (hu2.mono (by omega : _ ≤ 20000)) (q2.mono (by omega)) (by omega))
  have HDM := Lib.hid (fun (A A' : Option Addr) (n c n' c' : Nat) (w1 : World) (h : SI w1 .u64 A n c (digs U (D * 10 ^ k1))) (h' : SI w1 .u64 A' n' c' (digs U (u * 10 ^ k2))) => divmod_d A A' n c n' c' _ _ w1 h h' (a1.mono (by omega : _ ≤ 20000)) (a2.mono (by omega)) (by omega) hU)
  rw [hR] at HDM
  generalize D * 10 ^ k1 / (u * 10 ^ k2) = Q at *
  have HM3 := Lib.hid (fun (A A' : Option Addr) (n c n' c' : Nat) (w1 : World) (h : SI w1 .u64 A n c (digs U Q)) (h' : SI w1 .u64 A' n' c' (digs U u)) => mul_10 A A' n c n' c' Q u w1 h h' (hQ.mono (by omega : _ ≤ 20000)) (hu2.mono (by omega)) (by omega))
  have HMA := Lib.hid (fun (A : Option Addr) (n c : Nat) (w1 : World) (hp : Pow w1) (h : SI w1 .u64 A n c (digs U (Q * u))) => made_calls g A n c (Q * u) _ y w1 hp h hQu (by omega) (by omega) (by omega))
  clear hR hU a1 a2 q1 q2 hD hQ hQu hu hu2 T h hp hF hf
  obtain ⟨g', L', x', e4⟩ := oc_four g (told g (Q * u) y)
  rw [e4] at HMA ⊢
  generalize oe (told g (Q * u) y) = er at *
  generalize digs U (Q * u) = dQu at *
  clear e4
  go_enter Tryz.func56, Tryz.ntmps56
  go_wp2_with (first
    | (go_at_call 55; (with_reducible refine (HPa.out _).mono ?_); rintro e w1 ⟨A1, n1, c1, rfl, r1, b1⟩; have x1 := HT.out.below b1; have y1 := x1.cells; unfold TC at y1)
    | (go_at_call 69; first
      | ((with_reducible refine (HP1.out w1).mono ?_); rintro e w2 ⟨A2, n2, c2, rfl, r2, b2⟩; have x2 := x1.below b2)
      | ((with_reducible refine (HP2.out w2).mono ?_); rintro e w3 ⟨A3, n3, c3, rfl, r3, b3⟩; have x3 := x2.below b3))
    | (go_at_call 70; first
      | ((with_reducible refine (HM1.out A1 A2 n1 c1 n2 c2 w3 ((r1.below b2).below b3) (r2.below b3)).mono ?_); rintro e w4 ⟨v4, rfl, o4, b4⟩; obtain ⟨A4, n4, c4, rfl, r4⟩ := o4.reads_n; have x4 := x3.below b4)
      | ((with_reducible refine (HM2.out A A3 n c n3 c3 w4 ((((HS.out.below b1).below b2).below b3).below b4) (r3.below b4)).mono ?_); rintro e w5 ⟨v5, rfl, o5, b5⟩; obtain ⟨A5, n5, c5, rfl, r5⟩ := o5.reads_n; have x5 := x4.below b5))
    | (go_at_call 88; (with_reducible refine (HDM.out A4 A5 n4 c4 n5 c5 w5 (r4.below b5) r5).mono ?_); rintro e w6 ⟨v6, v7, rfl, o6, o7, b6⟩; obtain ⟨A6, n6, c6, rfl, r6⟩ := o6.reads_n; obtain ⟨A7, n7, c7, rfl, r7⟩ := o7.reads_n; have h7 : n7 = 0 := (by rw [← r7.len, digs_zero]; rfl); have x6 := x5.below b6))
  have k6 := x6.drew.neg
  clear y1
  go_region_held3 (fun w' => w'.cell? ⟨w.heap.size, 1, none⟩ = some (.bool g))
    (first
      | (with_reducible exact k6)
      | (with_reducible exact k8)
      | (with_reducible exact k9)
      | (with_reducible exact f9))
    (first
      | (go_at_call 70; (with_reducible refine (HM3.out A6 A n6 c6 n c _ (r6.below (Below.refl _ _).drew) (((((((HS.out.below b1).below b2).below b3).below b4).below b5).below b6).below (Below.refl _ _).drew)).mono ?_); rintro e w8 ⟨v8, rfl, o8, b8⟩; obtain ⟨A8, n8, c8, rfl, r8⟩ := o8.reads_n; have x8 := x6.drew.below b8; have k8 := x8.neg)
      | (go_at_call 91; (with_reducible refine (HMA.out A8 n8 c8 w8 ((((((((HW.out.below b1).below b2).below b3).below b4).below b5).below b6).below (Below.refl _ _).drew).below b8) r8).mono ?_); rintro e w9 ⟨rfl, b9⟩; have x9 := x8.below b9; have k9 := x9.neg; have f9 := x9.far (.int .i64 0) (.bool g') (.string L') (.int .i64 x'); have q9 := x9.res))
  go_wp2
  obtain ⟨z1, z2⟩ := x9.ret (.int .i64 0) (.bool g') (.string L') (.int .i64 x')
  exact bodyPost_ret (res_bk_t rfl _ z1 rfl Tryz.underlying23 rfl (by kernel_rfl)) rfl ⟨rfl, z2⟩
end Go.Proofs.YtfddokfnplehkaaGreatDoor.Dc
