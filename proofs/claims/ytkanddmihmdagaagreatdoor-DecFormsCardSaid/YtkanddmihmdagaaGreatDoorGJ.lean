/- Texts of one layer, joined: Da, Db, De, Df, Dg, Dh. -/
import Derived.Test.YtkanddmihmdagaaGreatDoorGI
import Derived.Test.YtkanddmihmdagaaGreatDoorGD
import Derived.Test.YtkanddmihmdagaaGreatDoorGF
import Derived.Lib.TrimByte
import Derived.Laws.StructEq
import Derived.Test.YtkanddmihmdagaaGreatDoorGE
set_option linter.unusedVariables false
set_option linter.unusedSimpArgs false
set_option linter.unusedSectionVars false
/- Layer 5: words for a Dec. -/
set_option linter.unusedSimpArgs false
set_option linter.unusedVariables false
namespace Go.Proofs.YtkanddmihmdagaaGreatDoor.Dc
open Go.RowKit Go.Proofs.YtkanddmihmdagaaGreatDoor.Dig Go.Proofs.YtkanddmihmdagaaGreatDoor.W Go.Proofs.YtkanddmihmdagaaGreatDoor.Nat Go.Proofs.YtkanddmihmdagaaGreatDoor.Wh Go.Proofs.YtkanddmihmdagaaGreatDoor.Td Go.Proofs.YtkanddmihmdagaaGreatDoor.Bu Go.Proofs.YtkanddmihmdagaaGreatDoor.Tx Go.Proofs.YtkanddmihmdagaaGreatDoor.Sp Go.Proofs.YtkanddmihmdagaaGreatDoor.Rd

/-- a text -/
def str (l : List UInt8) : Value := .string ⟨l.toArray⟩
/-- a Dec -/
def dec (c : Int) (ng : Bool) (l : List UInt8) (x : Int) : Array Value := #[.int .i64 c, .bool ng, str l, .int .i64 x]
theorem on {w W W' : World} (h : Below w.heap.size w W) (b : Below W.heap.size W W') : Below w.heap.size w W' := h.trans (b.mono h.size)
theorem res_bk_t {P : Program} {w : World} {g : Nat} {t : TypeId} {cs : Array Value} {fn : Func} {p q : Tmp} {ty : TypeId} (h : fn.results = #[.cell p ty, .tmp q]) (tmps : Array Value) {d : TypeDesc} (hg : Bk w g t cs) (hp : tmps.getD p undef = .pointer (some ⟨g, 0, none⟩))
    (hu : P.underlying ty = some d) (hd : (match d with | .struct _ | .array _ _ => true | _ => false) = true) (hi : (P.info? ty).map (·.size) = some cs.size) :
    (results fn tmps).run P w = .ok (.tuple #[.agg cs, tmps.getD q undef]) w := by
  have hp' : tmps[p]?.getD undef = .pointer (some ⟨g, 0, none⟩) := by simpa using hp
  have e1 := run_loadVar_row (P := P) w g t ty cs (0, 0) _ hg hu hd hi
  simp [results, h, hp', asAddr, e1]
theorem bk_two (w : World) (cs ds : Array Value) (t u : TypeId) : Bk ((w.alloc (.cells cs t)).alloc (.cells ds u)) w.heap.size t cs ∧ Bk ((w.alloc (.cells cs t)).alloc (.cells ds u)) (w.heap.size + 1) u ds ∧ Below w.heap.size w ((w.alloc (.cells cs t)).alloc (.cells ds u)) := by
  have h2 := Bk.start (w.alloc (.cells cs t)) u ds
  rw [show (w.alloc (.cells cs t)).heap.size = w.heap.size + 1 by simp] at h2
  exact ⟨(Bk.start w t cs).alloc _, h2, on (alloc_below w _) (alloc_below _ _)⟩
theorem bk_three (w : World) (cs ds es : Array Value) (t u v : TypeId) : Bk (((w.alloc (.cells cs t)).alloc (.cells ds u)).alloc (.cells es v)) w.heap.size t cs ∧ Bk (((w.alloc (.cells cs t)).alloc (.cells ds u)).alloc (.cells es v)) (w.heap.size + 1) u ds ∧ Bk (((w.alloc (.cells cs t)).alloc (.cells ds u)).alloc (.cells es v)) (w.heap.size + 1 + 1) v es ∧ Below w.heap.size w (((w.alloc (.cells cs t)).alloc (.cells ds u)).alloc (.cells es v)) := by
  obtain ⟨h1, h2, h3⟩ := bk_two w cs ds t u
  have h4 := Bk.start ((w.alloc (.cells cs t)).alloc (.cells ds u)) v es
  rw [show ((w.alloc (.cells cs t)).alloc (.cells ds u)).heap.size = w.heap.size + 1 + 1 by simp] at h4
  exact ⟨h1.alloc _, h2.alloc _, h4, on h3 (alloc_below _ _)⟩
/-- a block's four cells, to be read -/
theorem four {w : World} {g : Nat} {t : TypeId} {a0 a1 a2 a3 : Value} (C : Bk w g t #[a0, a1, a2, a3]) :
    w.cell? ⟨g, 0, none⟩ = some a0 ∧ w.cell? ⟨g, 1, none⟩ = some a1 ∧ w.cell? ⟨g, 2, none⟩ = some a2 ∧ w.cell? ⟨g, 3, none⟩ = some a3 := ⟨C.at_ 0 rfl, C.at_ 1 rfl, C.at_ 2 rfl, C.at_ 3 rfl⟩
theorem frz {w : World} {g : Nat} {t : TypeId} {a0 a1 a2 a3 : Value} (C : Bk w g t #[a0, a1, a2, a3]) :
    w.frozen? ⟨g, 0, none⟩ = false ∧ w.frozen? ⟨g, 1, none⟩ = false ∧ w.frozen? ⟨g, 2, none⟩ = false ∧ w.frozen? ⟨g, 3, none⟩ = false := ⟨C.fr 0, C.fr 1, C.fr 2, C.fr 3⟩
theorem below_set4 {w W : World} {g : Nat} (h : Below w.heap.size w W) (hg : w.heap.size ≤ g) (a b c d : Value) : Below w.heap.size w ((((W.setCell ⟨g, 0, none⟩ a).setCell ⟨g, 1, none⟩ b).setCell ⟨g, 2, none⟩ c).setCell ⟨g, 3, none⟩ d) :=
  (((h.setCell hg _).setCell hg _).setCell hg _).setCell hg _
section
variable {P : Program} {d : Nat} {xs ys : Array Value} {f : Field} {fs : List Field} {a b : Value} {r s : Bool} {w : World}
theorem eqf_last (hn : (f.name == "_") = false) (ha : (part f.type xs f.offset).run P w = .ok a w) (hb : (part f.type ys f.offset).run P w = .ok b w) (he : (Op.equalIn d f.type a b).run P w = .ok r w) : (Op.eqFields d xs ys [f]).run P w = .ok r w := by
  have hn' : f.name ≠ "_" := by simpa using hn
  simp only [Op.eqFields, if_pos hn', Sem.run_bind, ha, hb, he, Result.andThen_ok]
  cases r <;> simp
theorem eqf_cons (hn : (f.name == "_") = false) (ha : (part f.type xs f.offset).run P w = .ok a w) (hb : (part f.type ys f.offset).run P w = .ok b w) (he : (Op.equalIn d f.type a b).run P w = .ok r w) (hr : (Op.eqFields d xs ys fs).run P w = .ok s w) : (Op.eqFields d xs ys (f :: fs)).run P w = .ok (r && s) w := by
  have hn' : f.name ≠ "_" := by simpa using hn
  rw [Op.eqFields]
  simp only [if_pos hn', Sem.run_bind, ha, hb, he, Result.andThen_ok]
  cases r
  · simp
  · simpa using hr
theorem eqA_of {t : TypeId} {fs : Array Field} (hu : P.underlying t = some (.struct fs)) (hp : P.stoodInHeld t = false) (h : (Op.eqFields d xs ys fs.toList).run P w = .ok r w) : (Op.equalIn (d + 1) t (.agg xs) (.agg ys)).run P w = .ok r w := by
  have hf : P.fieldsOf t = fs := by simp [Program.fieldsOf, hu]
  rw [run_equalIn_struct (P := P) w d t xs ys (by rw [hf]; exact hu) hp, hf]
  exact h
theorem eql_agg {t : TypeId} (h : (Op.equalIn 10000 t (.agg xs) (.agg ys)).run P w = .ok r w) : (binOp .eql t (.agg xs) (.agg ys)).run P w = .ok (.bool r) w := by
  simp only [binOp]
  simp [Op.equal, Op.maxDepth, h]
end
theorem eq_four (d : Nat) (w : World) (x0 y0 x3 y3 : Int) (x1 y1 : Bool) (x2 y2 : ByteArray) :
    (Op.equalIn (d + 2) 23 (.agg #[.int .i64 x0, .bool x1, .string x2, .int .i64 x3]) (.agg #[.int .i64 y0, .bool y1, .string y2, .int .i64 y3])).run Tryz.prog w = .ok (x0 == y0 && (x1 == y1 && (x2.toList == y2.toList && (x3 == y3)))) w := by
  refine eqA_of Tryz.underlying23 (by kernel_rfl) ?_
  refine eqf_cons (by rfl) (by go_simp; rfl) (by go_simp; rfl) (by go_simp) ?_
  refine eqf_cons (by rfl) (by go_simp; rfl) (by go_simp; rfl) (by go_simp) ?_
  refine eqf_cons (by rfl) (by go_simp; rfl) (by go_simp; rfl) (by go_simp) ?_
  exact eqf_last (by rfl) (by go_simp; rfl) (by go_simp; rfl) (by go_simp)
/-- a Dec is itself -/
theorem eq_dec (c x : Int) (g : Bool) (l : ByteArray) (w : World) : (binOp .eql 23 (.agg #[.int .i64 c, .bool g, .string l, .int .i64 x]) (.agg #[.int .i64 c, .bool g, .string l, .int .i64 x])).run Tryz.prog w = .ok (.bool true) w := by
  have e := eql_agg (eq_four 9998 w c c x x g g l l)
  rw [e]
  simp
theorem no_guard : Tryz.prog.eqGuardType Tryz.prog.depth 23 = false := by kernel_rfl
theorem right_calls (l t : List UInt8) (h : Lib.trimRightB l 48 = t) (hl : l.length ≤ 9223372036854775807) (w : World) : Calls Tryz.prog 64 #[.string ⟨l.toArray⟩, .string ⟨#[48]⟩] w fun e w' => e = .returned (.string ⟨t.toArray⟩) ∧ w = w' := by
  subst h
  exact (Tryz.strings_TrimRight_one ⟨l.toArray⟩ 48 (by decide) w (by show l.toArray.size ≤ _; rw [List.size_toArray]; exact hl)).mono fun _ _ ⟨a, b⟩ => ⟨a, b.symm⟩
/-- what comes of a number: a Dec and no error, or none and 'out of range' -/
def oc (g : Bool) : Option (List UInt8 × Int) → Array Value
  | some p => dec 0 g p.1 p.2
  | none => dec 0 false [] 0
def oe : Option (List UInt8 × Int) → Int
  | some _ => 0
  | none => 51
theorem oc_four (g : Bool) (o : Option (List UInt8 × Int)) : ∃ g' l x, oc g o = #[.int .i64 0, .bool g', .string l, .int .i64 x] := by
  cases o with
  | none => exact ⟨_, _, _, rfl⟩
  | some p => exact ⟨_, _, _, rfl⟩
end Go.Proofs.YtkanddmihmdagaaGreatDoor.Dc

/- Layer 5: dec.May. -/
set_option linter.unusedSimpArgs false
set_option linter.unusedVariables false
namespace Go.Proofs.YtkanddmihmdagaaGreatDoor.Dc
open Go.RowKit Go.Proofs.YtkanddmihmdagaaGreatDoor.Dig Go.Proofs.YtkanddmihmdagaaGreatDoor.W Go.Proofs.YtkanddmihmdagaaGreatDoor.Nat Go.Proofs.YtkanddmihmdagaaGreatDoor.Wh Go.Proofs.YtkanddmihmdagaaGreatDoor.Td Go.Proofs.YtkanddmihmdagaaGreatDoor.Bu Go.Proofs.YtkanddmihmdagaaGreatDoor.Tx Go.Proofs.YtkanddmihmdagaaGreatDoor.Sp Go.Proofs.YtkanddmihmdagaaGreatDoor.Rd

theorem size_list (S : ByteArray) : (S.size : Int) = (S.data.toList.length : Int) := by rw [Lib.size_eq]
theorem nil_of {S : ByteArray} (h : S.size = 0) : S.data.toList = [] := List.eq_nil_of_length_eq_zero (by rw [← Lib.size_eq]; exact h)
theorem ne_nil {S : ByteArray} (h : 0 < S.size) : S.data.toList ≠ [] := fun e => by rw [Lib.size_eq, e] at h; exact absurd h (by simp)
theorem byte0 {S : ByteArray} (h : 0 < S.size) : S.data.toList.head? = some S[0] := by
  show _ = some S.data[0]
  rw [← Array.getElem_toList, List.head?_eq_getElem?, List.getElem?_eq_getElem]
theorem byteL {S : ByteArray} {k : Nat} (h : 0 < S.size) (hk : k + 1 = S.size) : S.data.toList.getLast? = some (S[k]'(by omega)) := by
  show _ = some (S.data[k]'(by have := Lib.size_eq S; rw [Array.length_toList] at this; omega))
  have hl : S.data.toList.length = k + 1 := by rw [← Lib.size_eq]; omega
  rw [List.getLast?_eq_getElem?, show S.data.toList.length - 1 = k by omega, ← Array.getElem_toList, List.getElem?_eq_getElem]
theorem is48 (b : UInt8) : ((b.toNat : Int) == 48) = (some b == some (48 : UInt8)) := by
  rw [Bool.eq_iff_iff]
  simp only [beq_iff_eq, Option.some.injEq]
  constructor
  · intro h; exact UInt8.toNat_inj.mp (show b.toNat = (48 : UInt8).toNat by have : (48 : UInt8).toNat = 48 := rfl; omega)
  · rintro rfl; rfl
theorem may_none {c x : Int} {g : Bool} {l : List UInt8} (h : l = []) : mayB c g l x = (decide (x = 0) && (decide (c = 0) || decide (c = 1) || (decide (c = 2) && !g))) := by unfold mayB; rw [if_pos h]
theorem may_some {c x : Int} {g : Bool} {l : List UInt8} (h : l ≠ []) : mayB c g l x = (decide (c = 0) && decide (fits l x) && l.all digB && !(l.head? == some 48) && !(l.getLast? == some 48)) := by unfold mayB; rw [if_neg h]
theorem eqB {a b : Int} (h : a ≠ b) : (a == b) = false := beq_eq_false_iff_ne.2 h
set_option maxHeartbeats 4000000 in
set_option maxRecDepth 100000 in
theorem dmay_nil (c : Int) (g : Bool) (S : ByteArray) (x : Int) (w : World) (h0 : S.size = 0) :
    Calls Tryz.prog 14 #[.agg #[.int .i64 c, .bool g, .string S, .int .i64 x]] w fun e w' => e = .returned (.bool (mayB c g S.data.toList x)) ∧ Below w.heap.size w w' := by
  have HB := Lib.hid (alloc_below w (.cells #[.int .i64 c, .bool g, .string S, .int .i64 x] 23))
  rw [may_none (nil_of h0)]
  by_cases hx : x = 0
  · subst hx
    by_cases h1 : c = 0
    · subst h1
      go_enter Tryz.func14, Tryz.ntmps14
      go_wp2
      go_ret
      exact ⟨by simp, HB.out⟩
    · have e1 := eqB h1
      by_cases h2 : c = 1
      · subst h2
        go_enter Tryz.func14, Tryz.ntmps14
        go_wp2
        go_ret
        exact ⟨by simp, HB.out⟩
      · have e2 := eqB h2
        by_cases h3 : c = 2
        · subst h3
          go_enter Tryz.func14, Tryz.ntmps14
          go_wp2
          go_ret
          exact ⟨by simp, HB.out⟩
        · have e3 := eqB h3
          go_enter Tryz.func14, Tryz.ntmps14
          go_wp2
          go_ret
          exact ⟨by simp [h1, h2, h3], HB.out⟩
  · have e0 := eqB hx
    go_enter Tryz.func14, Tryz.ntmps14
    go_wp2
    go_ret
    exact ⟨by simp [hx], HB.out⟩
theorem digB_all {l : List UInt8} (h : ∀ b ∈ l, isDig b) : l.all digB = true := List.all_eq_true.2 fun b hb => (digB_iff b).2 (h b hb)
theorem digB_not {l : List UInt8} (h : ¬ ∀ b ∈ l, isDig b) : l.all digB = false := by
  rw [Bool.eq_false_iff]
  intro e
  exact h fun b hb => (digB_iff b).1 (List.all_eq_true.1 e b hb)
set_option maxHeartbeats 4000000 in
set_option maxRecDepth 100000 in
theorem dmay_some (c : Int) (g : Bool) (S : ByteArray) (x : Int) (w : World) (h0 : 0 < S.size) (hS : S.size ≤ 9223372036854775807) :
    Calls Tryz.prog 14 #[.agg #[.int .i64 c, .bool g, .string S, .int .i64 x]] w fun e w' => e = .returned (.bool (mayB c g S.data.toList x)) ∧ Below w.heap.size w w' := by
  have HB := Lib.hid (alloc_below w (.cells #[.int .i64 c, .bool g, .string S, .int .i64 x] 23))
  have HK := Lib.hid (Bk.start w 23 #[.int .i64 c, .bool g, .string S, .int .i64 x])
  rw [may_some (ne_nil h0)]
  have hn : ¬ ((S.size : Int) = 0) := by omega
  have hnB := eqB hn
  by_cases hc : c = 0
  · subst hc
    by_cases hf : fits S.data.toList x
    · obtain ⟨f1, f2, f3⟩ := hf
      have hf' : fits S.data.toList x := ⟨f1, f2, f3⟩
      rw [← Lib.size_eq] at f1 f2 f3
      have d1 : decide ((1000 : Int) < (S.size : Int)) = false := decide_eq_false (by omega)
      have d2 : decide (x < -2000 - (S.size : Int)) = false := decide_eq_false (by omega)
      have d3 : decide (2000 - (S.size : Int) < x) = false := decide_eq_false (by omega)
      have hT := trimset_calls S hS (w.alloc (.cells #[.int .i64 0, .bool g, .string S, .int .i64 x] 23))
      by_cases hall : ∀ b ∈ S.data.toList, isDig b
      · rw [trim_all hall] at hT
        rw [digB_all hall, decide_eq_true hf', byte0 h0, byteL (k := S.size - 1) h0 (by omega), ← is48, ← is48]
        have HT := Lib.hid hT
        clear hT hf' hall
        generalize hb0 : (S[0].toNat : Int) = y0
        generalize hb1 : ((S[S.size - 1]'(by omega)).toNat : Int) = y1
        cases z0 : (y0 == 48)
        · have z0' : ¬ y0 = 48 := beq_eq_false_iff_ne.1 z0
          go_enter Tryz.func14, Tryz.ntmps14
          go_wp2_with (go_at_call 32; (with_reducible refine HT.out.mono ?_); rintro e w1 ⟨rfl, b1⟩; have q := four (HK.out.below b1))
          go_ret
          exact ⟨by simp [bne, z0], on HB.out b1⟩
        · obtain rfl : y0 = 48 := beq_iff_eq.1 z0
          go_enter Tryz.func14, Tryz.ntmps14
          go_wp2_with (go_at_call 32; (with_reducible refine HT.out.mono ?_); rintro e w1 ⟨rfl, b1⟩; have q := four (HK.out.below b1))
          go_ret
          exact ⟨by simp [bne, z0], on HB.out b1⟩
      · have he := trim_some hall
        rw [digB_not hall]
        generalize Lib.trimS S.data.toList digset = D at *
        have HT := Lib.hid hT
        clear hT hall hf'
        go_enter Tryz.func14, Tryz.ntmps14
        go_wp2_with (go_at_call 32; (with_reducible refine HT.out.mono ?_); rintro e w1 ⟨rfl, b1⟩; have q := four (HK.out.below b1))
        go_ret
        exact ⟨by simp, on HB.out b1⟩
    · rw [decide_eq_false hf]
      unfold fits at hf
      rw [← Lib.size_eq] at hf
      by_cases k1 : (1000 : Int) < (S.size : Int)
      · have d1 := decide_eq_true k1
        go_enter Tryz.func14, Tryz.ntmps14
        go_wp2
        go_ret
        exact ⟨by simp, HB.out⟩
      · have d1 := decide_eq_false k1
        by_cases k2 : x < -2000 - (S.size : Int)
        · have d2 := decide_eq_true k2
          go_enter Tryz.func14, Tryz.ntmps14
          go_wp2
          go_ret
          exact ⟨by simp, HB.out⟩
        · have d2 := decide_eq_false k2
          have k3 : 2000 - (S.size : Int) < x := by omega
          have d3 := decide_eq_true k3
          clear hf
          go_enter Tryz.func14, Tryz.ntmps14
          go_wp2
          go_ret
          exact ⟨by simp, HB.out⟩
  · have e1 := eqB hc
    go_enter Tryz.func14, Tryz.ntmps14
    go_wp2
    go_ret
    exact ⟨by simp [hc], HB.out⟩
/-- dec.May answers as the plain word does -/
theorem dmay_calls (c : Int) (g : Bool) (l : List UInt8) (x : Int) (w : World) (hl : l.length ≤ 9223372036854775807) :
    Calls Tryz.prog 14 #[.agg (dec c g l x)] w fun e w' => e = .returned (.bool (mayB c g l x)) ∧ Below w.heap.size w w' := by
  have hs : (⟨l.toArray⟩ : ByteArray).size = l.length := by rw [Lib.size_eq]
  rcases Nat.eq_zero_or_pos l.length with h | h
  · exact dmay_nil c g ⟨l.toArray⟩ x w (by omega)
  · exact dmay_some c g ⟨l.toArray⟩ x w (by omega) (by omega)
end Go.Proofs.YtkanddmihmdagaaGreatDoor.Dc

/- The document's answer of layer 4: May. -/
set_option linter.unusedSimpArgs false
set_option linter.unusedVariables false
namespace Go.Proofs.YtkanddmihmdagaaGreatDoor.Dc
open Go.RowKit Go.Proofs.YtkanddmihmdagaaGreatDoor.Dig Go.Proofs.YtkanddmihmdagaaGreatDoor.W Go.Proofs.YtkanddmihmdagaaGreatDoor.Nat Go.Proofs.YtkanddmihmdagaaGreatDoor.Wh Go.Proofs.YtkanddmihmdagaaGreatDoor.Td Go.Proofs.YtkanddmihmdagaaGreatDoor.Bu Go.Proofs.YtkanddmihmdagaaGreatDoor.Tx Go.Proofs.YtkanddmihmdagaaGreatDoor.Sp Go.Proofs.YtkanddmihmdagaaGreatDoor.Rd

set_option maxHeartbeats 4000000 in
set_option maxRecDepth 100000 in
theorem rmay_odd (c : Int) (g : Bool) (S : ByteArray) (x : Int) (w : World) (hc : c ≠ 0) :
    Calls Tryz.prog 15 #[.agg #[.int .i64 c, .bool g, .string S, .int .i64 x]] w fun e w' => e = .returned (.bool (mayB c g S.data.toList x)) ∧ Below w.heap.size w w' := by
  have HB := Lib.hid (alloc_below w (.cells #[.int .i64 c, .bool g, .string S, .int .i64 x] 23))
  have e1 := eqB hc
  obtain ⟨b, hb, hb2⟩ : ∃ b : Bool, ((c == 1) || ((c == 2) && !g)) = b ∧ mayB c g S.data.toList x = (b && ((S.size : Int) == 0) && (x == 0)) := by
    refine ⟨_, rfl, ?_⟩
    by_cases h0 : S.size = 0
    · rw [may_none (nil_of h0), h0]
      simp [hc, Bool.and_comm]
      rw [Bool.eq_iff_iff]; simp
    · rw [may_some (ne_nil (by omega)), eqB (show ((S.size : Int) ≠ 0) by omega)]
      simp [hc]
  rw [hb2]
  clear hb2
  by_cases h1 : c = 1
  · subst h1
    obtain rfl : b = true := by rw [← hb]; rfl
    cases k0 : ((S.size : Int) == 0)
    · have k0' := beq_eq_false_iff_ne.1 k0
      go_enter Tryz.func15, Tryz.ntmps15
      go_wp2
      go_ret
      exact ⟨by simp, HB.out⟩
    · have k0' := beq_iff_eq.1 k0
      go_enter Tryz.func15, Tryz.ntmps15
      go_wp2
      go_ret
      exact ⟨by simp, HB.out⟩
  · have e2 := eqB h1
    by_cases h2 : c = 2
    · subst h2
      cases g
      · obtain rfl : b = true := by rw [← hb]; rfl
        cases k0 : ((S.size : Int) == 0)
        · have k0' := beq_eq_false_iff_ne.1 k0
          go_enter Tryz.func15, Tryz.ntmps15
          go_wp2
          go_ret
          exact ⟨by simp, HB.out⟩
        · have k0' := beq_iff_eq.1 k0
          go_enter Tryz.func15, Tryz.ntmps15
          go_wp2
          go_ret
          exact ⟨by simp, HB.out⟩
      · obtain rfl : b = false := by rw [← hb]; rfl
        go_enter Tryz.func15, Tryz.ntmps15
        go_wp2
        go_ret
        exact ⟨by simp, HB.out⟩
    · have e3 := eqB h2
      obtain rfl : b = false := by rw [← hb, e2, e3]; rfl
      go_enter Tryz.func15, Tryz.ntmps15
      go_wp2
      go_ret
      exact ⟨by simp, HB.out⟩
set_option maxHeartbeats 4000000 in
set_option maxRecDepth 100000 in
theorem rmay_nil (g : Bool) (S : ByteArray) (x : Int) (w : World) (h0 : S.size = 0) :
    Calls Tryz.prog 15 #[.agg #[.int .i64 0, .bool g, .string S, .int .i64 x]] w fun e w' => e = .returned (.bool (mayB 0 g S.data.toList x)) ∧ Below w.heap.size w w' := by
  have HB := Lib.hid (alloc_below w (.cells #[.int .i64 0, .bool g, .string S, .int .i64 x] 23))
  rw [may_none (nil_of h0)]
  go_enter Tryz.func15, Tryz.ntmps15
  go_wp2
  go_ret
  exact ⟨by simp; rw [Bool.eq_iff_iff]; simp, HB.out⟩
set_option maxHeartbeats 4000000 in
set_option maxRecDepth 100000 in
theorem rmay_out (g : Bool) (S : ByteArray) (x : Int) (w : World) (h0 : 0 < S.size) (hf : ¬ fits S.data.toList x) :
    Calls Tryz.prog 15 #[.agg #[.int .i64 0, .bool g, .string S, .int .i64 x]] w fun e w' => e = .returned (.bool (mayB 0 g S.data.toList x)) ∧ Below w.heap.size w w' := by
  have HB := Lib.hid (alloc_below w (.cells #[.int .i64 0, .bool g, .string S, .int .i64 x] 23))
  rw [may_some (ne_nil h0), decide_eq_false hf]
  have hn : ¬ ((S.size : Int) = 0) := by omega
  have hnB := eqB hn
  unfold fits at hf
  rw [← Lib.size_eq] at hf
  by_cases k1 : (1000 : Int) < (S.size : Int)
  · have d1 := decide_eq_true k1
    clear hf
    go_enter Tryz.func15, Tryz.ntmps15
    go_wp2
    go_ret
    exact ⟨by simp, HB.out⟩
  · have d1 := decide_eq_false k1
    by_cases k2 : x < -4000
    · have d2 := decide_eq_true k2
      clear hf
      go_enter Tryz.func15, Tryz.ntmps15
      go_wp2
      go_ret
      exact ⟨by simp, HB.out⟩
    · have d2 := decide_eq_false k2
      by_cases k3 : 4000 < x
      · have d3 := decide_eq_true k3
        clear hf
        go_enter Tryz.func15, Tryz.ntmps15
        go_wp2
        go_ret
        exact ⟨by simp, HB.out⟩
      · have d3 := decide_eq_false k3
        by_cases k4 : (S.size : Int) + x < -2000
        · have d4 := decide_eq_true k4
          clear hf
          go_enter Tryz.func15, Tryz.ntmps15
          go_wp2
          go_ret
          exact ⟨by simp, HB.out⟩
        · have d4 := decide_eq_false k4
          have k5 : 2000 < (S.size : Int) + x := by omega
          have d5 := decide_eq_true k5
          clear hf
          go_enter Tryz.func15, Tryz.ntmps15
          go_wp2
          go_ret
          exact ⟨by simp, HB.out⟩
theorem byte_at' {S : ByteArray} {i : Nat} (h : i < S.size) : ∃ c, S.data.toList[i]? = some c ∧ S[i] = c := by
  have h2 : i < S.data.toList.length := by rw [← Lib.size_eq]; exact h
  refine ⟨S.data.toList[i], List.getElem?_eq_getElem h2, ?_⟩
  show S.data[i] = _
  rw [Array.getElem_toList]
set_option maxHeartbeats 4000000 in
set_option maxRecDepth 100000 in
theorem rmay_in (g : Bool) (S : ByteArray) (x : Int) (w : World) (h0 : 0 < S.size) (hf : fits S.data.toList x) :
    Calls Tryz.prog 15 #[.agg #[.int .i64 0, .bool g, .string S, .int .i64 x]] w fun e w' => e = .returned (.bool (mayB 0 g S.data.toList x)) ∧ Below w.heap.size w w' := by
  have HB := Lib.hid (alloc_below w (.cells #[.int .i64 0, .bool g, .string S, .int .i64 x] 23))
  have hmb : mayB 0 g S.data.toList x = (S.data.toList.all digB && !(S.data.toList.head? == some 48) && !(S.data.toList.getLast? == some 48)) := by rw [may_some (ne_nil h0), decide_eq_true hf]; rfl
  have HMB := Lib.hid hmb
  clear hmb
  have hn : ¬ ((S.size : Int) = 0) := by omega
  have hnB := eqB hn
  obtain ⟨f1, f2, f3⟩ := hf
  rw [← Lib.size_eq] at f1 f2 f3
  have d1 : decide ((1000 : Int) < (S.size : Int)) = false := decide_eq_false (by omega)
  have d2 : decide (x < -4000) = false := decide_eq_false (by omega)
  have d3 : decide (4000 < x) = false := decide_eq_false (by omega)
  have d4 : decide ((S.size : Int) + x < -2000) = false := decide_eq_false (by omega)
  have d5 : decide (2000 < (S.size : Int) + x) = false := decide_eq_false (by omega)
  go_enter Tryz.func15, Tryz.ntmps15
  go_wp2
  go_loop [4] (fun z => ∃ i : Nat, z = .int .i64 (i : Nat) ∧ i ≤ S.size ∧ Hid (∀ b ∈ S.data.toList.take i, isDig b)) (fun z => S.size - (intOf z).toNat)
  case atStart => exact ⟨0, rfl, Nat.zero_le _, fun b hb => by simp at hb⟩
  case round =>
    obtain ⟨i, rfl, hi, HA⟩ := hrel
    by_cases hin : i < S.size
    · obtain ⟨ch, hch, hSi⟩ := byte_at' hin
      obtain ⟨b, hb⟩ : ∃ b, (S[i].toNat : Int) = ((b : Nat) : Int) := ⟨_, rfl⟩
      have hbc : ch.toNat = b := by rw [hSi] at hb; omega
      by_cases hdg : 48 ≤ b ∧ b ≤ 57
      · have c1 : decide ((b : Int) < 48) = false := decide_eq_false (by omega)
        have c2 : decide ((57 : Int) < (b : Int)) = false := decide_eq_false (by omega)
        have hnew : Hid (∀ b ∈ S.data.toList.take (i + 1), isDig b) := by
          intro x hx
          rw [List.take_add_one, hch, List.mem_append] at hx
          rcases hx with hx | hx
          · exact HA.out x hx
          · have : x = ch := by simpa using hx
            subst this
            unfold isDig
            omega
        clear hch hSi hbc
        go_wp2
        go_round
        case rel => exact ⟨i + 1, rfl, by omega, hnew⟩
        case measure => simp [intOf]; omega
      · have hnn : ¬ ∀ b ∈ S.data.toList, isDig b := fun h => hdg (by
          have := h ch (List.mem_of_getElem? hch)
          unfold isDig at this
          omega)
        have HD : Hid (mayB 0 g S.data.toList x = false) := by show _ = _; rw [HMB.out, digB_not hnn]; rfl
        clear hch hSi hbc hnn
        rcases Nat.lt_or_ge b 48 with hlt | hge
        · have c1 : decide ((b : Int) < 48) = true := decide_eq_true (by omega)
          go_wp2
          go_ret
          exact ⟨by rw [HD.out]; rfl, HB.out⟩
        · have c1 : decide ((b : Int) < 48) = false := decide_eq_false (by omega)
          have c2 : decide ((57 : Int) < (b : Int)) = true := decide_eq_true (by omega)
          go_wp2
          go_ret
          exact ⟨by rw [HD.out]; rfl, HB.out⟩
    · obtain rfl : i = S.size := by omega
      have hall := HA.out
      rw [List.take_of_length_le (by rw [← Lib.size_eq]; exact Nat.le_refl _)] at hall
      have HD : Hid (mayB 0 g S.data.toList x = (!((S[0].toNat : Int) == 48) && !(((S[S.size - 1]'(by omega)).toNat : Int) == 48))) := by
        show _ = _
        rw [HMB.out, digB_all hall, byte0 h0, byteL (k := S.size - 1) h0 (by omega), ← is48, ← is48]; rfl
      clear hall HA
      generalize hb0 : (S[0].toNat : Int) = y0 at HD
      generalize hb1 : ((S[S.size - 1]'(by omega)).toNat : Int) = y1 at HD
      cases z0 : (y0 == 48)
      · have z0' : ¬ y0 = 48 := beq_eq_false_iff_ne.1 z0
        go_wp2
        go_ret
        exact ⟨by rw [HD.out]; simp [bne, z0], HB.out⟩
      · obtain rfl : y0 = 48 := beq_iff_eq.1 z0
        go_wp2
        go_ret
        exact ⟨by rw [HD.out]; simp [bne, z0], HB.out⟩
theorem rmay_calls (c : Int) (g : Bool) (l : List UInt8) (x : Int) (w : World) :
    Calls Tryz.prog 15 #[.agg (dec c g l x)] w fun e w' => e = .returned (.bool (mayB c g l x)) ∧ Below w.heap.size w w' := by
  have hs : (⟨l.toArray⟩ : ByteArray).size = l.length := by rw [Lib.size_eq]
  by_cases hc : c = 0
  · subst hc
    rcases Nat.eq_zero_or_pos l.length with h | h
    · exact rmay_nil g ⟨l.toArray⟩ x w (by omega)
    · by_cases hf : fits l x
      · exact rmay_in g ⟨l.toArray⟩ x w (by omega) hf
      · exact rmay_out g ⟨l.toArray⟩ x w (by omega) hf
  · exact rmay_odd c g ⟨l.toArray⟩ x w hc
end Go.Proofs.YtkanddmihmdagaaGreatDoor.Dc

/- Layer 6: dec.Place; round.made. -/
set_option linter.unusedSimpArgs false
set_option linter.unusedVariables false
namespace Go.Proofs.YtkanddmihmdagaaGreatDoor.Dc
open Go.RowKit Go.Proofs.YtkanddmihmdagaaGreatDoor.Dig Go.Proofs.YtkanddmihmdagaaGreatDoor.W Go.Proofs.YtkanddmihmdagaaGreatDoor.Nat Go.Proofs.YtkanddmihmdagaaGreatDoor.Wh Go.Proofs.YtkanddmihmdagaaGreatDoor.Td Go.Proofs.YtkanddmihmdagaaGreatDoor.Bu Go.Proofs.YtkanddmihmdagaaGreatDoor.Tx Go.Proofs.YtkanddmihmdagaaGreatDoor.Sp Go.Proofs.YtkanddmihmdagaaGreatDoor.Rd

theorem emp {S : ByteArray} (h : 0 < S.size) : S.toList.isEmpty = false ∧ (S.toList == []) = false := by
  have h1 := not_empty_of h
  refine ⟨h1, ?_⟩
  cases e : S.toList with
  | nil => rw [e] at h1; cases h1
  | cons _ _ => rfl
theorem may_form {g : Bool} {l : List UInt8} {x : Int} (h : Formed l) : mayB 0 g l x = decide (fits l x) := by
  rw [Bool.eq_iff_iff, mayB_iff]
  have := h.ne
  simp only [decide_eq_true_eq]
  constructor
  · rintro (⟨h1, _⟩ | ⟨_, _, h3⟩)
    · exact absurd h1 this
    · exact h3
  · intro h3; exact .inr ⟨rfl, h, h3⟩
theorem size_of (l : List UInt8) : (⟨l.toArray⟩ : ByteArray).size = l.length := by rw [Lib.size_eq]
set_option maxHeartbeats 4000000 in
set_option maxRecDepth 100000 in
theorem place_calls (g : Bool) (l : List UInt8) (x : Int) (w : World) (h : Formed l) (hf : fits l x) :
    Calls Tryz.prog 16 #[.agg (dec 0 g l x)] w fun e w' => e = .returned (.int .i64 ((l.length : Int) + x)) ∧ Below w.heap.size w w' := by
  obtain ⟨f1, f2, f3⟩ := hf
  have hM := dmay_calls 0 g l x (w.alloc (.cells (dec 0 g l x) 23)) (by omega)
  rw [may_form h, decide_eq_true (show fits l x from ⟨f1, f2, f3⟩)] at hM
  have hs := size_of l
  have hl := h.len
  unfold dec str at hM ⊢
  generalize (⟨l.toArray⟩ : ByteArray) = S at *
  obtain ⟨e1, e2⟩ := emp (S := S) (by omega)
  have HB := Lib.hid (alloc_below w (.cells #[.int .i64 0, .bool g, .string S, .int .i64 x] 23))
  have HK := Lib.hid (Bk.start w 23 #[.int .i64 0, .bool g, .string S, .int .i64 x])
  have HM := Lib.hid hM
  rw [← hs] at f1 f2 f3 ⊢
  clear hM hs hl h
  go_enter Tryz.func16, Tryz.ntmps16
  go_wp2_with (go_at_call 14; (with_reducible refine HM.out.mono ?_); rintro e w1 ⟨rfl, b1⟩; have q := four (HK.out.below b1))
  go_ret
  exact ⟨rfl, on HB.out b1⟩
theorem dec_trim (W : Nat) : Lib.trimRightB (Lib.decDigits W) 48 = cd W ∧ (W ≠ 0 → (Lib.decDigits W).length = (cd W).length + tz W) := by
  by_cases h : W = 0
  · subst h
    exact ⟨by rw [dec_small (by omega)]; decide, fun h => absurd rfl h⟩
  · obtain ⟨b, e, hb⟩ := tz_spec W h
    refine ⟨?_, fun _ => by rw [dec_split h, List.length_append, List.length_replicate]⟩
    have h1 := trim_dec (k := tz W) hb
    have h2 := cd_of (k := tz W) hb
    rw [← e] at h1 h2
    rw [h1, h2]
theorem text_d (A : Option Addr) (n c m : Nat) (w : World) (h : SI w .u64 A n c (digs U m)) (hn : n ≤ 1000000000000) (hp : Pow w) :
    Calls Tryz.prog 48 #[.slice A n c] w fun e w' => e = .returned (str (Lib.decDigits m)) ∧ Below w.heap.size w w' := by
  have e := text_calls A n c (digs U m) w h (dl m) hn hp
  rw [val_digs U_two] at e
  exact e
theorem cd_len' {W K : Nat} (h : W < 10 ^ K) (hK : 0 < K) : (cd W).length ≤ K ∧ (W ≠ 0 → (cd W).length + tz W ≤ K) := by
  by_cases h0 : W = 0
  · subst h0
    rw [cd_zero]
    exact ⟨Nat.zero_le _, fun h => absurd rfl h⟩
  · have h1 := (dec_trim W).2 h0
    have h2 := dec_len_le h hK
    exact ⟨by omega, fun _ => by omega⟩
def zD : Array Value := #[.int .i64 0, .bool false, .string ⟨#[]⟩, .int .i64 0]
theorem told_zero (g : Bool) (E : Int) : told g 0 E = some ([], 0) := by unfold told; rw [if_pos rfl]
theorem may_zero (g : Bool) : mayB 0 g [] 0 = true := by cases g <;> rfl
end Go.Proofs.YtkanddmihmdagaaGreatDoor.Dc

/- Layer 6: a rest; is a unit more taken? -/
set_option linter.unusedSimpArgs false
set_option linter.unusedVariables false
namespace Go.Proofs.YtkanddmihmdagaaGreatDoor.Dc
open Go.RowKit Go.Proofs.YtkanddmihmdagaaGreatDoor.Dig Go.Proofs.YtkanddmihmdagaaGreatDoor.W Go.Proofs.YtkanddmihmdagaaGreatDoor.Nat Go.Proofs.YtkanddmihmdagaaGreatDoor.Wh Go.Proofs.YtkanddmihmdagaaGreatDoor.Td Go.Proofs.YtkanddmihmdagaaGreatDoor.Bu Go.Proofs.YtkanddmihmdagaaGreatDoor.Tx Go.Proofs.YtkanddmihmdagaaGreatDoor.Sp Go.Proofs.YtkanddmihmdagaaGreatDoor.Rd

end Go.Proofs.YtkanddmihmdagaaGreatDoor.Dc

/- Layer 6: round.to. -/
set_option linter.unusedSimpArgs false
set_option linter.unusedVariables false
namespace Go.Proofs.YtkanddmihmdagaaGreatDoor.Dc
open Go.RowKit Go.Proofs.YtkanddmihmdagaaGreatDoor.Dig Go.Proofs.YtkanddmihmdagaaGreatDoor.W Go.Proofs.YtkanddmihmdagaaGreatDoor.Nat Go.Proofs.YtkanddmihmdagaaGreatDoor.Wh Go.Proofs.YtkanddmihmdagaaGreatDoor.Td Go.Proofs.YtkanddmihmdagaaGreatDoor.Bu Go.Proofs.YtkanddmihmdagaaGreatDoor.Tx Go.Proofs.YtkanddmihmdagaaGreatDoor.Sp Go.Proofs.YtkanddmihmdagaaGreatDoor.Rd

theorem ofInt_u64 (a : Nat) (ha : a < 18446744073709551616) : (BitVec.ofInt 64 (a : Int)).toNat = a := by
  rw [BitVec.ofInt_natCast, BitVec.toNat_ofNat]; exact Nat.mod_eq_of_lt (by omega)
theorem and_nat (a b : Nat) (ha : a < 18446744073709551616) (hb : b < 18446744073709551616) : Go.bits .and .u64 (a : Int) (b : Int) = ((a &&& b : Nat) : Int) := by
  have hx : a &&& b < 2 ^ 64 := Nat.and_lt_two_pow _ (by omega)
  show IntKind.u64.wrap ((BitVec.ofInt 64 (a : Int) &&& BitVec.ofInt 64 (b : Int)).toNat : Int) = _
  rw [BitVec.toNat_and, ofInt_u64 a ha, ofInt_u64 b hb, IntKind.wrap_u64]
  omega
theorem and_one (a : Nat) (ha : a < 18446744073709551616) : Go.bits .and .u64 (a : Int) 1 = ((a % 2 : Nat) : Int) := by
  have e := and_nat a 1 ha (by omega)
  rw [show ((1 : Nat) : Int) = 1 by rfl] at e
  rw [e, show (1 : Nat) = 2 ^ 1 - 1 by rfl, Nat.and_two_pow_sub_one_eq_mod]
/-- of at most K decimal digits -/
def Lo (x K : Nat) : Prop := x < 10 ^ K
theorem Lo.mul {x y a b : Nat} (h : Lo x a) (h' : Lo y b) : Lo (x * y) (a + b) := by
  unfold Lo at *
  rw [Nat.pow_add]
  exact Nat.mul_lt_mul'' h h'
theorem Lo.mono {x a b : Nat} (h : Lo x a) (hab : a ≤ b) : Lo x b := Nat.lt_of_lt_of_le h (Nat.pow_le_pow_right (by omega) hab)
theorem Lo.le {x y a : Nat} (h : Lo x a) (hy : y ≤ x) : Lo y a := Nat.lt_of_le_of_lt hy h
theorem Lo.succ {x a : Nat} (h : Lo x a) : Lo (x + 1) (a + 1) := by
  unfold Lo at *
  have : 0 < 10 ^ a := Nat.pow_pos (by omega)
  rw [Nat.pow_succ]; omega
theorem Lo.add {x y a : Nat} (h : Lo x a) (h' : Lo y a) : Lo (x + y) (a + 1) := by
  unfold Lo at *
  rw [Nat.pow_succ]; omega
theorem Lo.pow (k : Nat) : Lo (10 ^ k) (k + 1) := Nat.pow_lt_pow_right (by omega) (by omega)
theorem Lo.len {x K : Nat} (h : Lo x K) : (digs U x).length ≤ K := len10 h
theorem Lo.one : Lo 1 1 := by unfold Lo; omega
theorem divmod_d (A A' : Option Addr) (n c n' c' x y : Nat) (w : World) (h : SI w .u64 A n c (digs U x)) (h' : SI w .u64 A' n' c' (digs U y)) {K : Nat} (hx : Lo x K) (hy : Lo y K) (hK : K ≤ 100000) (h0 : y ≠ 0) :
    Calls Tryz.prog 81 #[.slice A n c, .slice A' n' c'] w (Nat.GivesQR w 88 .u64 (digs U (x / y)) (digs U (x % y))) := by
  have e := Nat.divmod_calls A A' n c n' c' (digs U x) (digs U y) w h h' (dl x) (dl y) (by rw [← h.len]; have := hx.len; omega) (by rw [← h'.len]; have := hy.len; omega) (by rw [val_digs U_two]; exact h0)
  rw [val_digs U_two, val_digs U_two] at e
  exact e
theorem mul_10 (A A' : Option Addr) (n c n' c' x y : Nat) (w : World) (h : SI w .u64 A n c (digs U x)) (h' : SI w .u64 A' n' c' (digs U y)) {K : Nat} (hx : Lo x K) (hy : Lo y K) (hK : K ≤ 100000) :
    Calls Tryz.prog 52 #[.slice A n c, .slice A' n' c'] w (GivesOwn w 88 .u64 (digs U (x * y))) :=
  mul_d A A' n c n' c' x y w h h' (by rw [← h.len]; have := hx.len; omega) (by rw [← h'.len]; have := hy.len; omega)
theorem add_10 (A A' : Option Addr) (n c n' c' x y : Nat) (w : World) (h : SI w .u64 A n c (digs U x)) (h' : SI w .u64 A' n' c' (digs U y)) {K : Nat} (hx : Lo x K) (hy : Lo y K) (hK : K ≤ 100000) :
    Calls Tryz.prog 91 #[.slice A n c, .slice A' n' c'] w (GivesOwn w 88 .u64 (digs U (x + y))) :=
  add_d A A' n c n' c' x y K w h h' (by omega) hx.len hy.len
theorem cmp_10 (A A' : Option Addr) (n c n' c' x y : Nat) (w : World) (h : SI w .u64 A n c (digs U x)) (h' : SI w .u64 A' n' c' (digs U y)) :
    Calls Tryz.prog 119 #[.slice A n c, .slice A' n' c'] w fun e w' => e = .returned (.int .i64 (stand x y)) ∧ Drawn w w' := by
  have e := Nat.cmp_calls A A' n c n' c' (digs U x) (digs U y) w h h' (dl x) (dl y)
  rw [val_digs U_two, val_digs U_two, stand_cmp] at e
  exact e
/-- a formed text, read as its number -/
theorem parse_formed {l : List UInt8} (h : Formed l) (hl : l.length ≤ 8192) (w : World) :
    Calls Tryz.prog 51 #[.string ⟨l.toArray⟩] w fun e w' => ∃ A n c, e = .returned (.tuple #[.slice A n c, .int .i64 0]) ∧ SI w' .u64 A n c (digs U (nv 0 l)) ∧ Below w.heap.size w w' := by
  have hs := size_of l
  obtain ⟨c, r, e, hc⟩ := h.head
  have h0 : 0 < (⟨l.toArray⟩ : ByteArray).size := by rw [hs]; exact h.len
  refine parse_ok1 ⟨l.toArray⟩ (by omega) h0 h.dig ?_ w
  rw [first_of h0 (show (⟨l.toArray⟩ : ByteArray).data.toList = c :: r from e)]
  intro k
  have : c.toNat = 48 := by omega
  exact ne_48 hc (UInt8.toNat_inj.mp this)
theorem nv_10 {l : List UInt8} (h : Formed l) : Lo (nv 0 l) l.length := nv_lt h.dig
/-- a Dec's box and the result's cell -/
structure TB (w W : World) (g : Bool) (S : ByteArray) (x : Int) : Prop where
  a : Bk W w.heap.size 23 #[.int .i64 0, .bool g, .string S, .int .i64 x]
  r : Bk W (w.heap.size + 1) 23 #[.int .i64 0, .bool false, .string ⟨#[]⟩, .int .i64 0]
  bl : Below w.heap.size w W
def TC (w : World) (G : Nat) (g : Bool) (S : ByteArray) (x : Int) : Prop :=
  (w.cell? ⟨G, 0, none⟩ = some (.int .i64 0) ∧ w.cell? ⟨G, 1, none⟩ = some (.bool g) ∧ w.cell? ⟨G, 2, none⟩ = some (.string S) ∧ w.cell? ⟨G, 3, none⟩ = some (.int .i64 x)) ∧
  (w.cell? ⟨G + 1, 0, none⟩ = some (.int .i64 0) ∧ w.cell? ⟨G + 1, 1, none⟩ = some (.bool false) ∧ w.cell? ⟨G + 1, 2, none⟩ = some (.string ⟨#[]⟩) ∧ w.cell? ⟨G + 1, 3, none⟩ = some (.int .i64 0)) ∧
  (w.frozen? ⟨G + 1, 0, none⟩ = false ∧ w.frozen? ⟨G + 1, 1, none⟩ = false ∧ w.frozen? ⟨G + 1, 2, none⟩ = false ∧ w.frozen? ⟨G + 1, 3, none⟩ = false)
section
variable {w W W' : World} {g : Bool} {S : ByteArray} {x : Int}
theorem TB.start (w : World) (g : Bool) (S : ByteArray) (x : Int) : TB w ((w.alloc (.cells #[.int .i64 0, .bool g, .string S, .int .i64 x] 23)).alloc (.cells #[.int .i64 0, .bool false, .string ⟨#[]⟩, .int .i64 0] 23)) g S x := by
  obtain ⟨h1, h2, h3⟩ := bk_two w #[.int .i64 0, .bool g, .string S, .int .i64 x] #[.int .i64 0, .bool false, .string ⟨#[]⟩, .int .i64 0] 23 23
  exact ⟨h1, h2, h3⟩
theorem TB.below (h : TB w W g S x) (hb : Below W.heap.size W W') : TB w W' g S x := ⟨h.a.below hb, h.r.below hb, on h.bl hb⟩
theorem TB.drew (h : TB w W g S x) : TB w W.drew g S x := ⟨h.a.drew, h.r.drew, h.bl.drew⟩
theorem TB.alloc (h : TB w W g S x) (o : Obj) : TB w (W.alloc o) g S x := h.below (alloc_below _ _)
theorem TB.cells (h : TB w W g S x) : TC W w.heap.size g S x := ⟨four h.a, four h.r, frz h.r⟩
theorem TB.neg (h : TB w W g S x) : W.cell? ⟨w.heap.size, 1, none⟩ = some (.bool g) := h.a.at_ 1 rfl
theorem TB.res (h : TB w W g S x) : W.cell? ⟨w.heap.size + 1, 0, none⟩ = some (.int .i64 0) ∧ W.cell? ⟨w.heap.size + 1, 1, none⟩ = some (.bool false) ∧ W.cell? ⟨w.heap.size + 1, 2, none⟩ = some (.string ⟨#[]⟩) ∧ W.cell? ⟨w.heap.size + 1, 3, none⟩ = some (.int .i64 0) ∧
    W.frozen? ⟨w.heap.size + 1, 0, none⟩ = false ∧ W.frozen? ⟨w.heap.size + 1, 1, none⟩ = false ∧ W.frozen? ⟨w.heap.size + 1, 2, none⟩ = false ∧ W.frozen? ⟨w.heap.size + 1, 3, none⟩ = false :=
  ⟨h.r.at_ 0 rfl, h.r.at_ 1 rfl, h.r.at_ 2 rfl, h.r.at_ 3 rfl, h.r.fr 0, h.r.fr 1, h.r.fr 2, h.r.fr 3⟩
theorem TB.far (h : TB w W g S x) (a b c d : Value) : ((((W.setCell ⟨w.heap.size + 1, 0, none⟩ a).setCell ⟨w.heap.size + 1, 1, none⟩ b).setCell ⟨w.heap.size + 1, 2, none⟩ c).setCell ⟨w.heap.size + 1, 3, none⟩ d).cell? ⟨w.heap.size, 1, none⟩ = some (.bool g) := by
  have hne : ∀ j, (⟨w.heap.size + 1, j, none⟩ : Addr) ≠ (⟨w.heap.size, 1, none⟩ : Addr) := fun j e => by have : w.heap.size + 1 = w.heap.size := congrArg Addr.block e; omega
  rw [World.cell?_setCell_other _ _ _ _ (hne _), World.cell?_setCell_other _ _ _ _ (hne _), World.cell?_setCell_other _ _ _ _ (hne _), World.cell?_setCell_other _ _ _ _ (hne _)]
  exact h.neg
theorem TB.ret (h : TB w W g S x) (a b c d : Value) : Bk ((((W.setCell ⟨w.heap.size + 1, 0, none⟩ a).setCell ⟨w.heap.size + 1, 1, none⟩ b).setCell ⟨w.heap.size + 1, 2, none⟩ c).setCell ⟨w.heap.size + 1, 3, none⟩ d) (w.heap.size + 1) 23 #[a, b, c, d] ∧
    Below w.heap.size w ((((W.setCell ⟨w.heap.size + 1, 0, none⟩ a).setCell ⟨w.heap.size + 1, 1, none⟩ b).setCell ⟨w.heap.size + 1, 2, none⟩ c).setCell ⟨w.heap.size + 1, 3, none⟩ d) :=
  ⟨h.r.set4 a b c d rfl, below_set4 h.bl (by omega) a b c d⟩
end
end Go.Proofs.YtkanddmihmdagaaGreatDoor.Dc
