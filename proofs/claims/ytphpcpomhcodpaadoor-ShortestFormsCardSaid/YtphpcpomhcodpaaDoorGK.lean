/- Texts of one layer, joined: Ja, Km. -/
import Derived.Test.YtphpcpomhcodpaaDoorGI
import Derived.Laws.StructEq
import Derived.Test.YtphpcpomhcodpaaDoorCards
import Derived.Test.YtphpcpomhcodpaaDoorTie
import Derived.Test.YtphpcpomhcodpaaDoorGA
import Derived.Test.YtphpcpomhcodpaaDoorGF
import Derived.WalkKit
import Derived.ProofKit
import Derived.OpenShut
import Derived.Carry
import Derived.Deep.DeepHandedRow
import Derived.Lib.LaidTab
import Derived.Stop.LaidErr
import Derived.Deep.DeepWitnessRowRef
set_option linter.unusedVariables false
set_option linter.unusedSimpArgs false
set_option linter.unusedSectionVars false
/- Layer 3's laws: awake. -/
set_option linter.unusedSimpArgs false
set_option linter.unusedVariables false
namespace Go.Proofs.YtphpcpomhcodpaaDoor.Sh
open Go.RowKit Go.Proofs.YtphpcpomhcodpaaDoor.Dig Go.Proofs.YtphpcpomhcodpaaDoor.W Go.Proofs.YtphpcpomhcodpaaDoor.Nat Go.Proofs.YtphpcpomhcodpaaDoor.Wh Go.Proofs.YtphpcpomhcodpaaDoor.Td Go.Proofs.YtphpcpomhcodpaaDoor.Bu Go.Proofs.YtphpcpomhcodpaaDoor.Tx Go.Proofs.YtphpcpomhcodpaaDoor.Sp

section
variable {P : Program} {d : Nat} {xs ys : Array Value} {f : Field} {fs : List Field} {a b : Value} {r s : Bool} {w : World}
theorem eqf_last (hn : (f.name == "_") = false) (ha : (part f.type xs f.offset).run P w = .ok a w) (hb : (part f.type ys f.offset).run P w = .ok b w) (he : (Op.equalIn d f.type a b).run P w = .ok r w) : (Op.eqFields d xs ys [f]).run P w = .ok r w := by
  have hn' : f.name ≠ "_" := by simpa using hn
  simp only [Op.eqFields, if_pos hn', Sem.run_bind, ha, hb, he, Result.andThen_ok]
  cases r <;> simp
theorem eqf_cons (hn : (f.name == "_") = false) (ha : (part f.type xs f.offset).run P w = .ok a w) (hb : (part f.type ys f.offset).run P w = .ok b w) (he : (Op.equalIn d f.type a b).run P w = .ok r w) (hr : (Op.eqFields d xs ys fs).run P w = .ok s w) : (Op.eqFields d xs ys (f :: fs)).run P w = .ok (r && s) w := by
  have hn' : f.name ≠ "_" := by simpa using hn
  rw [Op.eqFields]
  simp only [if_pos hn', Sem.run_bind, ha, hb, he, Result.andThen_ok]
  cases r
  · simp
  · simpa using hr
theorem eqA_of {t : TypeId} {fs : Array Field} (hu : P.underlying t = some (.struct fs)) (hp : P.stoodInHeld t = false) (h : (Op.eqFields d xs ys fs.toList).run P w = .ok r w) : (Op.equalIn (d + 1) t (.agg xs) (.agg ys)).run P w = .ok r w := by
  have hf : P.fieldsOf t = fs := by simp [Program.fieldsOf, hu]
  rw [run_equalIn_struct (P := P) w d t xs ys (by rw [hf]; exact hu) hp, hf]
  exact h
theorem eql_agg {t : TypeId} (h : (Op.equalIn 10000 t (.agg xs) (.agg ys)).run P w = .ok r w) : (binOp .eql t (.agg xs) (.agg ys)).run P w = .ok (.bool r) w := by
  simp only [binOp]
  simp [Op.equal, Op.maxDepth, h]
end
theorem eq_four (d : Nat) (w : World) (x0 y0 x3 y3 : Int) (x1 y1 : Bool) (x2 y2 : ByteArray) :
    (Op.equalIn (d + 2) 24 (.agg #[.int .i64 x0, .bool x1, .string x2, .int .i64 x3]) (.agg #[.int .i64 y0, .bool y1, .string y2, .int .i64 y3])).run Tryd.prog w = .ok (x0 == y0 && (x1 == y1 && (x2.toList == y2.toList && (x3 == y3)))) w := by
  refine eqA_of Tryd.underlying24 (by kernel_rfl) ?_
  refine eqf_cons (by rfl) (by go_simp; rfl) (by go_simp; rfl) (by go_simp) ?_
  refine eqf_cons (by rfl) (by go_simp; rfl) (by go_simp; rfl) (by go_simp) ?_
  refine eqf_cons (by rfl) (by go_simp; rfl) (by go_simp; rfl) (by go_simp) ?_
  exact eqf_last (by rfl) (by go_simp; rfl) (by go_simp; rfl) (by go_simp)
/-- a Dec is itself -/
theorem eq_dec (c x : Int) (g : Bool) (l : ByteArray) (w : World) : (binOp .eql 24 (.agg #[.int .i64 c, .bool g, .string l, .int .i64 x]) (.agg #[.int .i64 c, .bool g, .string l, .int .i64 x])).run Tryd.prog w = .ok (.bool true) w := by
  have e := eql_agg (eq_four 9998 w c c x x g g l l)
  rw [e]
  simp
theorem no_guard : Tryd.prog.eqGuardType Tryd.prog.depth 24 = false := by kernel_rfl
theorem ldec_calls (l : ByteArray) (x : Int) (w : World) : Calls Tryd.prog 13 #[.string l, .int .i64 x] w fun e w' => e = .returned (.agg #[.int .i64 0, .bool false, .string l, .int .i64 x]) ∧ Below w.heap.size w w' := by
  go_enter Tryd.func13, Tryd.ntmps13
  go_wp2
  exact bodyPost_ret (res_bk rfl _ (Bk.start w 24 #[.int .i64 0, .bool false, .string l, .int .i64 x]) rfl Tryd.underlying24 rfl (by kernel_rfl)) rfl ⟨rfl, alloc_below _ _⟩
theorem four_of {l : List UInt8} {x : Int} {a : Nat} {z : Int} (h : cd a = l ∧ ce a z = x) (ng : Bool) : dec 0 ng (cd a) (ce a z) = #[.int .i64 0, .bool ng, .string ⟨l.toArray⟩, .int .i64 x] := by rw [h.1, h.2]; rfl
theorem lit1 : oV_w 4591870180066957722 = #[.int .i64 0, .bool false, .string ⟨#[49]⟩, .int .i64 (-1)] := by
  unfold oV_w
  rw [if_neg (by decide), if_neg (by decide), show decide (4591870180066957722 / 9223372036854775808 = 1) = false from by decide, show 4591870180066957722 % 9223372036854775808 = 0x3fb999999999999a by decide]
  exact four_of awake1 false
theorem lit2 : oV_w 1 = #[.int .i64 0, .bool false, .string ⟨#[53]⟩, .int .i64 (-324)] := by
  unfold oV_w
  rw [if_neg (by decide), if_neg (by decide), show decide (1 / 9223372036854775808 = 1) = false from by decide, show 1 % 9223372036854775808 = 1 by decide]
  exact four_of awake2 false
theorem lit3 : oV_n 1036831949 = #[.int .i64 0, .bool false, .string ⟨#[49]⟩, .int .i64 (-1)] := by
  unfold oV_n
  rw [if_neg (by decide), if_neg (by decide), show decide (1036831949 / 2147483648 = 1) = false from by decide, show 1036831949 % 2147483648 = 0x3dcccccd by decide]
  exact four_of awake3 false
theorem lit4 : oV_n 1 = #[.int .i64 0, .bool false, .string ⟨#[49]⟩, .int .i64 (-45)] := by
  unfold oV_n
  rw [if_neg (by decide), if_neg (by decide), show decide (1 / 2147483648 = 1) = false from by decide, show 1 % 2147483648 = 1 by decide]
  exact four_of awake4 false
theorem lit5 : eV_w 4602678819172646912 = #[.int .i64 0, .bool false, .string ⟨#[53]⟩, .int .i64 (-1)] := by
  unfold eV_w
  rw [if_neg (by decide), show decide (4602678819172646912 / 9223372036854775808 = 1) = false from by decide, show 4602678819172646912 % 9223372036854775808 = 0x3fe0000000000000 by decide]
  exact four_of awake5 false
theorem lit6 : eV_n 1056964608 = #[.int .i64 0, .bool false, .string ⟨#[53]⟩, .int .i64 (-1)] := by
  unfold eV_n
  rw [if_neg (by decide), show decide (1056964608 / 2147483648 = 1) = false from by decide, show 1056964608 % 2147483648 = 0x3f000000 by decide]
  exact four_of awake6 false
theorem lit7 : oV_w 9223372036854775808 = #[.int .i64 0, .bool true, .string ⟨#[]⟩, .int .i64 0] := by
  unfold oV_w
  rw [if_neg (by decide), if_pos (by decide), show decide (9223372036854775808 / 9223372036854775808 = 1) = true from by decide]
  rfl
theorem lit8 : oV_w 9218868437227405312 = #[.int .i64 1, .bool false, .string ⟨#[]⟩, .int .i64 0] := by
  unfold oV_w
  rw [if_pos (by decide), if_pos (by decide), show decide (9218868437227405312 / 9223372036854775808 = 1) = false from by decide]
  rfl
theorem aw1 (w : World) (hp : Pow w) : Calls Tryd.prog 5 #[.int .u64 4591870180066957722] w fun e w' => e = .returned (.agg #[.int .i64 0, .bool false, .string ⟨#[49]⟩, .int .i64 (-1)]) ∧ Below w.heap.size w w' := lit1 ▸ Of64_calls (bits := 4591870180066957722) (by decide) w hp
theorem aw2 (w : World) (hp : Pow w) : Calls Tryd.prog 5 #[.int .u64 1] w fun e w' => e = .returned (.agg #[.int .i64 0, .bool false, .string ⟨#[53]⟩, .int .i64 (-324)]) ∧ Below w.heap.size w w' := lit2 ▸ Of64_calls (bits := 1) (by decide) w hp
theorem aw3 (w : World) (hp : Pow w) : Calls Tryd.prog 10 #[.int .u32 1036831949] w fun e w' => e = .returned (.agg #[.int .i64 0, .bool false, .string ⟨#[49]⟩, .int .i64 (-1)]) ∧ Below w.heap.size w w' := lit3 ▸ Of32_calls (bits := 1036831949) (by decide) w hp
theorem aw4 (w : World) (hp : Pow w) : Calls Tryd.prog 10 #[.int .u32 1] w fun e w' => e = .returned (.agg #[.int .i64 0, .bool false, .string ⟨#[49]⟩, .int .i64 (-45)]) ∧ Below w.heap.size w w' := lit4 ▸ Of32_calls (bits := 1) (by decide) w hp
theorem aw5 (w : World) (hp : Pow w) : Calls Tryd.prog 6 #[.int .u64 4602678819172646912] w fun e w' => e = .returned (.agg #[.int .i64 0, .bool false, .string ⟨#[53]⟩, .int .i64 (-1)]) ∧ Below w.heap.size w w' := lit5 ▸ Exact64_calls (bits := 4602678819172646912) (by decide) w hp
theorem aw6 (w : World) (hp : Pow w) : Calls Tryd.prog 9 #[.int .u32 1056964608] w fun e w' => e = .returned (.agg #[.int .i64 0, .bool false, .string ⟨#[53]⟩, .int .i64 (-1)]) ∧ Below w.heap.size w w' := lit6 ▸ Exact32_calls (bits := 1056964608) (by decide) w hp
theorem aw7 (w : World) (hp : Pow w) : Calls Tryd.prog 5 #[.int .u64 9223372036854775808] w fun e w' => e = .returned (.agg #[.int .i64 0, .bool true, .string ⟨#[]⟩, .int .i64 0]) ∧ Below w.heap.size w w' := lit7 ▸ Of64_calls (bits := 9223372036854775808) (by decide) w hp
theorem aw8 (w : World) (hp : Pow w) : Calls Tryd.prog 5 #[.int .u64 9218868437227405312] w fun e w' => e = .returned (.agg #[.int .i64 1, .bool false, .string ⟨#[]⟩, .int .i64 0]) ∧ Below w.heap.size w w' := lit8 ▸ Of64_calls (bits := 9218868437227405312) (by decide) w hp
attribute [local go_sem ↓] eq_dec
set_option maxHeartbeats 8000000 in
set_option maxRecDepth 100000 in
theorem awake_calls (w : World) (hp : Pow w) : Calls Tryd.prog 7 #[] w fun e w' => e = .returned (.bool true) ∧ Below w.heap.size w w' := by
  have HP := Lib.hid hp
  clear hp
  have ng := no_guard
  go_enter Tryd.func7, Tryd.ntmps7
  go_wp2_with (first
    | (go_at_call 5; first
      | ((with_reducible refine (aw1 _ HP.out).mono ?_); rintro e w1 ⟨rfl, b1⟩; have B1 := Lib.hid b1)
      | ((with_reducible refine (aw2 _ (HP.out.below B2.out)).mono ?_); rintro e w3 ⟨rfl, b3⟩; have B3 := Lib.hid (on B2.out b3))
      | ((with_reducible refine (aw7 _ (HP.out.below B12.out)).mono ?_); rintro e w13 ⟨rfl, b13⟩; have B13 := Lib.hid (on B12.out b13))
      | ((with_reducible refine (aw8 _ (HP.out.below B13.out)).mono ?_); rintro e w14 ⟨rfl, b14⟩; have B14 := Lib.hid (on B13.out b14)))
    | (go_at_call 10; first
      | ((with_reducible refine (aw3 _ (HP.out.below B4.out)).mono ?_); rintro e w5 ⟨rfl, b5⟩; have B5 := Lib.hid (on B4.out b5))
      | ((with_reducible refine (aw4 _ (HP.out.below B6.out)).mono ?_); rintro e w7 ⟨rfl, b7⟩; have B7 := Lib.hid (on B6.out b7)))
    | (go_at_call 6; (with_reducible refine (aw5 _ (HP.out.below B8.out)).mono ?_); rintro e w9 ⟨rfl, b9⟩; have B9 := Lib.hid (on B8.out b9))
    | (go_at_call 9; (with_reducible refine (aw6 _ (HP.out.below B10.out)).mono ?_); rintro e w11 ⟨rfl, b11⟩; have B11 := Lib.hid (on B10.out b11))
    | (go_at_call 13; first
      | ((with_reducible refine (ldec_calls _ _ w1).mono ?_); rintro e w2 ⟨rfl, b2⟩; have B2 := Lib.hid (on B1.out b2))
      | ((with_reducible refine (ldec_calls _ _ w3).mono ?_); rintro e w4 ⟨rfl, b4⟩; have B4 := Lib.hid (on B3.out b4))
      | ((with_reducible refine (ldec_calls _ _ w5).mono ?_); rintro e w6 ⟨rfl, b6⟩; have B6 := Lib.hid (on B5.out b6))
      | ((with_reducible refine (ldec_calls _ _ w7).mono ?_); rintro e w8 ⟨rfl, b8⟩; have B8 := Lib.hid (on B7.out b8))
      | ((with_reducible refine (ldec_calls _ _ w9).mono ?_); rintro e w10 ⟨rfl, b10⟩; have B10 := Lib.hid (on B9.out b10))
      | ((with_reducible refine (ldec_calls _ _ w11).mono ?_); rintro e w12 ⟨rfl, b12⟩; have B12 := Lib.hid (on B11.out b12))))
  go_ret
  exact ⟨rfl, B14.out⟩
end Go.Proofs.YtphpcpomhcodpaaDoor.Sh

/- Layer 3: what every row of the seat needs: a world that holds the listed variables; the table of powers of ten. -/
set_option linter.unusedSimpArgs false
set_option linter.unusedVariables false
namespace Go.Proofs.YtphpcpomhcodpaaDoor.Row
open Go.ChangeShapes Go.WideShapes Go.ChangeAt Go.RowKit

theorem own : ownKnob Tryd.prog.godebug = none := by kernel_rfl
theorem laidOut : laidOutB Tryd.prog = true := by kernel_rfl
theorem gTab : Tryd.prog.globalNamed "internal/strconv.uint64pow10" = some 5 := by kernel_rfl
mutual
def flatD : DataW Unit → List Value
  | .lit (.int k n) => [.int k n]
  | .agg ps => flatDs ps
  | _ => []
def flatDs : List (DataW Unit) → List Value
  | [] => []
  | d :: r => flatD d ++ flatDs r
end
def putRow (cs : Array Value) : Obj → Obj
  | .cells _ t frozen => .cells cs t frozen
  | o => o
/-- A WORLD FOR THE WITNESS: the settled one, the listed variables holding what the program's text lays. -/
noncomputable def laidWorld (os : Os) : World :=
  let w0 := World.holding Tryd.prog os ⟨#[], #[], []⟩
  { w0 with heap := ((((w0.heap.modify 3 (putRow (flatD Rows.laid_unicode_utf8_first).toArray)).modify 4 (putRow (flatD Rows.laid_unicode_utf8_acceptRanges).toArray)).modify 6 (putRow (flatD Rows.laid_math_bits_deBruijn32tab).toArray)).modify 7 (putRow (flatD Rows.laid_math_bits_deBruijn64tab).toArray)).modify 5 (putRow (flatD Rows.laid_internal_strconv_uint64pow10).toArray) }
theorem tab_e : (Rows.laid_internal_strconv_uint64pow10 : DataW Unit) = Lib.tabData .u64 Lib.pow10Tab := by kernel_rfl
theorem pow_of {W : World} {l : List (String × DataW Unit)} (h : laidMet Tryd.prog (("internal/strconv.uint64pow10", Rows.laid_internal_strconv_uint64pow10) :: l) W) : Bu.Pow W := by
  rw [tab_e] at h
  exact Lib.tabIs_of_head (n := 20) (e := 22) gTab (by kernel_rfl) Tryd.underlying120 Tryd.underlying22 (by kernel_rfl) (by kernel_rfl) h
theorem bnd64 {z : Int} (h : (Lit.int .u64 z).wf = true) : 0 ≤ z ∧ z < 18446744073709551616 := by
  simp only [Lit.wf, Bool.and_eq_true, decide_eq_true_eq] at h
  have m1 : IntKind.u64.min = 0 := rfl
  have m2 : IntKind.u64.max = 18446744073709551615 := rfl
  rw [m1, m2] at h
  omega
theorem bnd32 {z : Int} (h : (Lit.int .u32 z).wf = true) : 0 ≤ z ∧ z < 4294967296 := by
  simp only [Lit.wf, Bool.and_eq_true, decide_eq_true_eq] at h
  have m1 : IntKind.u32.min = 0 := rfl
  have m2 : IntKind.u32.max = 4294967295 := rfl
  rw [m1, m2] at h
  omega
end Go.Proofs.YtphpcpomhcodpaaDoor.Row
