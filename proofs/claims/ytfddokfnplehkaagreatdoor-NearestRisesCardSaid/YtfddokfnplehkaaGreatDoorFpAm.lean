/- For any two decimal numbers: the greater one never has the lesser float: NearestRises answers true. The listed variables hold what the program's text lays (the card's tie). -/
import Derived.Test.YtfddokfnplehkaaGreatDoorGZ
import Derived.Test.YtfddokfnplehkaaGreatDoorGQ
set_option linter.unusedVariables false
set_option linter.unusedSimpArgs false
namespace Go.Proofs.YtfddokfnplehkaaGreatDoor.nearestRises
open Go.ChangeShapes Go.WideShapes Go.ChangeAt Go.RowKit Go.Proofs.YtfddokfnplehkaaGreatDoor.Open Go.Proofs.YtfddokfnplehkaaGreatDoor.Row
open Go.ChangeMaps (open_string)

set_option maxRecDepth 100000 in
theorem contract (H : Type) (enc : TypeId × Value → H) (W : World) (base : Nat) (args : Array Value) (ds gs : List (DataW H)) (before : List MemPlace)
    (hval : ∀ (j : Nat) t v, Tryz.f6.params[j]? = some t → args[j]? = some v → Value.okWide Tryz.prog W .any base t v)
    (hW : DataW.Whole enc Tryz.prog Tryz.f6.params.toList Rows.nearestRisesSpec.vars false W args.toList ds gs before)
    (hsz0 : (DataW.weightsEach Tryz.prog (Tryz.f6.params.toList ++ (OpenSpec.ofChange Rows.nearestRisesSpec).bare.plain.varTypes Tryz.prog) (ds ++ gs)).all (· ≤ reachBytes) = true) (hL : laidMetH Tryz.prog Rows.nearestRisesRow.laid W) :
    Calls Tryz.prog 6 args W fun e W' => ∃ v, e = .returned v ∧ Rows.nearestRisesSpec.post enc Tryz.prog Tryz.f6 false true false false W args v W' := by
  have HP : Bu.Pow W := pow_of (l := [("unicode/utf8.acceptRanges", Rows.laid_unicode_utf8_acceptRanges), ("strconv.ErrRange", Rows.laid_strconv_ErrRange), ("strconv.ErrSyntax", Rows.laid_strconv_ErrSyntax), ("unicode/utf8.first", Rows.laid_unicode_utf8_first)]) (show laidMet Tryz.prog Rows.nearestRisesRow.laid W from hL).tail.tail
  have hW' := hW
  obtain ⟨p, q, hA0, hV, rfl, hfz, hnd⟩ := hW
  have hA : DataW.TrodAll enc Tryz.prog W 0 (fun _ => true) true Tryz.f6.params.toList args.toList ds p := hA0
  have hsz := hsz0
  rw [Tryz.params6] at hA hval hsz
  obtain ⟨v0, vs0, d0, ds0, p0, q0, hargs, rfl, rfl, h0, r0⟩ := trodAll_cons hA
  obtain ⟨v1, vs1, d1, ds1, p1, q1, rfl, rfl, rfl, h1, r1⟩ := trodAll_cons r0
  obtain ⟨rfl, rfl, rfl⟩ := trodAll_nil r1
  obtain rfl : args = #[v0, v1] := by cases args; simp_all
  obtain ⟨rfl, rfl⟩ := trodVars_none hV
  have lt0 : ∀ z ∈ p0, z.block < W.heap.size := by obtain ⟨m, hm⟩ := h0; exact DataW.trod_lt m _ _ _ hm
  have G0 := arg_open (ls := [.one (.int .i64), .one .bool, .one .str, .one (.int .i64)]) (j := 0) (by kernel_rfl) h0 hsz rfl rfl
  obtain ⟨cs0, rfl, _⟩ := okWide_struct Tryz.underlying23 (hval 0 23 v0 rfl rfl)
  obtain ⟨x0_0, s0_0, e0, ⟨ca, rfl, _⟩, G0_0⟩ := G0.cons_
  obtain ⟨x0_1, s0_1, rfl, ⟨ga, rfl⟩, G0_1⟩ := G0_0.cons_
  obtain ⟨x0_2, s0_2, rfl, ⟨sa, rfl, wsa⟩, G0_2⟩ := G0_1.cons_
  obtain ⟨x0_3, s0_3, rfl, ⟨xa, rfl, _⟩, G0_3⟩ := G0_2.cons_
  obtain rfl := G0_3.nil_
  obtain rfl : cs0 = #[.int .i64 ca, .bool ga, .string sa, .int .i64 xa] := by
    cases cs0
    simpa [Value.cells] using e0
  have lt1 : ∀ z ∈ p1, z.block < W.heap.size := by obtain ⟨m, hm⟩ := h1; exact DataW.trod_lt m _ _ _ hm
  have G1 := arg_open (ls := [.one (.int .i64), .one .bool, .one .str, .one (.int .i64)]) (j := 1) (by kernel_rfl) h1 hsz rfl rfl
  obtain ⟨cs1, rfl, _⟩ := okWide_struct Tryz.underlying23 (hval 1 23 v1 rfl rfl)
  obtain ⟨x1_0, s1_0, e1, ⟨cb, rfl, _⟩, G1_0⟩ := G1.cons_
  obtain ⟨x1_1, s1_1, rfl, ⟨gb, rfl⟩, G1_1⟩ := G1_0.cons_
  obtain ⟨x1_2, s1_2, rfl, ⟨sb, rfl, wsb⟩, G1_2⟩ := G1_1.cons_
  obtain ⟨x1_3, s1_3, rfl, ⟨xb, rfl, _⟩, G1_3⟩ := G1_2.cons_
  obtain rfl := G1_3.nil_
  obtain rfl : cs1 = #[.int .i64 cb, .bool gb, .string sb, .int .i64 xb] := by
    cases cs1
    simpa [Value.cells] using e1
  refine (Nr.nearestRises_calls (ca, ga, sa.data.toList, xa) (cb, gb, sb.data.toList, xb) W HP (by have := Lib.size_eq sa; show sa.data.toList.length ≤ _; omega) (by have := Lib.size_eq sb; show sb.data.toList.length ≤ _; omega)).mono fun e W' ⟨he, bel⟩ => ?_
  subst he
  exact ⟨_, rfl, _, _, _, [], _, [], hW', trodAll_mk1 (shut_bool Tryz.underlying4 _), (trodAll_cons_mk (Below.trod laidOut (by kernel_rfl) (of_decide_eq_true (by kernel_rfl)) h0 bel lt0) (trodAll_cons_mk (Below.trod laidOut (by kernel_rfl) (of_decide_eq_true (by kernel_rfl)) h1 bel lt1) trodAll_mk0)), rfl, bel.frame _, fun h => by cases h⟩

noncomputable def wit : Array Value := #[.agg #[.int .i64 0, .bool false, .string ByteArray.empty, .int .i64 0], .agg #[.int .i64 0, .bool false, .string ByteArray.empty, .int .i64 0]]
set_option maxRecDepth 1000000 in
theorem laid_met (os : Os) : laidMet Tryz.prog Rows.nearestRisesRow.laid ((laidWorld os).forCall (fun _ _ => 0) ⟨#[], wit, []⟩).memory :=
  laidMet_of_run' 8 (by kernel_rfl) (by kernel_rfl)

set_option maxRecDepth 100000 in
theorem lifted (os : Os) (started : os.Started) (H : Type) (enc : TypeId × Value → H) (F : Stop.Interp) :
    ReturnsInHanded {} Tryz.checked os 6 .any ((OpenSpec.ofChange Rows.nearestRisesSpec).preRow enc Tryz.prog Tryz.f6 Rows.nearestRisesRow.domain false Rows.nearestRisesRow.laid) (((OpenSpec.ofChange Rows.nearestRisesSpec).at F).post enc Tryz.prog Tryz.f6 false true false false) := by
  refine returnsInHanded_of_row (C := Tryz.checked) (s := (OpenSpec.ofChange Rows.nearestRisesSpec)) own started (by kernel_rfl) Tryz.func6
    (witness_row_atRef (enc := enc) (C := Tryz.checked) false (laidWorld os) wit rfl (by kernel_rfl) (by kernel_rfl) (by kernel_rfl)
      (OpenSpec.preRow_of_cond (x := ([.agg [.lit (.int .i64 0), .lit (.bool false), .lit (.string []), .lit (.int .i64 0)], .agg [.lit (.int .i64 0), .lit (.bool false), .lit (.string []), .lit (.int .i64 0)]], [], [])) 8 (by kernel_rfl) (by kernel_rfl) (fun k hk => by cases hk) (by kernel_rfl) (laid_met os))) ?_
  intro W base args ds gs before hval hW _ hk hsz hL _ _
  exact contract H enc W base args ds gs before hval hW hsz hL

theorem said : Rows.NearestRisesSaid :=
  OpenClaim.holds_of_cond 6 Tryz.f6 rfl rfl rfl rfl rfl rfl rfl ⟨rfl, rfl, rfl, rfl, rfl⟩ rfl rfl rfl rfl rfl (by kernel_rfl) Tryz.func6 (by kernel_rfl)
    (of_decide_eq_true (by kernel_rfl)) (by unfold Func.isWrapper; first | (rw [if_pos (by decide +kernel)]; kernel_rfl) | (rw [if_neg (by decide +kernel)]; exact ⟨rfl, rfl⟩))
    (fun os started H enc _ F => by rw [OpenClaim.pre_eq_preRow]; exact lifted os started H enc F)

theorem plain (f : FuncId) (fn : Func) (hf : Tryz.pinned.checked.prog.funcNamed "quipu/quipulaw04.NearestRises" = some f) (hfn : Tryz.pinned.checked.prog.funcs[f]? = some fn) :
    true = Tryz.pinned.checked.prog.looks [] ∧ ∀ (j : Nat) t, fn.params[j]? = some t → Tryz.pinned.checked.prog.wantsStandIn t = false := by
  obtain rfl : f = 6 := Option.some.inj ((show Tryz.prog.funcNamed "quipu/quipulaw04.NearestRises" = some 6 by kernel_rfl).symm.trans hf) |>.symm
  obtain rfl : fn = Tryz.f6 := (Option.some.inj (Tryz.func6.symm.trans hfn)).symm
  refine ⟨by kernel_rfl, fun j t ht => ?_⟩
  rw [Tryz.params6] at ht
  have ht' := Array.mem_of_getElem? ht
  simp only [List.mem_toArray, List.mem_cons, List.mem_nil_iff, or_false] at ht'
  rcases ht' with rfl | rfl
  · exact (show Tryz.prog.wantsStandIn 23 = false by kernel_rfl)
  · exact (show Tryz.prog.wantsStandIn 23 = false by kernel_rfl)

theorem card : Rows.NearestRisesCardSaid :=
  Claim7.holds_tied_plain_at .later [] _ _ _ _ said (fun _ h => by cases h) (by kernel_rfl) (fun _ h => by cases h) nearestRises_row_tie rfl ⟨rfl, rfl⟩ (by kernel_rfl) rfl plain (by kernel_rfl)
end Go.Proofs.YtfddokfnplehkaaGreatDoor.nearestRises
namespace Go.Proofs.YtfddokfnplehkaaGreatDoor
theorem nearestRises_holds : Rows.NearestRisesCardSaid := nearestRises.card
end Go.Proofs.YtfddokfnplehkaaGreatDoor

