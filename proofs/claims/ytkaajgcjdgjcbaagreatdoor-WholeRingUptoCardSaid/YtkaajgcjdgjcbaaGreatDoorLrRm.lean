/- For any three whole numbers, of bulk at most 1048576: the laws of reckoning hold: sums and products turn about and bind as they like, products spread over sums, and quotient times divisor and rest is the dividend: WholeRing answers true. The listed variables hold what the program's text lays (the card's tie). -/
import Derived.Test.YtkaajgcjdgjcbaaGreatDoorGL
import Derived.Test.YtkaajgcjdgjcbaaGreatDoorGF
set_option linter.unusedVariables false
set_option linter.unusedSimpArgs false
namespace Go.Proofs.YtkaajgcjdgjcbaaGreatDoor.wholeRingUpto
open Go.ChangeShapes Go.WideShapes Go.ChangeAt Go.RowKit Go.Proofs.YtkaajgcjdgjcbaaGreatDoor.Open Go.Proofs.YtkaajgcjdgjcbaaGreatDoor.Row
open Go.ChangeMaps (open_string)

set_option maxRecDepth 100000 in
theorem contract (H : Type) (enc : TypeId × Value → H) (W : World) (base : Nat) (args : Array Value) (ds gs : List (DataW H)) (before : List MemPlace)
    (hval : ∀ (j : Nat) t v, Tryz.f9.params[j]? = some t → args[j]? = some v → Value.okWide Tryz.prog W .any base t v)
    (hW : DataW.Whole enc Tryz.prog Tryz.f9.params.toList Rows.wholeRingSpec.vars false W args.toList ds gs before)
    (hsz0 : (DataW.weightsEach Tryz.prog (Tryz.f9.params.toList ++ (Rows.OpenSpec.upto Rows.wholeRingSpec).bare.plain.varTypes Tryz.prog) (ds ++ gs)).all (· ≤ reachBytes) = true) (hL : laidMetH Tryz.prog Rows.wholeRingUptoRow.laid W) (hk : ∀ k, (Rows.OpenSpec.upto Rows.wholeRingSpec).cond = some k → k H (ds ++ gs) = true) :
    Calls Tryz.prog 9 args W fun e W' => ∃ v, e = .returned v ∧ Rows.wholeRingSpec.post enc Tryz.prog Tryz.f9 false true false false W args v W' := by
  have HP : Bu.Pow W := pow_of_laid hL
  have hW' := hW
  obtain ⟨p, q, hA0, hV, rfl, hfz, hnd⟩ := hW
  have hA : DataW.TrodAll enc Tryz.prog W 0 (fun _ => true) true Tryz.f9.params.toList args.toList ds p := hA0
  have hsz := hsz0
  rw [Tryz.params9] at hA hval hsz
  obtain ⟨v0, vs0, d0, ds0, p0, q0, hargs, rfl, rfl, h0, r0⟩ := trodAll_cons hA
  obtain ⟨v1, vs1, d1, ds1, p1, q1, rfl, rfl, rfl, h1, r1⟩ := trodAll_cons r0
  obtain ⟨v2, vs2, d2, ds2, p2, q2, rfl, rfl, rfl, h2, r2⟩ := trodAll_cons r1
  obtain ⟨rfl, rfl, rfl⟩ := trodAll_nil r2
  obtain rfl : args = #[v0, v1, v2] := by cases args; simp_all
  obtain ⟨rfl, rfl⟩ := trodVars_none hV
  have lt0 : ∀ z ∈ p0, z.block < W.heap.size := by obtain ⟨m, hm⟩ := h0; exact DataW.trod_lt m _ _ _ hm
  have G0 := arg_open (ls := [.one .bool, .row [.int .u64] 8]) (j := 0) (by kernel_rfl) h0 hsz rfl rfl
  obtain ⟨cs0, rfl, _⟩ := okWide_struct Tryz.underlying24 (hval 0 24 v0 rfl rfl)
  obtain ⟨x0_0, s0_0, e0, ⟨ga, rfl⟩, G0_0⟩ := G0.cons_
  obtain ⟨x0_1, s0_1, rfl, uma, G0_1⟩ := G0_0.cons_
  obtain ⟨Ama, nma, cma, lma, rfl, tma, Lma⟩ := si_open uma
  obtain rfl := G0_1.nil_
  obtain rfl : cs0 = #[.bool ga, .slice Ama nma cma] := by
    cases cs0
    simpa [Value.cells] using e0
  have B0 : nma ≤ Rows.uptoBulk d0 := by obtain ⟨m, hm⟩ := h0; exact bulk_int hm
  have lt1 : ∀ z ∈ p1, z.block < W.heap.size := by obtain ⟨m, hm⟩ := h1; exact DataW.trod_lt m _ _ _ hm
  have G1 := arg_open (ls := [.one .bool, .row [.int .u64] 8]) (j := 1) (by kernel_rfl) h1 hsz rfl rfl
  obtain ⟨cs1, rfl, _⟩ := okWide_struct Tryz.underlying24 (hval 1 24 v1 rfl rfl)
  obtain ⟨x1_0, s1_0, e1, ⟨gb, rfl⟩, G1_0⟩ := G1.cons_
  obtain ⟨x1_1, s1_1, rfl, umb, G1_1⟩ := G1_0.cons_
  obtain ⟨Amb, nmb, cmb, lmb, rfl, tmb, Lmb⟩ := si_open umb
  obtain rfl := G1_1.nil_
  obtain rfl : cs1 = #[.bool gb, .slice Amb nmb cmb] := by
    cases cs1
    simpa [Value.cells] using e1
  have B1 : nmb ≤ Rows.uptoBulk d1 := by obtain ⟨m, hm⟩ := h1; exact bulk_int hm
  have lt2 : ∀ z ∈ p2, z.block < W.heap.size := by obtain ⟨m, hm⟩ := h2; exact DataW.trod_lt m _ _ _ hm
  have G2 := arg_open (ls := [.one .bool, .row [.int .u64] 8]) (j := 2) (by kernel_rfl) h2 hsz rfl rfl
  obtain ⟨cs2, rfl, _⟩ := okWide_struct Tryz.underlying24 (hval 2 24 v2 rfl rfl)
  obtain ⟨x2_0, s2_0, e2, ⟨gc, rfl⟩, G2_0⟩ := G2.cons_
  obtain ⟨x2_1, s2_1, rfl, umc, G2_1⟩ := G2_0.cons_
  obtain ⟨Amc, nmc, cmc, lmc, rfl, tmc, Lmc⟩ := si_open umc
  obtain rfl := G2_1.nil_
  obtain rfl : cs2 = #[.bool gc, .slice Amc nmc cmc] := by
    cases cs2
    simpa [Value.cells] using e2
  have B2 : nmc ≤ Rows.uptoBulk d2 := by obtain ⟨m, hm⟩ := h2; exact bulk_int hm
  have K := bulk_bound (hk _ rfl)
  simp only [List.append_nil, Rows.uptoBulkAll] at K
  refine (Aw.wholeRing_calls ga gb gc Ama Amb Amc nma cma nmb cmb nmc cmc lma lmb lmc W tma tmb tmc Lma Lmb Lmc (by omega) (by omega) (by omega) HP).mono fun e W' ⟨he, bel⟩ => ?_
  subst he
  exact ⟨_, rfl, _, _, _, [], _, [], hW', trodAll_mk1 (shut_bool Tryz.underlying4 _), (trodAll_cons_mk (Below.trod laidOut (by kernel_rfl) (of_decide_eq_true (by kernel_rfl)) h0 bel lt0) (trodAll_cons_mk (Below.trod laidOut (by kernel_rfl) (of_decide_eq_true (by kernel_rfl)) h1 bel lt1) (trodAll_cons_mk (Below.trod laidOut (by kernel_rfl) (of_decide_eq_true (by kernel_rfl)) h2 bel lt2) trodAll_mk0))), rfl, bel.frame _, fun h => by cases h⟩

noncomputable def wit : Array Value := #[.agg #[.bool false, .slice none 0 0], .agg #[.bool false, .slice none 0 0], .agg #[.bool false, .slice none 0 0]]
set_option maxRecDepth 1000000 in
theorem laid_met (os : Os) : laidMet Tryz.prog Rows.wholeRingUptoRow.laid ((laidWorld os).forCall (fun _ _ => 0) ⟨#[], wit, []⟩).memory :=
  laidMet_of_run' 8 (by kernel_rfl) (by kernel_rfl)

set_option maxRecDepth 100000 in
theorem lifted (os : Os) (started : os.Started) (H : Type) (enc : TypeId × Value → H) (F : Stop.Interp) :
    ReturnsInHanded {} Tryz.checked os 9 .any ((Rows.OpenSpec.upto Rows.wholeRingSpec).preRow enc Tryz.prog Tryz.f9 Rows.wholeRingUptoRow.domain false Rows.wholeRingUptoRow.laid) (((Rows.OpenSpec.upto Rows.wholeRingSpec).at F).post enc Tryz.prog Tryz.f9 false true false false) := by
  refine returnsInHanded_of_row (C := Tryz.checked) (s := (Rows.OpenSpec.upto Rows.wholeRingSpec)) own started (by kernel_rfl) Tryz.func9
    (witness_row_atRef (enc := enc) (C := Tryz.checked) false (laidWorld os) wit rfl (by kernel_rfl) (by kernel_rfl) (by kernel_rfl)
      (OpenSpec.preRow_of_cond (x := ([.agg [.lit (.bool false), .nil], .agg [.lit (.bool false), .nil], .agg [.lit (.bool false), .nil]], [], [])) 8 (by kernel_rfl) (by kernel_rfl) (fun k hk => by cases hk; kernel_rfl) (by kernel_rfl) (laid_met os))) ?_
  intro W base args ds gs before hval hW _ hk hsz hL _ _
  exact contract H enc W base args ds gs before hval hW hsz hL hk

theorem said : Rows.WholeRingUptoSaid :=
  OpenClaim.holds_of_cond 9 Tryz.f9 rfl rfl rfl rfl rfl rfl rfl ⟨rfl, rfl, rfl, rfl, rfl⟩ rfl rfl rfl rfl rfl (by kernel_rfl) Tryz.func9 (by kernel_rfl)
    (of_decide_eq_true (by kernel_rfl)) (by unfold Func.isWrapper; first | (rw [if_pos (by decide +kernel)]; kernel_rfl) | (rw [if_neg (by decide +kernel)]; exact ⟨rfl, rfl⟩))
    (fun os started H enc _ F => by rw [OpenClaim.pre_eq_preRow]; exact lifted os started H enc F)

theorem plain (f : FuncId) (fn : Func) (hf : Tryz.pinned.checked.prog.funcNamed "quipu/quipulaw02.WholeRing" = some f) (hfn : Tryz.pinned.checked.prog.funcs[f]? = some fn) :
    true = Tryz.pinned.checked.prog.looks [] ∧ ∀ (j : Nat) t, fn.params[j]? = some t → Tryz.pinned.checked.prog.wantsStandIn t = false := by
  obtain rfl : f = 9 := Option.some.inj ((show Tryz.prog.funcNamed "quipu/quipulaw02.WholeRing" = some 9 by kernel_rfl).symm.trans hf) |>.symm
  obtain rfl : fn = Tryz.f9 := (Option.some.inj (Tryz.func9.symm.trans hfn)).symm
  refine ⟨by kernel_rfl, fun j t ht => ?_⟩
  rw [Tryz.params9] at ht
  have ht' := Array.mem_of_getElem? ht
  simp only [List.mem_toArray, List.mem_cons, List.mem_nil_iff, or_false] at ht'
  rcases ht' with rfl | rfl | rfl
  · exact (show Tryz.prog.wantsStandIn 24 = false by kernel_rfl)
  · exact (show Tryz.prog.wantsStandIn 24 = false by kernel_rfl)
  · exact (show Tryz.prog.wantsStandIn 24 = false by kernel_rfl)

theorem card : Rows.WholeRingUptoCardSaid :=
  Claim7.holds_tied_plain_at .later [] _ _ _ _ said (fun _ h => by cases h) (by kernel_rfl) (fun _ h => by cases h) wholeRingUpto_row_tie rfl ⟨rfl, rfl⟩ (by kernel_rfl) rfl plain (by kernel_rfl)
end Go.Proofs.YtkaajgcjdgjcbaaGreatDoor.wholeRingUpto
namespace Go.Proofs.YtkaajgcjdgjcbaaGreatDoor
theorem wholeRingUpto_holds : Rows.WholeRingUptoCardSaid := wholeRingUpto.card
end Go.Proofs.YtkaajgcjdgjcbaaGreatDoor

