/- For every half of a pattern: the affixes of a pattern without a half for numbers below 0 are unlike for all three signs, and but for the sign's token they are the pattern's own: SignApart answers true. The tables of unicode/utf8 hold what the program's text lays (the card's tie). -/
import Derived.Test.YtoplpoofbefjcaaDoorSgQ
import Derived.Test.YtoplpoofbefjcaaDoorSgM
import Derived.Test.YtoplpoofbefjcaaDoorSgO
namespace Go.Proofs.YtoplpoofbefjcaaDoor.signApart
open Go.ChangeShapes Go.WideShapes Go.ChangeAt Go.RowKit Go.Proofs.YtoplpoofbefjcaaDoor.Open Go.Proofs.YtoplpoofbefjcaaDoor.Row
open Go.ChangeMaps (open_string)

theorem contract (H : Type) (enc : TypeId × Value → H) (W : World) (base : Nat) (args : Array Value) (ds gs : List (DataW H)) (before : List MemPlace)
    (hval : ∀ (j : Nat) t v, Tryd.f6.params[j]? = some t → args[j]? = some v → Value.okWide Tryd.prog W .any base t v)
    (hW : DataW.Whole enc Tryd.prog Tryd.f6.params.toList Rows.signApartSpec.vars false W args.toList ds gs before)
    (hsz0 : (DataW.weightsEach Tryd.prog (Tryd.f6.params.toList ++ (OpenSpec.ofChange Rows.signApartSpec).bare.plain.varTypes Tryd.prog) (ds ++ gs)).all (· ≤ reachBytes) = true) :
    Calls Tryd.prog 6 args W fun e W' => ∃ v, e = .returned v ∧ Rows.signApartSpec.post enc Tryd.prog Tryd.f6 false true false false W args v W' := by
  have hW' := hW
  obtain ⟨p, q, hA0, hV, rfl, hfz, hnd⟩ := hW
  have hA : DataW.TrodAll enc Tryd.prog W 0 (fun _ => true) true Tryd.f6.params.toList args.toList ds p := hA0
  have hsz := hsz0
  rw [Tryd.params6] at hA hval hsz
  obtain ⟨v0, vs0, d0, ds0, p0, q0, hargs, rfl, rfl, h0, r0⟩ := trodAll_cons hA
  obtain ⟨rfl, rfl, rfl⟩ := trodAll_nil r0
  obtain rfl : args = #[v0] := by cases args; simp_all
  obtain ⟨rfl, rfl⟩ := trodVars_none hV
  have lt0 : ∀ z ∈ p0, z.block < W.heap.size := by obtain ⟨m, hm⟩ := h0; exact DataW.trod_lt m _ _ _ hm
  have G0 := arg_open (ls := [.row [.int .i64, .int .i64, .str] 32, .row [.int .i64, .int .i64, .str] 32, .one (.int .i64), .one (.int .i64), .one (.int .i64), .one (.int .i64), .one (.int .i64), .one (.int .i64), .one .bool, .one .str, .one (.int .i64), .one (.int .i64)]) (j := 0) (by kernel_rfl) h0 hsz rfl rfl
  obtain ⟨cs0, rfl, _⟩ := okWide_struct Tryd.underlying24 (hval 0 24 v0 rfl rfl)
  obtain ⟨x0_0, s0_0, e0, uP, G0_0⟩ := G0.cons_
  obtain ⟨AP, nP, cP, lP, rfl, tP, bP, nilP⟩ := Sg.row_toks uP
  obtain ⟨x0_1, s0_1, rfl, uS, G0_1⟩ := G0_0.cons_
  obtain ⟨AS, nS, cS, lS, rfl, tS, bS, nilS⟩ := Sg.row_toks uS
  obtain ⟨x0_2, s0_2, rfl, ⟨im, rfl, _⟩, G0_2⟩ := G0_1.cons_
  obtain ⟨x0_3, s0_3, rfl, ⟨fm, rfl, _⟩, G0_3⟩ := G0_2.cons_
  obtain ⟨x0_4, s0_4, rfl, ⟨fx, rfl, _⟩, G0_4⟩ := G0_3.cons_
  obtain ⟨x0_5, s0_5, rfl, ⟨pr, rfl, _⟩, G0_5⟩ := G0_4.cons_
  obtain ⟨x0_6, s0_6, rfl, ⟨se, rfl, _⟩, G0_6⟩ := G0_5.cons_
  obtain ⟨x0_7, s0_7, rfl, ⟨em, rfl, _⟩, G0_7⟩ := G0_6.cons_
  obtain ⟨x0_8, s0_8, rfl, ⟨ep, rfl⟩, G0_8⟩ := G0_7.cons_
  obtain ⟨x0_9, s0_9, rfl, ⟨pad, rfl, wpad⟩, G0_9⟩ := G0_8.cons_
  obtain ⟨x0_10, s0_10, rfl, ⟨pa, rfl, _⟩, G0_10⟩ := G0_9.cons_
  obtain ⟨x0_11, s0_11, rfl, ⟨wd, rfl, _⟩, G0_11⟩ := G0_10.cons_
  obtain rfl := G0_11.nil_
  obtain rfl : cs0 = #[.slice AP nP cP, .slice AS nS cS, .int .i64 im, .int .i64 fm, .int .i64 fx, .int .i64 pr, .int .i64 se, .int .i64 em, .bool ep, .string pad, .int .i64 pa, .int .i64 wd] := by
    cases cs0
    simpa [Value.cells] using e0
  refine (Sg.signApart_calls AP AS nP cP nS cS ⟨im, fm, fx, pr, se, em, ep, pad, pa, wd⟩ lP lS W tP tS (by have := Go.Proofs.YtoplpoofbefjcaaDoor.W.Sl.le tP; omega) (by have := Go.Proofs.YtoplpoofbefjcaaDoor.W.Sl.le tS; omega)).mono fun e W' ⟨he, bel⟩ => ?_
  subst he
  exact ⟨_, rfl, _, _, _, [], _, [], hW', trodAll_mk1 (shut_bool Tryd.underlying4 _), (trodAll_cons_mk (Below.trod laidOut (by kernel_rfl) (of_decide_eq_true (by kernel_rfl)) h0 bel lt0) trodAll_mk0), rfl, bel.frame _, fun h => by cases h⟩

noncomputable def wit : Array Value := #[.agg #[.slice none 0 0, .slice none 0 0, .int .i64 0, .int .i64 0, .int .i64 0, .int .i64 0, .int .i64 0, .int .i64 0, .bool false, .string ByteArray.empty, .int .i64 0, .int .i64 0]]
theorem laid_met (os : Os) : laidMet Tryd.prog Rows.signApartRow.laid ((laidWorld os).forCall (fun _ _ => 0) ⟨#[], wit, []⟩).memory :=
  laidMet_of_run' 8 (by kernel_rfl) (by kernel_rfl)

set_option maxRecDepth 100000 in
theorem lifted (os : Os) (started : os.Started) (H : Type) (enc : TypeId × Value → H) (F : Stop.Interp) :
    ReturnsInHanded {} Tryd.checked os 6 .any ((OpenSpec.ofChange Rows.signApartSpec).preRow enc Tryd.prog Tryd.f6 Rows.signApartRow.domain false Rows.signApartRow.laid) (((OpenSpec.ofChange Rows.signApartSpec).at F).post enc Tryd.prog Tryd.f6 false true false false) := by
  refine returnsInHanded_of_row (C := Tryd.checked) (s := OpenSpec.ofChange Rows.signApartSpec) own started (by kernel_rfl) Tryd.func6
    (witness_row_at (enc := enc) (C := Tryd.checked) false (laidWorld os) wit rfl (by kernel_rfl) (by kernel_rfl) (by kernel_rfl)
      (OpenSpec.preRow_of_cond (x := ([.agg [.nil, .nil, .lit (.int .i64 0), .lit (.int .i64 0), .lit (.int .i64 0), .lit (.int .i64 0), .lit (.int .i64 0), .lit (.int .i64 0), .lit (.bool false), .lit (.string []), .lit (.int .i64 0), .lit (.int .i64 0)]], [], [])) 8 (by kernel_rfl) (by kernel_rfl) (fun k hk => by cases hk) (by kernel_rfl) (laid_met os))) ?_
  intro W base args ds gs before hval hW _ _ hsz _ _ _
  exact contract H enc W base args ds gs before hval hW hsz

theorem said : Rows.SignApartSaid :=
  OpenClaim.holds_of_cond 6 Tryd.f6 rfl rfl rfl rfl rfl rfl rfl ⟨rfl, rfl, rfl, rfl, rfl⟩ rfl rfl rfl rfl rfl (by kernel_rfl) Tryd.func6 (by kernel_rfl)
    (of_decide_eq_true (by kernel_rfl)) (by unfold Func.isWrapper; first | (rw [if_pos (by decide +kernel)]; kernel_rfl) | (rw [if_neg (by decide +kernel)]; exact ⟨rfl, rfl⟩))
    (fun os started H enc _ F => by rw [OpenClaim.pre_eq_preRow]; exact lifted os started H enc F)

theorem plain (f : FuncId) (fn : Func) (hf : Tryd.pinned.checked.prog.funcNamed "quipu/quipulaw19.SignApart" = some f) (hfn : Tryd.pinned.checked.prog.funcs[f]? = some fn) :
    false = Tryd.pinned.checked.prog.looks [] ∧ ∀ (j : Nat) t, fn.params[j]? = some t → Tryd.pinned.checked.prog.wantsStandIn t = false := by
  obtain rfl : f = 6 := Option.some.inj ((show Tryd.prog.funcNamed "quipu/quipulaw19.SignApart" = some 6 by kernel_rfl).symm.trans hf) |>.symm
  obtain rfl : fn = Tryd.f6 := (Option.some.inj (Tryd.func6.symm.trans hfn)).symm
  refine ⟨by kernel_rfl, fun j t ht => ?_⟩
  rw [Tryd.params6] at ht
  have ht' := Array.mem_of_getElem? ht
  simp only [List.mem_toArray, List.mem_cons, List.mem_nil_iff, or_false] at ht'
  rcases ht' with rfl
  · exact (show Tryd.prog.wantsStandIn 24 = false by kernel_rfl)

theorem card : Rows.SignApartCardSaid :=
  Claim7.holds_tied_plain_at .later [] _ _ _ _ said (fun _ h => by cases h) (by kernel_rfl) (fun _ h => by cases h) signApart_row_tie rfl ⟨rfl, rfl⟩ (by kernel_rfl) rfl plain (by kernel_rfl)
end Go.Proofs.YtoplpoofbefjcaaDoor.signApart
namespace Go.Proofs.YtoplpoofbefjcaaDoor
theorem signApart_holds : Rows.SignApartCardSaid := signApart.card
end Go.Proofs.YtoplpoofbefjcaaDoor

