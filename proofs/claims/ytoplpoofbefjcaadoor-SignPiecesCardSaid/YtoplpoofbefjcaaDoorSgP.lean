/- For every list of tokens, all symbols and every text of a currency: tokens are written as the document says: SignPieces answers true. The tables of unicode/utf8 hold what the program's text lays (the card's tie). -/
import Derived.Test.YtoplpoofbefjcaaDoorSgJ
import Derived.Test.YtoplpoofbefjcaaDoorSgM
import Derived.Test.YtoplpoofbefjcaaDoorSgO
namespace Go.Proofs.YtoplpoofbefjcaaDoor.signPieces
open Go.ChangeShapes Go.WideShapes Go.ChangeAt Go.RowKit Go.Proofs.YtoplpoofbefjcaaDoor.Open Go.Proofs.YtoplpoofbefjcaaDoor.Row
open Go.ChangeMaps (open_string)

theorem contract (H : Type) (enc : TypeId × Value → H) (W : World) (base : Nat) (args : Array Value) (ds gs : List (DataW H)) (before : List MemPlace)
    (hval : ∀ (j : Nat) t v, Tryd.f4.params[j]? = some t → args[j]? = some v → Value.okWide Tryd.prog W .any base t v)
    (hW : DataW.Whole enc Tryd.prog Tryd.f4.params.toList Rows.signPiecesSpec.vars false W args.toList ds gs before)
    (hsz0 : (DataW.weightsEach Tryd.prog (Tryd.f4.params.toList ++ (OpenSpec.ofChange Rows.signPiecesSpec).bare.plain.varTypes Tryd.prog) (ds ++ gs)).all (· ≤ reachBytes) = true) :
    Calls Tryd.prog 4 args W fun e W' => ∃ v, e = .returned v ∧ Rows.signPiecesSpec.post enc Tryd.prog Tryd.f4 false true false false W args v W' := by
  have hW' := hW
  obtain ⟨p, q, hA0, hV, rfl, hfz, hnd⟩ := hW
  have hA : DataW.TrodAll enc Tryd.prog W 0 (fun _ => true) true Tryd.f4.params.toList args.toList ds p := hA0
  have hsz := hsz0
  rw [Tryd.params4] at hA hval hsz
  obtain ⟨v0, vs0, d0, ds0, p0, q0, hargs, rfl, rfl, h0, r0⟩ := trodAll_cons hA
  obtain ⟨v1, vs1, d1, ds1, p1, q1, rfl, rfl, rfl, h1, r1⟩ := trodAll_cons r0
  obtain ⟨v2, vs2, d2, ds2, p2, q2, rfl, rfl, rfl, h2, r2⟩ := trodAll_cons r1
  obtain ⟨rfl, rfl, rfl⟩ := trodAll_nil r2
  obtain rfl : args = #[v0, v1, v2] := by cases args; simp_all
  obtain ⟨rfl, rfl⟩ := trodVars_none hV
  have lt0 : ∀ z ∈ p0, z.block < W.heap.size := by obtain ⟨m, hm⟩ := h0; exact DataW.trod_lt m _ _ _ hm
  have G0 := arg_open (ls := [.row [.int .i64, .int .i64, .str] 32]) (j := 0) (by kernel_rfl) h0 hsz rfl rfl
  obtain ⟨At, nt, ct, rfl⟩ := okWide_slice Tryd.underlying22 (hval 0 22 v0 rfl rfl)
  obtain ⟨x0, s0, e0, u0, G0_0⟩ := G0.cons_
  obtain rfl : x0 = .slice At nt ct := by
    have := e0.symm
    simp [Value.cells] at this
    exact this.1
  obtain ⟨_, _, _, lt, et, tt, bt, nilt⟩ := Sg.row_toks u0
  injection et with et_1 et_2 et_3
  subst et_1; subst et_2; subst et_3
  have lt1 : ∀ z ∈ p1, z.block < W.heap.size := by obtain ⟨m, hm⟩ := h1; exact DataW.trod_lt m _ _ _ hm
  have G1 := arg_open (ls := [.one .str, .one .str, .one .str, .one .str, .one .str, .one .str, .one .str, .one .str, .one .str, .one .str, .one .str, .one .str, .one .str, .one .str, .one .str, .one .str, .one .str, .one .str, .one .str, .one .str, .one .str]) (j := 1) (by kernel_rfl) h1 hsz rfl rfl
  obtain ⟨cs1, rfl, _⟩ := okWide_struct Tryd.underlying40 (hval 1 40 v1 rfl rfl)
  obtain ⟨x1_0, s1_0, e1, ⟨zd0, rfl, wzd0⟩, G1_0⟩ := G1.cons_
  obtain ⟨x1_1, s1_1, rfl, ⟨zd1, rfl, wzd1⟩, G1_1⟩ := G1_0.cons_
  obtain ⟨x1_2, s1_2, rfl, ⟨zd2, rfl, wzd2⟩, G1_2⟩ := G1_1.cons_
  obtain ⟨x1_3, s1_3, rfl, ⟨zd3, rfl, wzd3⟩, G1_3⟩ := G1_2.cons_
  obtain ⟨x1_4, s1_4, rfl, ⟨zd4, rfl, wzd4⟩, G1_4⟩ := G1_3.cons_
  obtain ⟨x1_5, s1_5, rfl, ⟨zd5, rfl, wzd5⟩, G1_5⟩ := G1_4.cons_
  obtain ⟨x1_6, s1_6, rfl, ⟨zd6, rfl, wzd6⟩, G1_6⟩ := G1_5.cons_
  obtain ⟨x1_7, s1_7, rfl, ⟨zd7, rfl, wzd7⟩, G1_7⟩ := G1_6.cons_
  obtain ⟨x1_8, s1_8, rfl, ⟨zd8, rfl, wzd8⟩, G1_8⟩ := G1_7.cons_
  obtain ⟨x1_9, s1_9, rfl, ⟨zd9, rfl, wzd9⟩, G1_9⟩ := G1_8.cons_
  obtain ⟨x1_10, s1_10, rfl, ⟨zdc, rfl, wzdc⟩, G1_10⟩ := G1_9.cons_
  obtain ⟨x1_11, s1_11, rfl, ⟨zgr, rfl, wzgr⟩, G1_11⟩ := G1_10.cons_
  obtain ⟨x1_12, s1_12, rfl, ⟨zmi, rfl, wzmi⟩, G1_12⟩ := G1_11.cons_
  obtain ⟨x1_13, s1_13, rfl, ⟨zpl, rfl, wzpl⟩, G1_13⟩ := G1_12.cons_
  obtain ⟨x1_14, s1_14, rfl, ⟨zpe, rfl, wzpe⟩, G1_14⟩ := G1_13.cons_
  obtain ⟨x1_15, s1_15, rfl, ⟨zpm, rfl, wzpm⟩, G1_15⟩ := G1_14.cons_
  obtain ⟨x1_16, s1_16, rfl, ⟨zex, rfl, wzex⟩, G1_16⟩ := G1_15.cons_
  obtain ⟨x1_17, s1_17, rfl, ⟨zinf, rfl, wzinf⟩, G1_17⟩ := G1_16.cons_
  obtain ⟨x1_18, s1_18, rfl, ⟨znan, rfl, wznan⟩, G1_18⟩ := G1_17.cons_
  obtain ⟨x1_19, s1_19, rfl, ⟨zap, rfl, wzap⟩, G1_19⟩ := G1_18.cons_
  obtain ⟨x1_20, s1_20, rfl, ⟨zra, rfl, wzra⟩, G1_20⟩ := G1_19.cons_
  obtain rfl := G1_20.nil_
  obtain rfl : cs1 = #[.string zd0, .string zd1, .string zd2, .string zd3, .string zd4, .string zd5, .string zd6, .string zd7, .string zd8, .string zd9, .string zdc, .string zgr, .string zmi, .string zpl, .string zpe, .string zpm, .string zex, .string zinf, .string znan, .string zap, .string zra] := by
    cases cs1
    simpa [Value.cells] using e1
  have lt2 : ∀ z ∈ p2, z.block < W.heap.size := by obtain ⟨m, hm⟩ := h2; exact DataW.trod_lt m _ _ _ hm
  have k2 := h2
  obtain ⟨coin, rfl, rfl, rfl, ycoin⟩ := open_string Tryd.underlying9 (hval 2 9 v2 rfl rfl) h2
  have wcoin : coin.size ≤ 140737488351232 := by
    have z := sized_string hsz (j := 2) rfl rfl
    rw [Array.length_toList] at z
    exact z
  refine (Sg.signPieces_calls At nt ct lt (.string zd0) (.string zd1) (.string zd2) (.string zd3) (.string zd4) (.string zd5) (.string zd6) (.string zd7) (.string zd8) (.string zd9) (.string zdc) (.string zgr) ⟨zmi, zpl, zpe, zpm⟩ (.string zex) (.string zinf) (.string znan) (.string zap) (.string zra) coin W tt (by have := Go.Proofs.YtoplpoofbefjcaaDoor.W.Sl.le tt; omega)).mono fun e W' ⟨he, bel⟩ => ?_
  subst he
  exact ⟨_, rfl, _, _, _, [], _, [], hW', trodAll_mk1 (shut_bool Tryd.underlying4 _), (trodAll_cons_mk (Below.trod laidOut (by kernel_rfl) (of_decide_eq_true (by kernel_rfl)) h0 bel lt0) (trodAll_cons_mk (Below.trod laidOut (by kernel_rfl) (of_decide_eq_true (by kernel_rfl)) h1 bel lt1) (trodAll_cons_mk (Below.trod laidOut (by kernel_rfl) (of_decide_eq_true (by kernel_rfl)) k2 bel lt2) trodAll_mk0))), rfl, bel.frame _, fun h => by cases h⟩

noncomputable def wit : Array Value := #[.slice none 0 0, .agg #[.string ByteArray.empty, .string ByteArray.empty, .string ByteArray.empty, .string ByteArray.empty, .string ByteArray.empty, .string ByteArray.empty, .string ByteArray.empty, .string ByteArray.empty, .string ByteArray.empty, .string ByteArray.empty, .string ByteArray.empty, .string ByteArray.empty, .string ByteArray.empty, .string ByteArray.empty, .string ByteArray.empty, .string ByteArray.empty, .string ByteArray.empty, .string ByteArray.empty, .string ByteArray.empty, .string ByteArray.empty, .string ByteArray.empty], .string ByteArray.empty]
theorem laid_met (os : Os) : laidMet Tryd.prog Rows.signPiecesRow.laid ((laidWorld os).forCall (fun _ _ => 0) ⟨#[], wit, []⟩).memory :=
  laidMet_of_run' 8 (by kernel_rfl) (by kernel_rfl)

set_option maxRecDepth 100000 in
theorem lifted (os : Os) (started : os.Started) (H : Type) (enc : TypeId × Value → H) (F : Stop.Interp) :
    ReturnsInHanded {} Tryd.checked os 4 .any ((OpenSpec.ofChange Rows.signPiecesSpec).preRow enc Tryd.prog Tryd.f4 Rows.signPiecesRow.domain false Rows.signPiecesRow.laid) (((OpenSpec.ofChange Rows.signPiecesSpec).at F).post enc Tryd.prog Tryd.f4 false true false false) := by
  refine returnsInHanded_of_row (C := Tryd.checked) (s := OpenSpec.ofChange Rows.signPiecesSpec) own started (by kernel_rfl) Tryd.func4
    (witness_row_at (enc := enc) (C := Tryd.checked) false (laidWorld os) wit rfl (by kernel_rfl) (by kernel_rfl) (by kernel_rfl)
      (OpenSpec.preRow_of_cond (x := ([.nil, .agg [.agg [.lit (.string []), .lit (.string []), .lit (.string []), .lit (.string []), .lit (.string []), .lit (.string []), .lit (.string []), .lit (.string []), .lit (.string []), .lit (.string [])], .lit (.string []), .lit (.string []), .lit (.string []), .lit (.string []), .lit (.string []), .lit (.string []), .lit (.string []), .lit (.string []), .lit (.string []), .lit (.string []), .lit (.string [])], .lit (.string [])], [], [])) 8 (by kernel_rfl) (by kernel_rfl) (fun k hk => by cases hk) (by kernel_rfl) (laid_met os))) ?_
  intro W base args ds gs before hval hW _ _ hsz _ _ _
  exact contract H enc W base args ds gs before hval hW hsz

theorem said : Rows.SignPiecesSaid :=
  OpenClaim.holds_of_cond 4 Tryd.f4 rfl rfl rfl rfl rfl rfl rfl ⟨rfl, rfl, rfl, rfl, rfl⟩ rfl rfl rfl rfl rfl (by kernel_rfl) Tryd.func4 (by kernel_rfl)
    (of_decide_eq_true (by kernel_rfl)) (by unfold Func.isWrapper; first | (rw [if_pos (by decide +kernel)]; kernel_rfl) | (rw [if_neg (by decide +kernel)]; exact ⟨rfl, rfl⟩))
    (fun os started H enc _ F => by rw [OpenClaim.pre_eq_preRow]; exact lifted os started H enc F)

theorem plain (f : FuncId) (fn : Func) (hf : Tryd.pinned.checked.prog.funcNamed "quipu/quipulaw19.SignPieces" = some f) (hfn : Tryd.pinned.checked.prog.funcs[f]? = some fn) :
    false = Tryd.pinned.checked.prog.looks [] ∧ ∀ (j : Nat) t, fn.params[j]? = some t → Tryd.pinned.checked.prog.wantsStandIn t = false := by
  obtain rfl : f = 4 := Option.some.inj ((show Tryd.prog.funcNamed "quipu/quipulaw19.SignPieces" = some 4 by kernel_rfl).symm.trans hf) |>.symm
  obtain rfl : fn = Tryd.f4 := (Option.some.inj (Tryd.func4.symm.trans hfn)).symm
  refine ⟨by kernel_rfl, fun j t ht => ?_⟩
  rw [Tryd.params4] at ht
  have ht' := Array.mem_of_getElem? ht
  simp only [List.mem_toArray, List.mem_cons, List.mem_nil_iff, or_false] at ht'
  rcases ht' with rfl | rfl | rfl
  · exact (show Tryd.prog.wantsStandIn 22 = false by kernel_rfl)
  · exact (show Tryd.prog.wantsStandIn 40 = false by kernel_rfl)
  · exact (show Tryd.prog.wantsStandIn 9 = false by kernel_rfl)

theorem card : Rows.SignPiecesCardSaid :=
  Claim7.holds_tied_plain_at .later [] _ _ _ _ said (fun _ h => by cases h) (by kernel_rfl) (fun _ h => by cases h) signPieces_row_tie rfl ⟨rfl, rfl⟩ (by kernel_rfl) rfl plain (by kernel_rfl)
end Go.Proofs.YtoplpoofbefjcaaDoor.signPieces
namespace Go.Proofs.YtoplpoofbefjcaaDoor
theorem signPieces_holds : Rows.SignPiecesCardSaid := signPieces.card
end Go.Proofs.YtoplpoofbefjcaaDoor

