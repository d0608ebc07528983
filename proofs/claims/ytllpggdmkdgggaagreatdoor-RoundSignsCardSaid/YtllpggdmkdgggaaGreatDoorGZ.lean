/- Texts of one layer, joined: Dv, En, Ef. -/
import Derived.Test.YtllpggdmkdgggaaGreatDoorGP
set_option linter.unusedVariables false
set_option linter.unusedSimpArgs false
set_option linter.unusedSectionVars false
/- Layer 6's laws: RoundPlaces. -/
set_option linter.unusedSimpArgs false
set_option linter.unusedVariables false
namespace Go.Proofs.YtllpggdmkdgggaaGreatDoor.Dc
open Go.RowKit Go.Proofs.YtllpggdmkdgggaaGreatDoor.Dig Go.Proofs.YtllpggdmkdgggaaGreatDoor.W Go.Proofs.YtllpggdmkdgggaaGreatDoor.Nat Go.Proofs.YtllpggdmkdgggaaGreatDoor.Wh Go.Proofs.YtllpggdmkdgggaaGreatDoor.Td Go.Proofs.YtllpggdmkdgggaaGreatDoor.Bu Go.Proofs.YtllpggdmkdgggaaGreatDoor.Tx Go.Proofs.YtllpggdmkdgggaaGreatDoor.Sp Go.Proofs.YtllpggdmkdgggaaGreatDoor.Rd
theorem fin_four (mode c : Int) (g : Bool) (l : List UInt8) (x place : Int) : ∃ c4 g4 l4 x4, (fin mode c g l x place).1 = #[.int .i64 c4, .bool g4, .string l4, .int .i64 x4] := by
  unfold fin
  split
  · exact ⟨_, _, _, _, rfl⟩
  · obtain ⟨g', l', x', e⟩ := oc_four g (pw mode.toNat g l x place)
    exact ⟨0, g', l', x', e⟩
theorem atV_four (c : Int) (g : Bool) (l : List UInt8) (x place mode : Int) : ∃ c4 g4 l4 x4, (atV c g l x place mode).1 = #[.int .i64 c4, .bool g4, .string l4, .int .i64 x4] := by
  unfold atV
  split
  · exact ⟨_, _, _, _, rfl⟩
  · split
    · exact ⟨_, _, _, _, rfl⟩
    · exact fin_four ..
theorem dgV_four (c : Int) (g : Bool) (l : List UInt8) (x n mode : Int) : ∃ c4 g4 l4 x4, (dgV c g l x n mode).1 = #[.int .i64 c4, .bool g4, .string l4, .int .i64 x4] := by
  unfold dgV
  split
  · exact ⟨_, _, _, _, rfl⟩
  · split
    · exact ⟨_, _, _, _, rfl⟩
    · exact fin_four ..
attribute [local go_sem ↓] eq_dec
set_option maxHeartbeats 8000000 in
set_option maxRecDepth 100000 in
theorem roundPlaces_calls (c : Int) (g : Bool) (l : List UInt8) (x place mode : Int) (w : World) (hp : Pow w) (hl : l.length ≤ 9223372036854775807) :
    Calls Tryz.prog 3 #[.agg (dec c g l x), .int .i64 place, .int .i64 mode] w fun e w' => e = .returned (.bool true) ∧ Below w.heap.size w w' := by
  have D0 := Lib.hid (Bk.start w 23 #[.int .i64 c, .bool g, .string ⟨l.toArray⟩, .int .i64 x])
  have b0 := alloc_below w (.cells #[.int .i64 c, .bool g, .string ⟨l.toArray⟩, .int .i64 x] 23)
  have H1 := Lib.hid (at_calls c g l x place mode _ (hp.below b0) hl)
  have H2 := Lib.hid (fun w1 => nat_calls c g l x place mode w1)
  have HA := Lib.hid (fun W (bl : Below w.heap.size w W) => awake_calls W (hp.below bl))
  have B0 := Lib.hid b0
  have ng := no_guard
  unfold Res at H1 H2
  obtain ⟨c4, g4, l4, x4, e4⟩ := atV_four c g l x place mode
  rw [e4] at H1 H2
  generalize (atV c g l x place mode).2 = er at *
  unfold dec str at *
  generalize (⟨l.toArray⟩ : ByteArray) = S at *
  clear hp b0 e4
  go_enter Tryz.func3, Tryz.ntmps3
  go_wp2_with (first
    | (go_at_call 11; (with_reducible refine H1.out.mono ?_); rintro e w1 ⟨rfl, b1⟩; have d1 := (D0.out.below b1).alloc (.cells #[.int .i64 c4, .bool g4, .string l4, .int .i64 x4] 23); have k1 := four d1)
    | (go_at_call 12; (with_reducible refine (H2.out _).mono ?_); rintro e w2 ⟨rfl, b2⟩; have y2 := ((Bk.start w1 23 #[.int .i64 c4, .bool g4, .string l4, .int .i64 x4]).below b2).alloc (.cells #[.int .i64 c4, .bool g4, .string l4, .int .i64 x4] 23); have z2 := Bk.start w2 23 #[.int .i64 c4, .bool g4, .string l4, .int .i64 x4]; have l2 := on (on (on (on B0.out b1) (alloc_below w1 _)) b2) (alloc_below w2 (.cells #[.int .i64 c4, .bool g4, .string l4, .int .i64 x4] 23)))
    | (go_at_call 13; (with_reducible refine (HA.out _ l2).mono ?_); rintro e w3 ⟨rfl, b3⟩; have y3 := four (y2.below b3); have z3 := four (z2.below b3); have l3 := on l2 b3))
  go_ret
  exact ⟨rfl, l3⟩
end Go.Proofs.YtllpggdmkdgggaaGreatDoor.Dc

/- Layer 5: dec.Neg. -/
set_option linter.unusedSimpArgs false
set_option linter.unusedVariables false
namespace Go.Proofs.YtllpggdmkdgggaaGreatDoor.Dc
open Go.RowKit Go.Proofs.YtllpggdmkdgggaaGreatDoor.Dig Go.Proofs.YtllpggdmkdgggaaGreatDoor.W Go.Proofs.YtllpggdmkdgggaaGreatDoor.Nat Go.Proofs.YtllpggdmkdgggaaGreatDoor.Wh Go.Proofs.YtllpggdmkdgggaaGreatDoor.Td Go.Proofs.YtllpggdmkdgggaaGreatDoor.Bu Go.Proofs.YtllpggdmkdgggaaGreatDoor.Tx Go.Proofs.YtllpggdmkdgggaaGreatDoor.Sp Go.Proofs.YtllpggdmkdgggaaGreatDoor.Rd

/-- the other sign -/
def ngG (c : Int) (g : Bool) : Bool := !g && !(c == 2)
def ngV (c : Int) (g : Bool) (l : List UInt8) (x : Int) : Array Value × Int := if mayB c g l x = false then (dec 0 false [] 0, 52) else (dec c (ngG c g) l x, 0)
theorem TV.setA {w W : World} {a0 a1 a2 a3 : Value} (h : TV w W a0 a1 a2 a3) (v : Value) : TV w (W.setCell ⟨w.heap.size, 1, none⟩ v) a0 v a2 a3 :=
  ⟨(h.a.set 1 v).cast rfl, h.r.far v (by show w.heap.size + 1 ≠ w.heap.size; omega), h.bl.setCell (Nat.le_refl _) v⟩
set_option maxHeartbeats 8000000 in
set_option maxRecDepth 100000 in
theorem neg_calls (c : Int) (g : Bool) (l : List UInt8) (x : Int) (w : World) (hl : l.length ≤ 9223372036854775807) :
    Calls Tryz.prog 21 #[.agg (dec c g l x)] w (Res w (ngV c g l x)) := by
  have T := TV.start w (.int .i64 c) (.bool g) (.string ⟨l.toArray⟩) (.int .i64 x)
  have HT := Lib.hid T
  have HM := Lib.hid (fun w1 => dmay_calls c g l x w1 hl)
  unfold ngV Res
  cases hm : mayB c g l x
  · rw [if_pos rfl]
    rw [hm] at HM
    unfold dec str at *
    dsimp only
    generalize (⟨l.toArray⟩ : ByteArray) = S at *
    clear T
    go_enter Tryz.func21, Tryz.ntmps21
    go_wp2_with (go_at_call 35; (with_reducible refine (HM.out _).mono ?_); rintro e w1 ⟨rfl, b1⟩; have x1 := HT.out.below b1; have k1 := x1.keep; have q1 := x1.res)
    obtain ⟨z1, z2⟩ := x1.ret (.int .i64 0) (.bool false) (.string ⟨#[]⟩) (.int .i64 0)
    exact bodyPost_ret (res_bk_t rfl _ z1 rfl Tryz.underlying23 rfl (by kernel_rfl)) rfl ⟨rfl, z2⟩
  · rw [if_neg (by decide)]
    rw [hm] at HM
    unfold ngG
    unfold dec str at *
    dsimp only
    generalize (⟨l.toArray⟩ : ByteArray) = S at *
    clear T
    cases hc : (c == 2)
    · have hc' : ¬ c = 2 := beq_eq_false_iff_ne.1 hc
      have hcn : (c != 2) = true := by simp [bne, hc]
      cases g
      · go_enter Tryz.func21, Tryz.ntmps21
        go_wp2_with (go_at_call 35; (with_reducible refine (HM.out _).mono ?_); rintro e w1 ⟨rfl, b1⟩; have x1 := HT.out.below b1; have k1 := x1.keep; have fa := x1.a.fr 1; have x2 := x1.setA (.bool true); have k2 := x2.keep; have q2 := x2.res)
        obtain ⟨z1, z2⟩ := x2.ret (.int .i64 c) (.bool true) (.string S) (.int .i64 x)
        exact bodyPost_ret (res_bk_t rfl _ z1 rfl Tryz.underlying23 rfl (by kernel_rfl)) rfl ⟨rfl, z2⟩
      · go_enter Tryz.func21, Tryz.ntmps21
        go_wp2_with (go_at_call 35; (with_reducible refine (HM.out _).mono ?_); rintro e w1 ⟨rfl, b1⟩; have x1 := HT.out.below b1; have k1 := x1.keep; have fa := x1.a.fr 1; have x2 := x1.setA (.bool false); have k2 := x2.keep; have q2 := x2.res)
        obtain ⟨z1, z2⟩ := x2.ret (.int .i64 c) (.bool false) (.string S) (.int .i64 x)
        exact bodyPost_ret (res_bk_t rfl _ z1 rfl Tryz.underlying23 rfl (by kernel_rfl)) rfl ⟨rfl, z2⟩
    · have hc' : c = 2 := beq_iff_eq.1 hc
      subst hc'
      cases g
      · go_enter Tryz.func21, Tryz.ntmps21
        go_wp2_with (go_at_call 35; (with_reducible refine (HM.out _).mono ?_); rintro e w1 ⟨rfl, b1⟩; have x1 := HT.out.below b1; have k1 := x1.keep; have fa := x1.a.fr 1; have x2 := x1.setA (.bool false); have k2 := x2.keep; have q2 := x2.res)
        obtain ⟨z1, z2⟩ := x2.ret (.int .i64 2) (.bool false) (.string S) (.int .i64 x)
        exact bodyPost_ret (res_bk_t rfl _ z1 rfl Tryz.underlying23 rfl (by kernel_rfl)) rfl ⟨rfl, z2⟩
      · go_enter Tryz.func21, Tryz.ntmps21
        go_wp2_with (go_at_call 35; (with_reducible refine (HM.out _).mono ?_); rintro e w1 ⟨rfl, b1⟩; have x1 := HT.out.below b1; have k1 := x1.keep; have fa := x1.a.fr 1; have x2 := x1.setA (.bool false); have k2 := x2.keep; have q2 := x2.res)
        obtain ⟨z1, z2⟩ := x2.ret (.int .i64 2) (.bool false) (.string S) (.int .i64 x)
        exact bodyPost_ret (res_bk_t rfl _ z1 rfl Tryz.underlying23 rfl (by kernel_rfl)) rfl ⟨rfl, z2⟩
theorem ngV_four (c : Int) (g : Bool) (l : List UInt8) (x : Int) : ∃ c4 g4 l4 x4, (ngV c g l x).1 = #[.int .i64 c4, .bool g4, .string l4, .int .i64 x4] := by
  unfold ngV
  split
  · exact ⟨_, _, _, _, rfl⟩
  · exact ⟨_, _, _, _, rfl⟩
/-- the mode that changes places -/
def oth (mode : Int) : Int := if mode = 0 then 1 else if mode = 1 then 0 else mode
theorem may_ng {c : Int} {g : Bool} {l : List UInt8} {x : Int} (h : mayB c g l x = true) : mayB c (ngG c g) l x = true := by
  rw [mayB_iff] at h ⊢
  unfold ngG
  rcases h with ⟨h1, h2, h3⟩ | ⟨h1, h2, h3⟩
  · refine .inl ⟨h1, h2, ?_⟩
    rcases h3 with rfl | rfl | ⟨rfl, rfl⟩
    · exact .inl rfl
    · exact .inr (.inl rfl)
    · exact .inr (.inr ⟨rfl, rfl⟩)
  · exact .inr ⟨h1, h2, h3⟩
theorem oc_err {g g' : Bool} {o : Option (List UInt8 × Int)} (h : oe o ≠ 0) : oc g o = oc g' o := by
  cases o with
  | none => rfl
  | some p => exact absurd rfl h
/-- what RoundSigns asks -/
theorem signs_plain {c : Int} {g : Bool} {l : List UInt8} {x place mode : Int} (h : mayB c g l x = true) :
    (atV c (ngG c g) l x place (oth mode)).2 = (atV c g l x place mode).2 ∧
    ((atV c g l x place mode).2 = 0 → ∃ c1 g1 l1 x1, (atV c g l x place mode).1 = dec c1 g1 l1 x1 ∧ mayB c1 g1 l1 x1 = true ∧ (atV c (ngG c g) l x place (oth mode)).1 = dec c1 (ngG c1 g1) l1 x1) := by
  have h' := may_ng h
  have ho : (oth mode < 0 ∨ 8 ≤ oth mode) ↔ (mode < 0 ∨ 8 ≤ mode) := by unfold oth; split; omega; split <;> omega
  have ka : ∀ m, askE true m = if m < 0 ∨ 8 ≤ m then 60 else 0 := fun m => by unfold askE; rw [if_neg (by decide)]
  have ha : askE true (oth mode) = askE true mode := by rw [ka, ka]; simp only [ho]
  unfold atV
  rw [h, h', ha]
  by_cases e0 : askE true mode ≠ 0
  · rw [if_pos e0, if_pos e0]
    exact ⟨rfl, fun k => absurd k e0⟩
  · rw [if_neg e0, if_neg e0]
    by_cases hp : place < -4000 ∨ 4000 < place
    · rw [if_pos hp, if_pos hp]
      exact ⟨rfl, fun k => by cases k⟩
    · rw [if_neg hp, if_neg hp]
      unfold fin
      by_cases hl : l = []
      · rw [if_pos hl, if_pos hl]
        exact ⟨rfl, fun _ => ⟨c, g, l, x, rfl, h, rfl⟩⟩
      · rw [if_neg hl, if_neg hl]
        obtain ⟨rfl, hF, hf⟩ := may_str h hl
        have hm : ¬ (mode < 0 ∨ 8 ≤ mode) := by
          intro k
          apply e0
          unfold askE
          rw [if_neg (by decide), if_pos k]
          decide
        have e1 : (oth mode).toNat = if mode.toNat = 0 then 1 else if mode.toNat = 1 then 0 else mode.toNat := by
          unfold oth
          by_cases m0 : mode = 0
          · rw [if_pos m0, if_pos (by omega)]; rfl
          · by_cases m1 : mode = 1
            · rw [if_neg m0, if_pos m1, if_neg (by omega), if_pos (by omega)]; rfl
            · rw [if_neg m0, if_neg m1, if_neg (by omega), if_neg (by omega)]
        have e2 : ngG 0 g = !g := by cases g <;> rfl
        have e3 : pw (oth mode).toNat (!g) l x place = pw mode.toNat g l x place := by
          unfold pw
          rw [e1, rto_turn (by omega)]
          rfl
        rw [e2, e3]
        refine ⟨rfl, fun k => ?_⟩
        cases ho' : pw mode.toNat g l x place with
        | none => rw [ho'] at k; cases k
        | some p =>
          have hmy := told_may (g := g) (l := p.1) (x := p.2) (show told g (rto mode.toNat g (nv 0 l) x 1 place) place = some (p.1, p.2) from ho')
          exact ⟨0, g, p.1, p.2, rfl, (mayB_iff ..).2 hmy, by rw [e2]; rfl⟩
end Go.Proofs.YtllpggdmkdgggaaGreatDoor.Dc

/- Layer 6's laws: RoundSigns. -/
set_option linter.unusedSimpArgs false
set_option linter.unusedVariables false
namespace Go.Proofs.YtllpggdmkdgggaaGreatDoor.Dc
open Go.RowKit Go.Proofs.YtllpggdmkdgggaaGreatDoor.Dig Go.Proofs.YtllpggdmkdgggaaGreatDoor.W Go.Proofs.YtllpggdmkdgggaaGreatDoor.Nat Go.Proofs.YtllpggdmkdgggaaGreatDoor.Wh Go.Proofs.YtllpggdmkdgggaaGreatDoor.Td Go.Proofs.YtllpggdmkdgggaaGreatDoor.Bu Go.Proofs.YtllpggdmkdgggaaGreatDoor.Tx Go.Proofs.YtllpggdmkdgggaaGreatDoor.Sp Go.Proofs.YtllpggdmkdgggaaGreatDoor.Rd
attribute [local go_sem ↓] eq_dec
set_option maxHeartbeats 16000000 in
set_option maxRecDepth 100000 in
theorem signs_walk (c : Int) (g : Bool) (S : ByteArray) (x place mode om : Int) (w : World) (hp : Pow w) (cn : Int) (gn : Bool) (ln : ByteArray) (xn en ca : Int) (ga : Bool) (la : ByteArray) (xa ea cb : Int) (gb : Bool) (lb : ByteArray) (xb eb cz : Int) (gz : Bool) (lz : ByteArray) (xz ez : Int)
    (hom : om = oth mode)
    (HN : ∀ w1, Calls Tryz.prog 21 #[.agg #[.int .i64 c, .bool g, .string S, .int .i64 x]] w1 fun e w' => e = .returned (.tuple #[.agg #[.int .i64 cn, .bool gn, .string ln, .int .i64 xn], .int .i64 en]) ∧ Below w1.heap.size w1 w')
    (HX : ∀ w1, Pow w1 → Calls Tryz.prog 11 #[.agg #[.int .i64 c, .bool g, .string S, .int .i64 x], .int .i64 place, .int .i64 mode] w1 fun e w' => e = .returned (.tuple #[.agg #[.int .i64 ca, .bool ga, .string la, .int .i64 xa], .int .i64 ea]) ∧ Below w1.heap.size w1 w')
    (HY : ∀ w1, Pow w1 → Calls Tryz.prog 11 #[.agg #[.int .i64 cn, .bool gn, .string ln, .int .i64 xn], .int .i64 place, .int .i64 om] w1 fun e w' => e = .returned (.tuple #[.agg #[.int .i64 cb, .bool gb, .string lb, .int .i64 xb], .int .i64 eb]) ∧ Below w1.heap.size w1 w')
    (HZ : ∀ w1, Calls Tryz.prog 21 #[.agg #[.int .i64 ca, .bool ga, .string la, .int .i64 xa]] w1 fun e w' => e = .returned (.tuple #[.agg #[.int .i64 cz, .bool gz, .string lz, .int .i64 xz], .int .i64 ez]) ∧ Below w1.heap.size w1 w')
    (h : (en = 52 ∧ ea = 52) ∨ (en = 0 ∧ eb = ea ∧ ea ≠ 0) ∨ (en = 0 ∧ eb = 0 ∧ ea = 0 ∧ cb = cz ∧ gb = gz ∧ lb = lz ∧ xb = xz)) :
    Calls Tryz.prog 7 #[.agg #[.int .i64 c, .bool g, .string S, .int .i64 x], .int .i64 place, .int .i64 mode] w fun e w' => e = .returned (.bool true) ∧ Below w.heap.size w w' := by
  have D0 := Lib.hid (Bk.start w 23 #[.int .i64 c, .bool g, .string S, .int .i64 x])
  have b0 := alloc_below w (.cells #[.int .i64 c, .bool g, .string S, .int .i64 x] 23)
  have HA := Lib.hid (awake_calls _ (hp.below b0))
  have P0 := Lib.hid (hp.below b0)
  have B0 := Lib.hid b0
  have ng := no_guard
  have HN' := Lib.hid HN
  have HX' := Lib.hid HX
  have HY' := Lib.hid HY
  have HZ' := Lib.hid HZ
  clear hp b0 HN HX HY HZ
  have hmode : (mode = 0 ∧ om = 1) ∨ (mode = 1 ∧ om = 0) ∨ (¬ mode = 0 ∧ ¬ mode = 1 ∧ om = mode) := by
    rw [hom]
    unfold oth
    by_cases m0 : mode = 0
    · exact .inl ⟨m0, if_pos m0⟩
    · by_cases m1 : mode = 1
      · exact .inr (.inl ⟨m1, by rw [if_neg m0, if_pos m1]⟩)
      · exact .inr (.inr ⟨m0, m1, by rw [if_neg m0, if_neg m1]⟩)
  clear hom
  rcases hmode with ⟨rfl, rfl⟩ | ⟨rfl, rfl⟩ | ⟨m0, m1, rfl⟩
  · rcases h with ⟨rfl, rfl⟩ | ⟨rfl, rfl, h0⟩ | ⟨rfl, rfl, rfl, rfl, rfl, rfl, rfl⟩
    · skip
      go_enter Tryz.func7, Tryz.ntmps7
      go_wp2_with (first
        | (go_at_call 13; (with_reducible refine HA.out.mono ?_); rintro e w1 ⟨rfl, b1⟩; have d1 := D0.out.below b1; have k1 := four d1)
        | (go_at_call 21; first
          | ((with_reducible refine (HN'.out w1).mono ?_); rintro e w2 ⟨rfl, b2⟩; have d2 := (d1.below b2).alloc (.cells #[.int .i64 cn, .bool gn, .string ln, .int .i64 xn] 23); have k2 := four d2; have n2 := Bk.start w2 23 #[.int .i64 cn, .bool gn, .string ln, .int .i64 xn])
          | ((with_reducible refine (HZ'.out _).mono ?_); rintro e w5 ⟨rfl, b5⟩; have y5 := ((Bk.start w4 23 #[.int .i64 cb, .bool gb, .string lb, .int .i64 xb]).below b5).alloc (.cells #[.int .i64 cz, .bool gz, .string lz, .int .i64 xz] 23); have k5 := four y5; have z5 := four (Bk.start w5 23 #[.int .i64 cz, .bool gz, .string lz, .int .i64 xz]); have q5 := on (on (on (on (on (on (on (on (on B0.out b1) b2) (alloc_below _ (.cells #[.int .i64 cn, .bool gn, .string ln, .int .i64 xn] 23))) b3) (alloc_below _ (.cells #[.int .i64 ca, .bool ga, .string la, .int .i64 xa] 23))) b4) (alloc_below _ (.cells #[.int .i64 cb, .bool gb, .string lb, .int .i64 xb] 23))) b5) (alloc_below w5 (.cells #[.int .i64 cz, .bool gz, .string lz, .int .i64 xz] 23))))
        | (go_at_call 11; first
          | ((with_reducible refine (HX'.out _ (((P0.out.below b1).below b2).below (alloc_below _ (.cells #[.int .i64 cn, .bool gn, .string ln, .int .i64 xn] 23)))).mono ?_); rintro e w3 ⟨rfl, b3⟩; have n3 := (n2.below b3).alloc (.cells #[.int .i64 ca, .bool ga, .string la, .int .i64 xa] 23); have k3 := four n3; have x3 := Bk.start w3 23 #[.int .i64 ca, .bool ga, .string la, .int .i64 xa])
          | ((with_reducible refine (HY'.out _ (((((P0.out.below b1).below b2).below (alloc_below _ (.cells #[.int .i64 cn, .bool gn, .string ln, .int .i64 xn] 23))).below b3).below (alloc_below _ (.cells #[.int .i64 ca, .bool ga, .string la, .int .i64 xa] 23)))).mono ?_); rintro e w4 ⟨rfl, b4⟩; have x4 := (x3.below b4).alloc (.cells #[.int .i64 cb, .bool gb, .string lb, .int .i64 xb] 23); have k4 := four x4; have q4 := on (on (on (on (on (on (on B0.out b1) b2) (alloc_below _ (.cells #[.int .i64 cn, .bool gn, .string ln, .int .i64 xn] 23))) b3) (alloc_below _ (.cells #[.int .i64 ca, .bool ga, .string la, .int .i64 xa] 23))) b4) (alloc_below w4 (.cells #[.int .i64 cb, .bool gb, .string lb, .int .i64 xb] 23)))))
      go_ret
      exact ⟨rfl, q4⟩
    · have h0' := eqB h0
      go_enter Tryz.func7, Tryz.ntmps7
      go_wp2_with (first
        | (go_at_call 13; (with_reducible refine HA.out.mono ?_); rintro e w1 ⟨rfl, b1⟩; have d1 := D0.out.below b1; have k1 := four d1)
        | (go_at_call 21; first
          | ((with_reducible refine (HN'.out w1).mono ?_); rintro e w2 ⟨rfl, b2⟩; have d2 := (d1.below b2).alloc (.cells #[.int .i64 cn, .bool gn, .string ln, .int .i64 xn] 23); have k2 := four d2; have n2 := Bk.start w2 23 #[.int .i64 cn, .bool gn, .string ln, .int .i64 xn])
          | ((with_reducible refine (HZ'.out _).mono ?_); rintro e w5 ⟨rfl, b5⟩; have y5 := ((Bk.start w4 23 #[.int .i64 cb, .bool gb, .string lb, .int .i64 xb]).below b5).alloc (.cells #[.int .i64 cz, .bool gz, .string lz, .int .i64 xz] 23); have k5 := four y5; have z5 := four (Bk.start w5 23 #[.int .i64 cz, .bool gz, .string lz, .int .i64 xz]); have q5 := on (on (on (on (on (on (on (on (on B0.out b1) b2) (alloc_below _ (.cells #[.int .i64 cn, .bool gn, .string ln, .int .i64 xn] 23))) b3) (alloc_below _ (.cells #[.int .i64 ca, .bool ga, .string la, .int .i64 xa] 23))) b4) (alloc_below _ (.cells #[.int .i64 cb, .bool gb, .string lb, .int .i64 xb] 23))) b5) (alloc_below w5 (.cells #[.int .i64 cz, .bool gz, .string lz, .int .i64 xz] 23))))
        | (go_at_call 11; first
          | ((with_reducible refine (HX'.out _ (((P0.out.below b1).below b2).below (alloc_below _ (.cells #[.int .i64 cn, .bool gn, .string ln, .int .i64 xn] 23)))).mono ?_); rintro e w3 ⟨rfl, b3⟩; have n3 := (n2.below b3).alloc (.cells #[.int .i64 ca, .bool ga, .string la, .int .i64 xa] 23); have k3 := four n3; have x3 := Bk.start w3 23 #[.int .i64 ca, .bool ga, .string la, .int .i64 xa])
          | ((with_reducible refine (HY'.out _ (((((P0.out.below b1).below b2).below (alloc_below _ (.cells #[.int .i64 cn, .bool gn, .string ln, .int .i64 xn] 23))).below b3).below (alloc_below _ (.cells #[.int .i64 ca, .bool ga, .string la, .int .i64 xa] 23)))).mono ?_); rintro e w4 ⟨rfl, b4⟩; have x4 := (x3.below b4).alloc (.cells #[.int .i64 cb, .bool gb, .string lb, .int .i64 xb] 23); have k4 := four x4; have q4 := on (on (on (on (on (on (on B0.out b1) b2) (alloc_below _ (.cells #[.int .i64 cn, .bool gn, .string ln, .int .i64 xn] 23))) b3) (alloc_below _ (.cells #[.int .i64 ca, .bool ga, .string la, .int .i64 xa] 23))) b4) (alloc_below w4 (.cells #[.int .i64 cb, .bool gb, .string lb, .int .i64 xb] 23)))))
      go_ret
      exact ⟨rfl, q5⟩
    · skip
      go_enter Tryz.func7, Tryz.ntmps7
      go_wp2_with (first
        | (go_at_call 13; (with_reducible refine HA.out.mono ?_); rintro e w1 ⟨rfl, b1⟩; have d1 := D0.out.below b1; have k1 := four d1)
        | (go_at_call 21; first
          | ((with_reducible refine (HN'.out w1).mono ?_); rintro e w2 ⟨rfl, b2⟩; have d2 := (d1.below b2).alloc (.cells #[.int .i64 cn, .bool gn, .string ln, .int .i64 xn] 23); have k2 := four d2; have n2 := Bk.start w2 23 #[.int .i64 cn, .bool gn, .string ln, .int .i64 xn])
          | ((with_reducible refine (HZ'.out _).mono ?_); rintro e w5 ⟨rfl, b5⟩; have y5 := ((Bk.start w4 23 #[.int .i64 cb, .bool gb, .string lb, .int .i64 xb]).below b5).alloc (.cells #[.int .i64 cb, .bool gb, .string lb, .int .i64 xb] 23); have k5 := four y5; have z5 := four (Bk.start w5 23 #[.int .i64 cb, .bool gb, .string lb, .int .i64 xb]); have q5 := on (on (on (on (on (on (on (on (on B0.out b1) b2) (alloc_below _ (.cells #[.int .i64 cn, .bool gn, .string ln, .int .i64 xn] 23))) b3) (alloc_below _ (.cells #[.int .i64 ca, .bool ga, .string la, .int .i64 xa] 23))) b4) (alloc_below _ (.cells #[.int .i64 cb, .bool gb, .string lb, .int .i64 xb] 23))) b5) (alloc_below w5 (.cells #[.int .i64 cb, .bool gb, .string lb, .int .i64 xb] 23))))
        | (go_at_call 11; first
          | ((with_reducible refine (HX'.out _ (((P0.out.below b1).below b2).below (alloc_below _ (.cells #[.int .i64 cn, .bool gn, .string ln, .int .i64 xn] 23)))).mono ?_); rintro e w3 ⟨rfl, b3⟩; have n3 := (n2.below b3).alloc (.cells #[.int .i64 ca, .bool ga, .string la, .int .i64 xa] 23); have k3 := four n3; have x3 := Bk.start w3 23 #[.int .i64 ca, .bool ga, .string la, .int .i64 xa])
          | ((with_reducible refine (HY'.out _ (((((P0.out.below b1).below b2).below (alloc_below _ (.cells #[.int .i64 cn, .bool gn, .string ln, .int .i64 xn] 23))).below b3).below (alloc_below _ (.cells #[.int .i64 ca, .bool ga, .string la, .int .i64 xa] 23)))).mono ?_); rintro e w4 ⟨rfl, b4⟩; have x4 := (x3.below b4).alloc (.cells #[.int .i64 cb, .bool gb, .string lb, .int .i64 xb] 23); have k4 := four x4; have q4 := on (on (on (on (on (on (on B0.out b1) b2) (alloc_below _ (.cells #[.int .i64 cn, .bool gn, .string ln, .int .i64 xn] 23))) b3) (alloc_below _ (.cells #[.int .i64 ca, .bool ga, .string la, .int .i64 xa] 23))) b4) (alloc_below w4 (.cells #[.int .i64 cb, .bool gb, .string lb, .int .i64 xb] 23)))))
      go_ret
      exact ⟨rfl, q5⟩
  · rcases h with ⟨rfl, rfl⟩ | ⟨rfl, rfl, h0⟩ | ⟨rfl, rfl, rfl, rfl, rfl, rfl, rfl⟩
    · skip
      go_enter Tryz.func7, Tryz.ntmps7
      go_wp2_with (first
        | (go_at_call 13; (with_reducible refine HA.out.mono ?_); rintro e w1 ⟨rfl, b1⟩; have d1 := D0.out.below b1; have k1 := four d1)
        | (go_at_call 21; first
          | ((with_reducible refine (HN'.out w1).mono ?_); rintro e w2 ⟨rfl, b2⟩; have d2 := (d1.below b2).alloc (.cells #[.int .i64 cn, .bool gn, .string ln, .int .i64 xn] 23); have k2 := four d2; have n2 := Bk.start w2 23 #[.int .i64 cn, .bool gn, .string ln, .int .i64 xn])
          | ((with_reducible refine (HZ'.out _).mono ?_); rintro e w5 ⟨rfl, b5⟩; have y5 := ((Bk.start w4 23 #[.int .i64 cb, .bool gb, .string lb, .int .i64 xb]).below b5).alloc (.cells #[.int .i64 cz, .bool gz, .string lz, .int .i64 xz] 23); have k5 := four y5; have z5 := four (Bk.start w5 23 #[.int .i64 cz, .bool gz, .string lz, .int .i64 xz]); have q5 := on (on (on (on (on (on (on (on (on B0.out b1) b2) (alloc_below _ (.cells #[.int .i64 cn, .bool gn, .string ln, .int .i64 xn] 23))) b3) (alloc_below _ (.cells #[.int .i64 ca, .bool ga, .string la, .int .i64 xa] 23))) b4) (alloc_below _ (.cells #[.int .i64 cb, .bool gb, .string lb, .int .i64 xb] 23))) b5) (alloc_below w5 (.cells #[.int .i64 cz, .bool gz, .string lz, .int .i64 xz] 23))))
        | (go_at_call 11; first
          | ((with_reducible refine (HX'.out _ (((P0.out.below b1).below b2).below (alloc_below _ (.cells #[.int .i64 cn, .bool gn, .string ln, .int .i64 xn] 23)))).mono ?_); rintro e w3 ⟨rfl, b3⟩; have n3 := (n2.below b3).alloc (.cells #[.int .i64 ca, .bool ga, .string la, .int .i64 xa] 23); have k3 := four n3; have x3 := Bk.start w3 23 #[.int .i64 ca, .bool ga, .string la, .int .i64 xa])
          | ((with_reducible refine (HY'.out _ (((((P0.out.below b1).below b2).below (alloc_below _ (.cells #[.int .i64 cn, .bool gn, .string ln, .int .i64 xn] 23))).below b3).below (alloc_below _ (.cells #[.int .i64 ca, .bool ga, .string la, .int .i64 xa] 23)))).mono ?_); rintro e w4 ⟨rfl, b4⟩; have x4 := (x3.below b4).alloc (.cells #[.int .i64 cb, .bool gb, .string lb, .int .i64 xb] 23); have k4 := four x4; have q4 := on (on (on (on (on (on (on B0.out b1) b2) (alloc_below _ (.cells #[.int .i64 cn, .bool gn, .string ln, .int .i64 xn] 23))) b3) (alloc_below _ (.cells #[.int .i64 ca, .bool ga, .string la, .int .i64 xa] 23))) b4) (alloc_below w4 (.cells #[.int .i64 cb, .bool gb, .string lb, .int .i64 xb] 23)))))
      go_ret
      exact ⟨rfl, q4⟩
    · have h0' := eqB h0
      go_enter Tryz.func7, Tryz.ntmps7
      go_wp2_with (first
        | (go_at_call 13; (with_reducible refine HA.out.mono ?_); rintro e w1 ⟨rfl, b1⟩; have d1 := D0.out.below b1; have k1 := four d1)
        | (go_at_call 21; first
          | ((with_reducible refine (HN'.out w1).mono ?_); rintro e w2 ⟨rfl, b2⟩; have d2 := (d1.below b2).alloc (.cells #[.int .i64 cn, .bool gn, .string ln, .int .i64 xn] 23); have k2 := four d2; have n2 := Bk.start w2 23 #[.int .i64 cn, .bool gn, .string ln, .int .i64 xn])
          | ((with_reducible refine (HZ'.out _).mono ?_); rintro e w5 ⟨rfl, b5⟩; have y5 := ((Bk.start w4 23 #[.int .i64 cb, .bool gb, .string lb, .int .i64 xb]).below b5).alloc (.cells #[.int .i64 cz, .bool gz, .string lz, .int .i64 xz] 23); have k5 := four y5; have z5 := four (Bk.start w5 23 #[.int .i64 cz, .bool gz, .string lz, .int .i64 xz]); have q5 := on (on (on (on (on (on (on (on (on B0.out b1) b2) (alloc_below _ (.cells #[.int .i64 cn, .bool gn, .string ln, .int .i64 xn] 23))) b3) (alloc_below _ (.cells #[.int .i64 ca, .bool ga, .string la, .int .i64 xa] 23))) b4) (alloc_below _ (.cells #[.int .i64 cb, .bool gb, .string lb, .int .i64 xb] 23))) b5) (alloc_below w5 (.cells #[.int .i64 cz, .bool gz, .string lz, .int .i64 xz] 23))))
        | (go_at_call 11; first
          | ((with_reducible refine (HX'.out _ (((P0.out.below b1).below b2).below (alloc_below _ (.cells #[.int .i64 cn, .bool gn, .string ln, .int .i64 xn] 23)))).mono ?_); rintro e w3 ⟨rfl, b3⟩; have n3 := (n2.below b3).alloc (.cells #[.int .i64 ca, .bool ga, .string la, .int .i64 xa] 23); have k3 := four n3; have x3 := Bk.start w3 23 #[.int .i64 ca, .bool ga, .string la, .int .i64 xa])
          | ((with_reducible refine (HY'.out _ (((((P0.out.below b1).below b2).below (alloc_below _ (.cells #[.int .i64 cn, .bool gn, .string ln, .int .i64 xn] 23))).below b3).below (alloc_below _ (.cells #[.int .i64 ca, .bool ga, .string la, .int .i64 xa] 23)))).mono ?_); rintro e w4 ⟨rfl, b4⟩; have x4 := (x3.below b4).alloc (.cells #[.int .i64 cb, .bool gb, .string lb, .int .i64 xb] 23); have k4 := four x4; have q4 := on (on (on (on (on (on (on B0.out b1) b2) (alloc_below _ (.cells #[.int .i64 cn, .bool gn, .string ln, .int .i64 xn] 23))) b3) (alloc_below _ (.cells #[.int .i64 ca, .bool ga, .string la, .int .i64 xa] 23))) b4) (alloc_below w4 (.cells #[.int .i64 cb, .bool gb, .string lb, .int .i64 xb] 23)))))
      go_ret
      exact ⟨rfl, q5⟩
    · skip
      go_enter Tryz.func7, Tryz.ntmps7
      go_wp2_with (first
        | (go_at_call 13; (with_reducible refine HA.out.mono ?_); rintro e w1 ⟨rfl, b1⟩; have d1 := D0.out.below b1; have k1 := four d1)
        | (go_at_call 21; first
          | ((with_reducible refine (HN'.out w1).mono ?_); rintro e w2 ⟨rfl, b2⟩; have d2 := (d1.below b2).alloc (.cells #[.int .i64 cn, .bool gn, .string ln, .int .i64 xn] 23); have k2 := four d2; have n2 := Bk.start w2 23 #[.int .i64 cn, .bool gn, .string ln, .int .i64 xn])
          | ((with_reducible refine (HZ'.out _).mono ?_); rintro e w5 ⟨rfl, b5⟩; have y5 := ((Bk.start w4 23 #[.int .i64 cb, .bool gb, .string lb, .int .i64 xb]).below b5).alloc (.cells #[.int .i64 cb, .bool gb, .string lb, .int .i64 xb] 23); have k5 := four y5; have z5 := four (Bk.start w5 23 #[.int .i64 cb, .bool gb, .string lb, .int .i64 xb]); have q5 := on (on (on (on (on (on (on (on (on B0.out b1) b2) (alloc_below _ (.cells #[.int .i64 cn, .bool gn, .string ln, .int .i64 xn] 23))) b3) (alloc_below _ (.cells #[.int .i64 ca, .bool ga, .string la, .int .i64 xa] 23))) b4) (alloc_below _ (.cells #[.int .i64 cb, .bool gb, .string lb, .int .i64 xb] 23))) b5) (alloc_below w5 (.cells #[.int .i64 cb, .bool gb, .string lb, .int .i64 xb] 23))))
        | (go_at_call 11; first
          | ((with_reducible refine (HX'.out _ (((P0.out.below b1).below b2).below (alloc_below _ (.cells #[.int .i64 cn, .bool gn, .string ln, .int .i64 xn] 23)))).mono ?_); rintro e w3 ⟨rfl, b3⟩; have n3 := (n2.below b3).alloc (.cells #[.int .i64 ca, .bool ga, .string la, .int .i64 xa] 23); have k3 := four n3; have x3 := Bk.start w3 23 #[.int .i64 ca, .bool ga, .string la, .int .i64 xa])
          | ((with_reducible refine (HY'.out _ (((((P0.out.below b1).below b2).below (alloc_below _ (.cells #[.int .i64 cn, .bool gn, .string ln, .int .i64 xn] 23))).below b3).below (alloc_below _ (.cells #[.int .i64 ca, .bool ga, .string la, .int .i64 xa] 23)))).mono ?_); rintro e w4 ⟨rfl, b4⟩; have x4 := (x3.below b4).alloc (.cells #[.int .i64 cb, .bool gb, .string lb, .int .i64 xb] 23); have k4 := four x4; have q4 := on (on (on (on (on (on (on B0.out b1) b2) (alloc_below _ (.cells #[.int .i64 cn, .bool gn, .string ln, .int .i64 xn] 23))) b3) (alloc_below _ (.cells #[.int .i64 ca, .bool ga, .string la, .int .i64 xa] 23))) b4) (alloc_below w4 (.cells #[.int .i64 cb, .bool gb, .string lb, .int .i64 xb] 23)))))
      go_ret
      exact ⟨rfl, q5⟩
  · rcases h with ⟨rfl, rfl⟩ | ⟨rfl, rfl, h0⟩ | ⟨rfl, rfl, rfl, rfl, rfl, rfl, rfl⟩
    · skip
      have m0' := eqB m0
      have m1' := eqB m1
      go_enter Tryz.func7, Tryz.ntmps7
      go_wp2_with (first
        | (go_at_call 13; (with_reducible refine HA.out.mono ?_); rintro e w1 ⟨rfl, b1⟩; have d1 := D0.out.below b1; have k1 := four d1)
        | (go_at_call 21; first
          | ((with_reducible refine (HN'.out w1).mono ?_); rintro e w2 ⟨rfl, b2⟩; have d2 := (d1.below b2).alloc (.cells #[.int .i64 cn, .bool gn, .string ln, .int .i64 xn] 23); have k2 := four d2; have n2 := Bk.start w2 23 #[.int .i64 cn, .bool gn, .string ln, .int .i64 xn])
          | ((with_reducible refine (HZ'.out _).mono ?_); rintro e w5 ⟨rfl, b5⟩; have y5 := ((Bk.start w4 23 #[.int .i64 cb, .bool gb, .string lb, .int .i64 xb]).below b5).alloc (.cells #[.int .i64 cz, .bool gz, .string lz, .int .i64 xz] 23); have k5 := four y5; have z5 := four (Bk.start w5 23 #[.int .i64 cz, .bool gz, .string lz, .int .i64 xz]); have q5 := on (on (on (on (on (on (on (on (on B0.out b1) b2) (alloc_below _ (.cells #[.int .i64 cn, .bool gn, .string ln, .int .i64 xn] 23))) b3) (alloc_below _ (.cells #[.int .i64 ca, .bool ga, .string la, .int .i64 xa] 23))) b4) (alloc_below _ (.cells #[.int .i64 cb, .bool gb, .string lb, .int .i64 xb] 23))) b5) (alloc_below w5 (.cells #[.int .i64 cz, .bool gz, .string lz, .int .i64 xz] 23))))
        | (go_at_call 11; first
          | ((with_reducible refine (HX'.out _ (((P0.out.below b1).below b2).below (alloc_below _ (.cells #[.int .i64 cn, .bool gn, .string ln, .int .i64 xn] 23)))).mono ?_); rintro e w3 ⟨rfl, b3⟩; have n3 := (n2.below b3).alloc (.cells #[.int .i64 ca, .bool ga, .string la, .int .i64 xa] 23); have k3 := four n3; have x3 := Bk.start w3 23 #[.int .i64 ca, .bool ga, .string la, .int .i64 xa])
          | ((with_reducible refine (HY'.out _ (((((P0.out.below b1).below b2).below (alloc_below _ (.cells #[.int .i64 cn, .bool gn, .string ln, .int .i64 xn] 23))).below b3).below (alloc_below _ (.cells #[.int .i64 ca, .bool ga, .string la, .int .i64 xa] 23)))).mono ?_); rintro e w4 ⟨rfl, b4⟩; have x4 := (x3.below b4).alloc (.cells #[.int .i64 cb, .bool gb, .string lb, .int .i64 xb] 23); have k4 := four x4; have q4 := on (on (on (on (on (on (on B0.out b1) b2) (alloc_below _ (.cells #[.int .i64 cn, .bool gn, .string ln, .int .i64 xn] 23))) b3) (alloc_below _ (.cells #[.int .i64 ca, .bool ga, .string la, .int .i64 xa] 23))) b4) (alloc_below w4 (.cells #[.int .i64 cb, .bool gb, .string lb, .int .i64 xb] 23)))))
      go_ret
      exact ⟨rfl, q4⟩
    · have h0' := eqB h0
      have m0' := eqB m0
      have m1' := eqB m1
      go_enter Tryz.func7, Tryz.ntmps7
      go_wp2_with (first
        | (go_at_call 13; (with_reducible refine HA.out.mono ?_); rintro e w1 ⟨rfl, b1⟩; have d1 := D0.out.below b1; have k1 := four d1)
        | (go_at_call 21; first
          | ((with_reducible refine (HN'.out w1).mono ?_); rintro e w2 ⟨rfl, b2⟩; have d2 := (d1.below b2).alloc (.cells #[.int .i64 cn, .bool gn, .string ln, .int .i64 xn] 23); have k2 := four d2; have n2 := Bk.start w2 23 #[.int .i64 cn, .bool gn, .string ln, .int .i64 xn])
          | ((with_reducible refine (HZ'.out _).mono ?_); rintro e w5 ⟨rfl, b5⟩; have y5 := ((Bk.start w4 23 #[.int .i64 cb, .bool gb, .string lb, .int .i64 xb]).below b5).alloc (.cells #[.int .i64 cz, .bool gz, .string lz, .int .i64 xz] 23); have k5 := four y5; have z5 := four (Bk.start w5 23 #[.int .i64 cz, .bool gz, .string lz, .int .i64 xz]); have q5 := on (on (on (on (on (on (on (on (on B0.out b1) b2) (alloc_below _ (.cells #[.int .i64 cn, .bool gn, .string ln, .int .i64 xn] 23))) b3) (alloc_below _ (.cells #[.int .i64 ca, .bool ga, .string la, .int .i64 xa] 23))) b4) (alloc_below _ (.cells #[.int .i64 cb, .bool gb, .string lb, .int .i64 xb] 23))) b5) (alloc_below w5 (.cells #[.int .i64 cz, .bool gz, .string lz, .int .i64 xz] 23))))
        | (go_at_call 11; first
          | ((with_reducible refine (HX'.out _ (((P0.out.below b1).below b2).below (alloc_below _ (.cells #[.int .i64 cn, .bool gn, .string ln, .int .i64 xn] 23)))).mono ?_); rintro e w3 ⟨rfl, b3⟩; have n3 := (n2.below b3).alloc (.cells #[.int .i64 ca, .bool ga, .string la, .int .i64 xa] 23); have k3 := four n3; have x3 := Bk.start w3 23 #[.int .i64 ca, .bool ga, .string la, .int .i64 xa])
          | ((with_reducible refine (HY'.out _ (((((P0.out.below b1).below b2).below (alloc_below _ (.cells #[.int .i64 cn, .bool gn, .string ln, .int .i64 xn] 23))).below b3).below (alloc_below _ (.cells #[.int .i64 ca, .bool ga, .string la, .int .i64 xa] 23)))).mono ?_); rintro e w4 ⟨rfl, b4⟩; have x4 := (x3.below b4).alloc (.cells #[.int .i64 cb, .bool gb, .string lb, .int .i64 xb] 23); have k4 := four x4; have q4 := on (on (on (on (on (on (on B0.out b1) b2) (alloc_below _ (.cells #[.int .i64 cn, .bool gn, .string ln, .int .i64 xn] 23))) b3) (alloc_below _ (.cells #[.int .i64 ca, .bool ga, .string la, .int .i64 xa] 23))) b4) (alloc_below w4 (.cells #[.int .i64 cb, .bool gb, .string lb, .int .i64 xb] 23)))))
      go_ret
      exact ⟨rfl, q5⟩
    · skip
      have m0' := eqB m0
      have m1' := eqB m1
      go_enter Tryz.func7, Tryz.ntmps7
      go_wp2_with (first
        | (go_at_call 13; (with_reducible refine HA.out.mono ?_); rintro e w1 ⟨rfl, b1⟩; have d1 := D0.out.below b1; have k1 := four d1)
        | (go_at_call 21; first
          | ((with_reducible refine (HN'.out w1).mono ?_); rintro e w2 ⟨rfl, b2⟩; have d2 := (d1.below b2).alloc (.cells #[.int .i64 cn, .bool gn, .string ln, .int .i64 xn] 23); have k2 := four d2; have n2 := Bk.start w2 23 #[.int .i64 cn, .bool gn, .string ln, .int .i64 xn])
          | ((with_reducible refine (HZ'.out _).mono ?_); rintro e w5 ⟨rfl, b5⟩; have y5 := ((Bk.start w4 23 #[.int .i64 cb, .bool gb, .string lb, .int .i64 xb]).below b5).alloc (.cells #[.int .i64 cb, .bool gb, .string lb, .int .i64 xb] 23); have k5 := four y5; have z5 := four (Bk.start w5 23 #[.int .i64 cb, .bool gb, .string lb, .int .i64 xb]); have q5 := on (on (on (on (on (on (on (on (on B0.out b1) b2) (alloc_below _ (.cells #[.int .i64 cn, .bool gn, .string ln, .int .i64 xn] 23))) b3) (alloc_below _ (.cells #[.int .i64 ca, .bool ga, .string la, .int .i64 xa] 23))) b4) (alloc_below _ (.cells #[.int .i64 cb, .bool gb, .string lb, .int .i64 xb] 23))) b5) (alloc_below w5 (.cells #[.int .i64 cb, .bool gb, .string lb, .int .i64 xb] 23))))
        | (go_at_call 11; first
          | ((with_reducible refine (HX'.out _ (((P0.out.below b1).below b2).below (alloc_below _ (.cells #[.int .i64 cn, .bool gn, .string ln, .int .i64 xn] 23)))).mono ?_); rintro e w3 ⟨rfl, b3⟩; have n3 := (n2.below b3).alloc (.cells #[.int .i64 ca, .bool ga, .string la, .int .i64 xa] 23); have k3 := four n3; have x3 := Bk.start w3 23 #[.int .i64 ca, .bool ga, .string la, .int .i64 xa])
          | ((with_reducible refine (HY'.out _ (((((P0.out.below b1).below b2).below (alloc_below _ (.cells #[.int .i64 cn, .bool gn, .string ln, .int .i64 xn] 23))).below b3).below (alloc_below _ (.cells #[.int .i64 ca, .bool ga, .string la, .int .i64 xa] 23)))).mono ?_); rintro e w4 ⟨rfl, b4⟩; have x4 := (x3.below b4).alloc (.cells #[.int .i64 cb, .bool gb, .string lb, .int .i64 xb] 23); have k4 := four x4; have q4 := on (on (on (on (on (on (on B0.out b1) b2) (alloc_below _ (.cells #[.int .i64 cn, .bool gn, .string ln, .int .i64 xn] 23))) b3) (alloc_below _ (.cells #[.int .i64 ca, .bool ga, .string la, .int .i64 xa] 23))) b4) (alloc_below w4 (.cells #[.int .i64 cb, .bool gb, .string lb, .int .i64 xb] 23)))))
      go_ret
      exact ⟨rfl, q5⟩
theorem str_of {c : Int} {g : Bool} {l : List UInt8} {x : Int} {c' : Int} {g' : Bool} {l' : ByteArray} {x' : Int} (h : dec c g l x = #[.int .i64 c', .bool g', .string l', .int .i64 x']) : l'.data.toList = l := by
  unfold dec str at h
  obtain ⟨_, _, h2, _⟩ : c = c' ∧ g = g' ∧ (⟨l.toArray⟩ : ByteArray) = l' ∧ x = x' := by simpa using h
  rw [← h2]
theorem told_len {g : Bool} {V : Nat} {E : Int} {p : List UInt8 × Int} (h : told g V E = some p) : p.1.length ≤ 1000 := by
  rcases told_may (l := p.1) (x := p.2) h with ⟨e, _⟩ | ⟨_, _, hf⟩
  · rw [e]; decide
  · exact hf.1
theorem size_le_at {c : Int} {g : Bool} {l : List UInt8} {x place mode : Int} (hl : l.length ≤ 9223372036854775807) {c' : Int} {g' : Bool} {l' : ByteArray} {x' : Int} (h : (atV c g l x place mode).1 = #[.int .i64 c', .bool g', .string l', .int .i64 x']) : l'.data.toList.length ≤ 9223372036854775807 := by
  unfold atV at h
  split at h
  · rw [str_of h]; decide
  · split at h
    · rw [str_of h]; decide
    · unfold fin at h
      split at h
      · rw [str_of h]; exact hl
      · cases ho : pw mode.toNat g l x place with
        | none => rw [ho] at h; rw [str_of (show dec 0 false [] 0 = _ from h)]; decide
        | some p =>
          rw [ho] at h
          rw [str_of (show dec 0 g p.1 p.2 = _ from h)]
          have := told_len (show told g (rto mode.toNat g (nv 0 l) x 1 place) place = some p from ho)
          omega
theorem roundSigns_calls (c : Int) (g : Bool) (l : List UInt8) (x place mode : Int) (w : World) (hp : Pow w) (hl : l.length ≤ 9223372036854775807) :
    Calls Tryz.prog 7 #[.agg (dec c g l x), .int .i64 place, .int .i64 mode] w fun e w' => e = .returned (.bool true) ∧ Below w.heap.size w w' := by
  have HN := fun w1 => neg_calls c g l x w1 hl
  have HX := fun w1 hp => at_calls c g l x place mode w1 hp hl
  unfold Res at HN HX
  cases hm : mayB c g l x
  · have eN : ngV c g l x = (dec 0 false [] 0, 52) := by unfold ngV; rw [hm, if_pos rfl]
    have eA : atV c g l x place mode = (dec 0 false [] 0, 52) := by
      unfold atV
      rw [hm]
      have : askE false mode = 52 := rfl
      rw [this, if_pos (by decide)]
    rw [eN] at HN
    rw [eA] at HX
    have HY := fun w1 hp => at_calls 0 false [] 0 place (oth mode) w1 hp (by decide)
    have HZ := fun w1 => neg_calls 0 false [] 0 w1 (by decide)
    unfold Res at HY HZ
    obtain ⟨cb, gb, lb, xb, ey⟩ := atV_four 0 false [] 0 place (oth mode)
    obtain ⟨cz, gz, lz, xz, ez⟩ := ngV_four 0 false [] 0
    rw [ey] at HY
    rw [ez] at HZ
    exact signs_walk c g ⟨l.toArray⟩ x place mode (oth mode) w hp 0 false ⟨#[]⟩ 0 52 0 false ⟨#[]⟩ 0 52 cb gb lb xb _ cz gz lz xz _ rfl HN HX HY HZ (.inl ⟨rfl, rfl⟩)
  · have eN : ngV c g l x = (dec c (ngG c g) l x, 0) := by unfold ngV; rw [hm, if_neg (by decide)]
    rw [eN] at HN
    have HY := fun w1 hp => at_calls c (ngG c g) l x place (oth mode) w1 hp hl
    unfold Res at HY
    obtain ⟨s1, s2⟩ := signs_plain (place := place) (mode := mode) hm
    rw [s1] at HY
    by_cases e0 : (atV c g l x place mode).2 = 0
    · obtain ⟨c1, g1, l1, x1, a1, a2, a3⟩ := s2 e0
      have hl1 : l1.length ≤ 9223372036854775807 := by
        rcases (mayB_iff ..).1 a2 with ⟨rfl, _⟩ | ⟨_, _, hf⟩
        · decide
        · have := hf.1; omega
      have HZ := fun w1 => neg_calls c1 g1 l1 x1 w1 hl1
      unfold Res at HZ
      rw [show ngV c1 g1 l1 x1 = (dec c1 (ngG c1 g1) l1 x1, 0) by unfold ngV; rw [a2, if_neg (by decide)]] at HZ
      rw [a1, e0] at HX
      rw [a3, e0] at HY
      exact signs_walk c g ⟨l.toArray⟩ x place mode (oth mode) w hp c (ngG c g) ⟨l.toArray⟩ x 0 c1 g1 ⟨l1.toArray⟩ x1 0 c1 (ngG c1 g1) ⟨l1.toArray⟩ x1 0 c1 (ngG c1 g1) ⟨l1.toArray⟩ x1 0 rfl HN HX HY HZ (.inr (.inr ⟨rfl, rfl, rfl, rfl, rfl, rfl, rfl⟩))
    · obtain ⟨ca, ga, la, xa, ea⟩ := atV_four c g l x place mode
      obtain ⟨cb, gb, lb, xb, eb⟩ := atV_four c (ngG c g) l x place (oth mode)
      rw [ea] at HX
      rw [eb] at HY
      have HZ := fun w1 => neg_calls ca ga la.data.toList xa w1 (size_le_at hl ea)
      unfold Res at HZ
      obtain ⟨cz, gz, lz, xz, ez⟩ := ngV_four ca ga la.data.toList xa
      rw [ez] at HZ
      exact signs_walk c g ⟨l.toArray⟩ x place mode (oth mode) w hp c (ngG c g) ⟨l.toArray⟩ x 0 ca ga la xa _ cb gb lb xb _ cz gz lz xz _ rfl HN HX HY HZ (.inr (.inl ⟨rfl, rfl, e0⟩))
end Go.Proofs.YtllpggdmkdgggaaGreatDoor.Dc
