/- Texts of one layer, joined: Ds, Dt. -/
import Derived.Test.YtfddokfnplehkaaGreatDoorGN
set_option linter.unusedVariables false
set_option linter.unusedSimpArgs false
set_option linter.unusedSectionVars false
/- Layer 6: At joined; round.Digits. -/
set_option linter.unusedSimpArgs false
set_option linter.unusedVariables false
namespace Go.Proofs.YtfddokfnplehkaaGreatDoor.Dc
open Go.RowKit Go.Proofs.YtfddokfnplehkaaGreatDoor.Dig Go.Proofs.YtfddokfnplehkaaGreatDoor.W Go.Proofs.YtfddokfnplehkaaGreatDoor.Nat Go.Proofs.YtfddokfnplehkaaGreatDoor.Wh Go.Proofs.YtfddokfnplehkaaGreatDoor.Td Go.Proofs.YtfddokfnplehkaaGreatDoor.Bu Go.Proofs.YtfddokfnplehkaaGreatDoor.Tx Go.Proofs.YtfddokfnplehkaaGreatDoor.Sp Go.Proofs.YtfddokfnplehkaaGreatDoor.Rd
open Go.Proofs.YtfddokfnplehkaaGreatDoor.Rf (V V_two V_pos)

set_option maxHeartbeats 8000000 in
set_option maxRecDepth 100000 in
theorem dig_calls (c : Int) (g : Bool) (l : List UInt8) (x n mode : Int) (w : World) (hp : Pow w) (hl : l.length ≤ 9223372036854775807) :
    Calls Tryz.prog 59 #[.agg (dec c g l x), .int .i64 n, .int .i64 mode] w (Res w (dgV c g l x n mode)) := by
  have T := TV.start w (.int .i64 c) (.bool g) (.string ⟨l.toArray⟩) (.int .i64 x)
  have HT := Lib.hid T
  have HW := Lib.hid (hp.below T.bl)
  have HA := Lib.hid (fun w1 => asked_calls c g l x mode w1 hl)
  unfold dgV Res
  rcases ask_cases (mayB c g l x) mode with ⟨e0, hm⟩ | ⟨e0, hm, hmo⟩ | ⟨e0, hm, m0, m8⟩
  · rw [if_pos (by rw [e0]; decide), e0]
    rw [e0] at HA
    unfold dec str at *
    dsimp only
    generalize (⟨l.toArray⟩ : ByteArray) = S at *
    clear T hp
    go_enter Tryz.func59, Tryz.ntmps59
    go_wp2_with (go_at_call 53; (with_reducible refine (HA.out _).mono ?_); rintro e w1 ⟨rfl, b1⟩; have x1 := HT.out.below b1; have k1 := x1.keep; have q1 := x1.res)
    obtain ⟨z1, z2⟩ := x1.ret (.int .i64 0) (.bool false) (.string ⟨#[]⟩) (.int .i64 0)
    exact bodyPost_ret (res_bk_t rfl _ z1 rfl Tryz.underlying23 rfl (by kernel_rfl)) rfl ⟨rfl, z2⟩
  · rw [if_pos (by rw [e0]; decide), e0]
    rw [e0] at HA
    unfold dec str at *
    dsimp only
    generalize (⟨l.toArray⟩ : ByteArray) = S at *
    clear T hp hmo
    go_enter Tryz.func59, Tryz.ntmps59
    go_wp2_with (go_at_call 53; (with_reducible refine (HA.out _).mono ?_); rintro e w1 ⟨rfl, b1⟩; have x1 := HT.out.below b1; have k1 := x1.keep; have q1 := x1.res)
    obtain ⟨z1, z2⟩ := x1.ret (.int .i64 0) (.bool false) (.string ⟨#[]⟩) (.int .i64 0)
    exact bodyPost_ret (res_bk_t rfl _ z1 rfl Tryz.underlying23 rfl (by kernel_rfl)) rfl ⟨rfl, z2⟩
  · rw [if_neg (by rw [e0]; decide)]
    rw [e0] at HA
    by_cases hpl : n < 1 ∨ 1000 < n
    · rw [if_pos hpl]
      unfold dec str at *
      dsimp only
      generalize (⟨l.toArray⟩ : ByteArray) = S at *
      clear T hp
      by_cases hp1 : n < 1
      · have d1 := decide_eq_true hp1
        clear hpl
        go_enter Tryz.func59, Tryz.ntmps59
        go_wp2_with (go_at_call 53; (with_reducible refine (HA.out _).mono ?_); rintro e w1 ⟨rfl, b1⟩; have x1 := HT.out.below b1; have k1 := x1.keep; have q1 := x1.res)
        obtain ⟨z1, z2⟩ := x1.ret (.int .i64 0) (.bool false) (.string ⟨#[]⟩) (.int .i64 0)
        exact bodyPost_ret (res_bk_t rfl _ z1 rfl Tryz.underlying23 rfl (by kernel_rfl)) rfl ⟨rfl, z2⟩
      · have d1 := decide_eq_false hp1
        have hp2 : 1000 < n := by omega
        have d2 := decide_eq_true hp2
        clear hpl
        go_enter Tryz.func59, Tryz.ntmps59
        go_wp2_with (go_at_call 53; (with_reducible refine (HA.out _).mono ?_); rintro e w1 ⟨rfl, b1⟩; have x1 := HT.out.below b1; have k1 := x1.keep; have q1 := x1.res)
        obtain ⟨z1, z2⟩ := x1.ret (.int .i64 0) (.bool false) (.string ⟨#[]⟩) (.int .i64 0)
        exact bodyPost_ret (res_bk_t rfl _ z1 rfl Tryz.underlying23 rfl (by kernel_rfl)) rfl ⟨rfl, z2⟩
    · rw [if_neg hpl]
      have hp1 : ¬ n < 1 := by omega
      have hp2 : ¬ 1000 < n := by omega
      have d1 := decide_eq_false hp1
      have d2 := decide_eq_false hp2
      unfold fin
      by_cases h0 : l = []
      · rw [if_pos h0]
        obtain ⟨e1, e2⟩ := empS h0
        clear h0
        unfold dec str at *
        dsimp only
        generalize (⟨l.toArray⟩ : ByteArray) = S at *
        clear T hp hpl
        go_enter Tryz.func59, Tryz.ntmps59
        go_wp2_with (go_at_call 53; (with_reducible refine (HA.out _).mono ?_); rintro e w1 ⟨rfl, b1⟩; have x1 := HT.out.below b1; have k1 := x1.keep; have q1 := x1.res)
        obtain ⟨z1, z2⟩ := x1.ret (.int .i64 c) (.bool g) (.string S) (.int .i64 x)
        exact bodyPost_ret (res_bk_t rfl _ z1 rfl Tryz.underlying23 rfl (by kernel_rfl)) rfl ⟨rfl, z2⟩
      · rw [if_neg h0]
        obtain ⟨rfl, hF, hf⟩ := may_str hm h0
        obtain ⟨mo, rfl⟩ : ∃ mo : Nat, mode = mo := ⟨mode.toNat, by omega⟩
        obtain ⟨f1, f2, f3⟩ := hf
        have HPW := Lib.hid (fun w1 hp => power_calls (mode := mo) (by omega) g l x ((l.length : Int) + x - n) w1 hp hF ⟨f1, f2, f3⟩ (by omega))
        have HPL := Lib.hid (fun w1 => place_calls g l x w1 hF ⟨f1, f2, f3⟩)
        have hpos := hF.len
        have hwr : IntKind.i64.wrap ((l.length : Int) + x - n) = (l.length : Int) + x - n := by rw [IntKind.wrap_i64]; omega
        rw [← size_of l] at hpos
        obtain ⟨e1, e2⟩ := emp hpos
        rw [show (mo : Int).toNat = mo by omega]
        unfold Ans at HPW
        obtain ⟨g', L', x', e4⟩ := oc_four g (pw mo g l x ((l.length : Int) + x - n))
        rw [e4] at HPW ⊢
        generalize oe (pw mo g l x ((l.length : Int) + x - n)) = er at *
        generalize (l.length : Int) + x = pl at *
        unfold dec str at *
        dsimp only
        generalize (⟨l.toArray⟩ : ByteArray) = S at *
        clear T hp hpl e4 h0 hF f1 f2 f3 hpos hm
        go_enter Tryz.func59, Tryz.ntmps59
        go_wp2_with (go_at_call 53; (with_reducible refine (HA.out _).mono ?_); rintro e w1 ⟨rfl, b1⟩; have x1 := HT.out.below b1; have k1 := x1.keep)
        have zf := x1.drew
        have kf := zf.keep
        have pf := (HW.out.below b1).below (Below.refl _ _).drew
        clear k1
        go_region_held3 (fun w' => w'.cell? ⟨w.heap.size, 0, none⟩ = some (.int .i64 0) ∧ w'.cell? ⟨w.heap.size, 1, none⟩ = some (.bool g) ∧ w'.cell? ⟨w.heap.size, 2, none⟩ = some (.string S) ∧ w'.cell? ⟨w.heap.size, 3, none⟩ = some (.int .i64 x))
          (first
            | (with_reducible exact kf)
            | (with_reducible exact k3)
            | (with_reducible exact k4)
            | (with_reducible exact f4))
          (first
            | (go_at_call 93; (with_reducible refine (HPL.out _).mono ?_); rintro e w3 ⟨rfl, b3⟩; have z3 := zf.below b3; have k3 := z3.keep)
            | (go_at_call 92; (with_reducible refine (HPW.out _ (pf.below b3)).mono ?_); rintro e w4 ⟨rfl, b4⟩; have z4 := z3.below b4; have k4 := z4.keep; have f4 := z4.fars (.int .i64 0) (.bool g') (.string L') (.int .i64 x'); have q4 := z4.res))
        go_wp2
        obtain ⟨z1, z2⟩ := z4.ret (.int .i64 0) (.bool g') (.string L') (.int .i64 x')
        exact bodyPost_ret (res_bk_t rfl _ z1 rfl Tryz.underlying23 rfl (by kernel_rfl)) rfl ⟨rfl, z2⟩
end Go.Proofs.YtfddokfnplehkaaGreatDoor.Dc

/- Layer 6: round.Step. -/
set_option linter.unusedSimpArgs false
set_option linter.unusedVariables false
namespace Go.Proofs.YtfddokfnplehkaaGreatDoor.Dc
open Go.RowKit Go.Proofs.YtfddokfnplehkaaGreatDoor.Dig Go.Proofs.YtfddokfnplehkaaGreatDoor.W Go.Proofs.YtfddokfnplehkaaGreatDoor.Nat Go.Proofs.YtfddokfnplehkaaGreatDoor.Wh Go.Proofs.YtfddokfnplehkaaGreatDoor.Td Go.Proofs.YtfddokfnplehkaaGreatDoor.Bu Go.Proofs.YtfddokfnplehkaaGreatDoor.Tx Go.Proofs.YtfddokfnplehkaaGreatDoor.Sp Go.Proofs.YtfddokfnplehkaaGreatDoor.Rd
open Go.Proofs.YtfddokfnplehkaaGreatDoor.Rf (V V_two V_pos)

/-- two boxes of four cells and the result's cell -/
structure TS (w W : World) (a0 a1 a2 a3 b0 b1 b2 b3 : Value) : Prop where
  a : Bk W w.heap.size 23 #[a0, a1, a2, a3]
  b : Bk W (w.heap.size + 1) 23 #[b0, b1, b2, b3]
  r : Bk W (w.heap.size + 1 + 1) 23 #[.int .i64 0, .bool false, .string ⟨#[]⟩, .int .i64 0]
  bl : Below w.heap.size w W
def KS (w W : World) (a0 a1 a2 a3 b0 b1 b2 b3 : Value) : Prop :=
  W.cell? ⟨w.heap.size, 0, none⟩ = some a0 ∧ W.cell? ⟨w.heap.size, 1, none⟩ = some a1 ∧ W.cell? ⟨w.heap.size, 2, none⟩ = some a2 ∧ W.cell? ⟨w.heap.size, 3, none⟩ = some a3 ∧
  W.cell? ⟨w.heap.size + 1, 0, none⟩ = some b0 ∧ W.cell? ⟨w.heap.size + 1, 1, none⟩ = some b1 ∧ W.cell? ⟨w.heap.size + 1, 2, none⟩ = some b2 ∧ W.cell? ⟨w.heap.size + 1, 3, none⟩ = some b3
section
variable {w W W' : World} {a0 a1 a2 a3 b0 b1 b2 b3 : Value}
theorem TS.start (w : World) (a0 a1 a2 a3 b0 b1 b2 b3 : Value) : TS w (((w.alloc (.cells #[a0, a1, a2, a3] 23)).alloc (.cells #[b0, b1, b2, b3] 23)).alloc (.cells #[.int .i64 0, .bool false, .string ⟨#[]⟩, .int .i64 0] 23)) a0 a1 a2 a3 b0 b1 b2 b3 := by
  obtain ⟨h1, h2, h3, h4⟩ := bk_three w #[a0, a1, a2, a3] #[b0, b1, b2, b3] #[.int .i64 0, .bool false, .string ⟨#[]⟩, .int .i64 0] 23 23 23
  exact ⟨h1, h2, h3, h4⟩
theorem TS.below (h : TS w W a0 a1 a2 a3 b0 b1 b2 b3) (hb : Below W.heap.size W W') : TS w W' a0 a1 a2 a3 b0 b1 b2 b3 := ⟨h.a.below hb, h.b.below hb, h.r.below hb, on h.bl hb⟩
theorem TS.drew (h : TS w W a0 a1 a2 a3 b0 b1 b2 b3) : TS w W.drew a0 a1 a2 a3 b0 b1 b2 b3 := ⟨h.a.drew, h.b.drew, h.r.drew, h.bl.drew⟩
theorem TS.alloc (h : TS w W a0 a1 a2 a3 b0 b1 b2 b3) (o : Obj) : TS w (W.alloc o) a0 a1 a2 a3 b0 b1 b2 b3 := h.below (alloc_below _ _)
theorem TS.keep (h : TS w W a0 a1 a2 a3 b0 b1 b2 b3) : KS w W a0 a1 a2 a3 b0 b1 b2 b3 := ⟨h.a.at_ 0 rfl, h.a.at_ 1 rfl, h.a.at_ 2 rfl, h.a.at_ 3 rfl, h.b.at_ 0 rfl, h.b.at_ 1 rfl, h.b.at_ 2 rfl, h.b.at_ 3 rfl⟩
theorem TS.res (h : TS w W a0 a1 a2 a3 b0 b1 b2 b3) : W.cell? ⟨w.heap.size + 1 + 1, 0, none⟩ = some (.int .i64 0) ∧ W.cell? ⟨w.heap.size + 1 + 1, 1, none⟩ = some (.bool false) ∧ W.cell? ⟨w.heap.size + 1 + 1, 2, none⟩ = some (.string ⟨#[]⟩) ∧ W.cell? ⟨w.heap.size + 1 + 1, 3, none⟩ = some (.int .i64 0) ∧
    W.frozen? ⟨w.heap.size + 1 + 1, 0, none⟩ = false ∧ W.frozen? ⟨w.heap.size + 1 + 1, 1, none⟩ = false ∧ W.frozen? ⟨w.heap.size + 1 + 1, 2, none⟩ = false ∧ W.frozen? ⟨w.heap.size + 1 + 1, 3, none⟩ = false :=
  ⟨h.r.at_ 0 rfl, h.r.at_ 1 rfl, h.r.at_ 2 rfl, h.r.at_ 3 rfl, h.r.fr 0, h.r.fr 1, h.r.fr 2, h.r.fr 3⟩
theorem TS.ret (h : TS w W a0 a1 a2 a3 b0 b1 b2 b3) (a b c d : Value) : Bk ((((W.setCell ⟨w.heap.size + 1 + 1, 0, none⟩ a).setCell ⟨w.heap.size + 1 + 1, 1, none⟩ b).setCell ⟨w.heap.size + 1 + 1, 2, none⟩ c).setCell ⟨w.heap.size + 1 + 1, 3, none⟩ d) (w.heap.size + 1 + 1) 23 #[a, b, c, d] ∧ Below w.heap.size w ((((W.setCell ⟨w.heap.size + 1 + 1, 0, none⟩ a).setCell ⟨w.heap.size + 1 + 1, 1, none⟩ b).setCell ⟨w.heap.size + 1 + 1, 2, none⟩ c).setCell ⟨w.heap.size + 1 + 1, 3, none⟩ d) :=
  ⟨h.r.set4 a b c d rfl, below_set4 h.bl (by omega) a b c d⟩
theorem TS.fars (h : TS w W a0 a1 a2 a3 b0 b1 b2 b3) (a b c d : Value) : KS w ((((W.setCell ⟨w.heap.size + 1 + 1, 0, none⟩ a).setCell ⟨w.heap.size + 1 + 1, 1, none⟩ b).setCell ⟨w.heap.size + 1 + 1, 2, none⟩ c).setCell ⟨w.heap.size + 1 + 1, 3, none⟩ d) a0 a1 a2 a3 b0 b1 b2 b3 := by
  have k : ∀ {V : World} {G : Nat} {cs : Array Value} (p : Addr) (v : Value), p.block ≠ G → Bk V G 23 cs → Bk (V.setCell p v) G 23 cs := fun p v hne hk => hk.far v (fun e => hne e.symm)
  have n1 : ∀ j, (⟨w.heap.size + 1 + 1, j, none⟩ : Addr).block ≠ w.heap.size := fun j => by show w.heap.size + 1 + 1 ≠ w.heap.size; omega
  have n2 : ∀ j, (⟨w.heap.size + 1 + 1, j, none⟩ : Addr).block ≠ w.heap.size + 1 := fun j => by show w.heap.size + 1 + 1 ≠ w.heap.size + 1; omega
  have h1 := k _ d (n1 3) (k _ c (n1 2) (k _ b (n1 1) (k _ a (n1 0) h.a)))
  have h2 := k _ d (n2 3) (k _ c (n2 2) (k _ b (n2 1) (k _ a (n2 0) h.b)))
  exact ⟨h1.at_ 0 rfl, h1.at_ 1 rfl, h1.at_ 2 rfl, h1.at_ 3 rfl, h2.at_ 0 rfl, h2.at_ 1 rfl, h2.at_ 2 rfl, h2.at_ 3 rfl⟩
end
def stV (c : Int) (g : Bool) (l : List UInt8) (x : Int) (c' : Int) (g' : Bool) (l' : List UInt8) (x' mode : Int) : Array Value × Int :=
  if mayB c' g' l' x' = false then (dec 0 false [] 0, 52) else if askE (mayB c g l x) mode ≠ 0 then (dec 0 false [] 0, askE (mayB c g l x) mode)
  else if l' = [] ∨ g' = true ∨ 32 < l'.length then (dec 0 false [] 0, 62) else if l = [] then (dec c g l x, 0)
  else (oc g (told g (rto mode.toNat g (nv 0 l) x (nv 0 l') x' * nv 0 l') x'), oe (told g (rto mode.toNat g (nv 0 l) x (nv 0 l') x' * nv 0 l') x'))
set_option maxHeartbeats 8000000 in
set_option maxRecDepth 100000 in
theorem step_calls (c : Int) (g : Bool) (l : List UInt8) (x : Int) (c' : Int) (g' : Bool) (l' : List UInt8) (x' mode : Int) (w : World) (hp : Pow w) (hl : l.length ≤ 9223372036854775807) (hl' : l'.length ≤ 9223372036854775807) :
    Calls Tryz.prog 36 #[.agg (dec c g l x), .agg (dec c' g' l' x'), .int .i64 mode] w (Res w (stV c g l x c' g' l' x' mode)) := by
  have T := TS.start w (.int .i64 c) (.bool g) (.string ⟨l.toArray⟩) (.int .i64 x) (.int .i64 c') (.bool g') (.string ⟨l'.toArray⟩) (.int .i64 x')
  have HT := Lib.hid T
  have HW := Lib.hid (hp.below T.bl)
  have HA := Lib.hid (fun w1 => asked_calls c g l x mode w1 hl)
  have HM := Lib.hid (fun w1 => dmay_calls c' g' l' x' w1 hl')
  unfold stV Res
  cases hms : mayB c' g' l' x'
  · rw [if_pos rfl]
    rw [hms] at HM
    generalize askE (mayB c g l x) mode = ae at *
    unfold dec str at *
    dsimp only
    generalize (⟨l.toArray⟩ : ByteArray) = S at *
    generalize (⟨l'.toArray⟩ : ByteArray) = S' at *
    clear T hp
    go_enter Tryz.func36, Tryz.ntmps36
    go_wp2_with (first
      | (go_at_call 53; (with_reducible refine (HA.out _).mono ?_); rintro e w1 ⟨rfl, b1⟩; have x1 := HT.out.below b1; have k1 := x1.keep; unfold KS at k1)
      | (go_at_call 54; (with_reducible refine (HM.out w1).mono ?_); rintro e w2 ⟨rfl, b2⟩; have x2 := x1.below b2; have k2 := x2.keep; unfold KS at k2; have q2 := x2.res))
    obtain ⟨z1, z2⟩ := x2.ret (.int .i64 0) (.bool false) (.string ⟨#[]⟩) (.int .i64 0)
    exact bodyPost_ret (res_bk_t rfl _ z1 rfl Tryz.underlying23 rfl (by kernel_rfl)) rfl ⟨rfl, z2⟩
  · rw [if_neg (by decide)]
    rw [hms] at HM
    rcases ask_cases (mayB c g l x) mode with ⟨e0, hm⟩ | ⟨e0, hm, hmo⟩ | ⟨e0, hm, m0, m8⟩
    · rw [if_pos (by rw [e0]; decide), e0]
      rw [e0] at HA
      unfold dec str at *
      dsimp only
      generalize (⟨l.toArray⟩ : ByteArray) = S at *
      generalize (⟨l'.toArray⟩ : ByteArray) = S' at *
      clear T hp
      go_enter Tryz.func36, Tryz.ntmps36
      go_wp2_with (first
        | (go_at_call 53; (with_reducible refine (HA.out _).mono ?_); rintro e w1 ⟨rfl, b1⟩; have x1 := HT.out.below b1; have k1 := x1.keep; unfold KS at k1)
        | (go_at_call 54; (with_reducible refine (HM.out w1).mono ?_); rintro e w2 ⟨rfl, b2⟩; have x2 := x1.below b2; have k2 := x2.keep; unfold KS at k2; have q2 := x2.res))
      obtain ⟨z1, z2⟩ := x2.ret (.int .i64 0) (.bool false) (.string ⟨#[]⟩) (.int .i64 0)
      exact bodyPost_ret (res_bk_t rfl _ z1 rfl Tryz.underlying23 rfl (by kernel_rfl)) rfl ⟨rfl, z2⟩
    · rw [if_pos (by rw [e0]; decide), e0]
      rw [e0] at HA
      unfold dec str at *
      dsimp only
      generalize (⟨l.toArray⟩ : ByteArray) = S at *
      generalize (⟨l'.toArray⟩ : ByteArray) = S' at *
      clear T hp hmo
      go_enter Tryz.func36, Tryz.ntmps36
      go_wp2_with (first
        | (go_at_call 53; (with_reducible refine (HA.out _).mono ?_); rintro e w1 ⟨rfl, b1⟩; have x1 := HT.out.below b1; have k1 := x1.keep; unfold KS at k1)
        | (go_at_call 54; (with_reducible refine (HM.out w1).mono ?_); rintro e w2 ⟨rfl, b2⟩; have x2 := x1.below b2; have k2 := x2.keep; unfold KS at k2; have q2 := x2.res))
      obtain ⟨z1, z2⟩ := x2.ret (.int .i64 0) (.bool false) (.string ⟨#[]⟩) (.int .i64 0)
      exact bodyPost_ret (res_bk_t rfl _ z1 rfl Tryz.underlying23 rfl (by kernel_rfl)) rfl ⟨rfl, z2⟩
    · rw [if_neg (by rw [e0]; decide)]
      rw [e0] at HA
      by_cases h1 : l' = []
      · rw [if_pos (.inl h1)]
        obtain ⟨e1, e2⟩ := empS h1
        clear h1
        unfold dec str at *
        dsimp only
        generalize (⟨l.toArray⟩ : ByteArray) = S at *
        generalize (⟨l'.toArray⟩ : ByteArray) = S' at *
        clear T hp
        go_enter Tryz.func36, Tryz.ntmps36
        go_wp2_with (first
          | (go_at_call 53; (with_reducible refine (HA.out _).mono ?_); rintro e w1 ⟨rfl, b1⟩; have x1 := HT.out.below b1; have k1 := x1.keep; unfold KS at k1)
          | (go_at_call 54; (with_reducible refine (HM.out w1).mono ?_); rintro e w2 ⟨rfl, b2⟩; have x2 := x1.below b2; have k2 := x2.keep; unfold KS at k2; have q2 := x2.res))
        obtain ⟨z1, z2⟩ := x2.ret (.int .i64 0) (.bool false) (.string ⟨#[]⟩) (.int .i64 0)
        exact bodyPost_ret (res_bk_t rfl _ z1 rfl Tryz.underlying23 rfl (by kernel_rfl)) rfl ⟨rfl, z2⟩
      · obtain ⟨rfl, hF', hf'⟩ := may_str hms h1
        have hpos' := hF'.len
        rw [← size_of l'] at hpos'
        obtain ⟨i1, i2⟩ := emp hpos'
        cases g'
        · by_cases h2 : 32 < l'.length
          · rw [if_pos (.inr (.inr h2))]
            rw [← size_of l'] at h2
            have h3 : (32 : Int) < ((⟨l'.toArray⟩ : ByteArray).size : Int) := by omega
            have d3 := decide_eq_true h3
            clear h1 hF' hf' h2 hms
            unfold dec str at *
            dsimp only
            generalize (⟨l.toArray⟩ : ByteArray) = S at *
            generalize (⟨l'.toArray⟩ : ByteArray) = S' at *
            clear T hp
            go_enter Tryz.func36, Tryz.ntmps36
            go_wp2_with (first
              | (go_at_call 53; (with_reducible refine (HA.out _).mono ?_); rintro e w1 ⟨rfl, b1⟩; have x1 := HT.out.below b1; have k1 := x1.keep; unfold KS at k1)
              | (go_at_call 54; (with_reducible refine (HM.out w1).mono ?_); rintro e w2 ⟨rfl, b2⟩; have x2 := x1.below b2; have k2 := x2.keep; unfold KS at k2; have q2 := x2.res))
            obtain ⟨z1, z2⟩ := x2.ret (.int .i64 0) (.bool false) (.string ⟨#[]⟩) (.int .i64 0)
            exact bodyPost_ret (res_bk_t rfl _ z1 rfl Tryz.underlying23 rfl (by kernel_rfl)) rfl ⟨rfl, z2⟩
          · rw [if_neg (by rintro (e | e | e); exact h1 e; cases e; exact h2 e)]
            have h2' := h2
            rw [← size_of l'] at h2'
            have h3 : ¬ (32 : Int) < ((⟨l'.toArray⟩ : ByteArray).size : Int) := by omega
            have d3 := decide_eq_false h3
            by_cases h0 : l = []
            · rw [if_pos h0]
              obtain ⟨e1, e2⟩ := empS h0
              clear h0 h1 hF' hf' h2 h2' hms
              unfold dec str at *
              dsimp only
              generalize (⟨l.toArray⟩ : ByteArray) = S at *
              generalize (⟨l'.toArray⟩ : ByteArray) = S' at *
              clear T hp
              go_enter Tryz.func36, Tryz.ntmps36
              go_wp2_with (first
                | (go_at_call 53; (with_reducible refine (HA.out _).mono ?_); rintro e w1 ⟨rfl, b1⟩; have x1 := HT.out.below b1; have k1 := x1.keep; unfold KS at k1)
                | (go_at_call 54; (with_reducible refine (HM.out w1).mono ?_); rintro e w2 ⟨rfl, b2⟩; have x2 := x1.below b2; have k2 := x2.keep; unfold KS at k2; have q2 := x2.res))
              obtain ⟨z1, z2⟩ := x2.ret (.int .i64 c) (.bool g) (.string S) (.int .i64 x)
              exact bodyPost_ret (res_bk_t rfl _ z1 rfl Tryz.underlying23 rfl (by kernel_rfl)) rfl ⟨rfl, z2⟩
            · rw [if_neg h0]
              obtain ⟨rfl, hF, hf⟩ := may_str hm h0
              obtain ⟨mo, rfl⟩ : ∃ mo : Nat, mode = mo := ⟨mode.toNat, by omega⟩
              obtain ⟨f1, f2, f3⟩ := hf
              obtain ⟨f1', f2', f3'⟩ := hf'
              have HPS := Lib.hid (fun w1 => parse_formed hF' (by omega) w1)
              have HTO := Lib.hid (fun (A : Option Addr) (n c : Nat) (w1 : World) (hp : Pow w1) (h : SI w1 .u64 A n c (digs U (nv 0 l'))) => to_calls (mode := mo) (by omega) g l x A n c (nv 0 l') x' w1 hp hF f1 h hF'.pos (nv_10 hF') f1' (by omega) (by omega))
              have hpos := hF.len
              rw [← size_of l] at hpos
              obtain ⟨e1, e2⟩ := emp hpos
              rw [show (mo : Int).toNat = mo by omega]
              unfold Ans at HTO
              obtain ⟨G, L, X, e4⟩ := oc_four g (told g (rto mo g (nv 0 l) x (nv 0 l') x' * nv 0 l') x')
              rw [e4] at HTO ⊢
              generalize oe (told g (rto mo g (nv 0 l) x (nv 0 l') x' * nv 0 l') x') = er at *
              generalize digs U (nv 0 l') = du at *
              clear h0 h1 h2 h2' hF hF' f1 f2 f3 f1' f2' f3' hms hm e4
              unfold dec str at *
              dsimp only
              generalize (⟨l.toArray⟩ : ByteArray) = S at *
              generalize (⟨l'.toArray⟩ : ByteArray) = S' at *
              clear T hp
              go_enter Tryz.func36, Tryz.ntmps36
              go_wp2_with (first
                | (go_at_call 53; (with_reducible refine (HA.out _).mono ?_); rintro e w1 ⟨rfl, b1⟩; have x1 := HT.out.below b1; have k1 := x1.keep; unfold KS at k1)
                | (go_at_call 54; (with_reducible refine (HM.out w1).mono ?_); rintro e w2 ⟨rfl, b2⟩; have x2 := x1.below b2; have k2 := x2.keep; unfold KS at k2)
                | (go_at_call 55; (with_reducible refine (HPS.out w2).mono ?_); rintro e w3 ⟨A3, n3, c3, rfl, r3, b3⟩; have x3 := x2.below b3; have k3 := x3.keep; unfold KS at k3)
                | (go_at_call 56; (with_reducible refine (HTO.out A3 n3 c3 w3 (((HW.out.below b1).below b2).below b3) r3).mono ?_); rintro e w4 ⟨rfl, b4⟩; have x4 := x3.below b4; have q4 := x4.res))
              obtain ⟨z1, z2⟩ := x4.ret (.int .i64 0) (.bool G) (.string L) (.int .i64 X)
              exact bodyPost_ret (res_bk_t rfl _ z1 rfl Tryz.underlying23 rfl (by kernel_rfl)) rfl ⟨rfl, z2⟩
        · rw [if_pos (.inr (.inl rfl))]
          clear h1 hF' hf' hms
          unfold dec str at *
          dsimp only
          generalize (⟨l.toArray⟩ : ByteArray) = S at *
          generalize (⟨l'.toArray⟩ : ByteArray) = S' at *
          clear T hp
          go_enter Tryz.func36, Tryz.ntmps36
          go_wp2_with (first
            | (go_at_call 53; (with_reducible refine (HA.out _).mono ?_); rintro e w1 ⟨rfl, b1⟩; have x1 := HT.out.below b1; have k1 := x1.keep; unfold KS at k1)
            | (go_at_call 54; (with_reducible refine (HM.out w1).mono ?_); rintro e w2 ⟨rfl, b2⟩; have x2 := x1.below b2; have k2 := x2.keep; unfold KS at k2; have q2 := x2.res))
          obtain ⟨z1, z2⟩ := x2.ret (.int .i64 0) (.bool false) (.string ⟨#[]⟩) (.int .i64 0)
          exact bodyPost_ret (res_bk_t rfl _ z1 rfl Tryz.underlying23 rfl (by kernel_rfl)) rfl ⟨rfl, z2⟩
end Go.Proofs.YtfddokfnplehkaaGreatDoor.Dc
