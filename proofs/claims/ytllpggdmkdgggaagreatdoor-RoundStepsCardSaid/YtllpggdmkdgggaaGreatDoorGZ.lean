/- Texts of one layer, joined: Dv, Ea, Ed. -/
import Derived.Test.YtllpggdmkdgggaaGreatDoorGP
import Derived.Test.YtllpggdmkdgggaaGreatDoorGO
set_option linter.unusedVariables false
set_option linter.unusedSimpArgs false
set_option linter.unusedSectionVars false
/- Layer 6's laws: RoundPlaces. -/
set_option linter.unusedSimpArgs false
set_option linter.unusedVariables false
namespace Go.Proofs.YtllpggdmkdgggaaGreatDoor.Dc
open Go.RowKit Go.Proofs.YtllpggdmkdgggaaGreatDoor.Dig Go.Proofs.YtllpggdmkdgggaaGreatDoor.W Go.Proofs.YtllpggdmkdgggaaGreatDoor.Nat Go.Proofs.YtllpggdmkdgggaaGreatDoor.Wh Go.Proofs.YtllpggdmkdgggaaGreatDoor.Td Go.Proofs.YtllpggdmkdgggaaGreatDoor.Bu Go.Proofs.YtllpggdmkdgggaaGreatDoor.Tx Go.Proofs.YtllpggdmkdgggaaGreatDoor.Sp Go.Proofs.YtllpggdmkdgggaaGreatDoor.Rd
theorem fin_four (mode c : Int) (g : Bool) (l : List UInt8) (x place : Int) : ∃ c4 g4 l4 x4, (fin mode c g l x place).1 = #[.int .i64 c4, .bool g4, .string l4, .int .i64 x4] := by
  unfold fin
  split
  · exact ⟨_, _, _, _, rfl⟩
  · obtain ⟨g', l', x', e⟩ := oc_four g (pw mode.toNat g l x place)
    exact ⟨0, g', l', x', e⟩
theorem atV_four (c : Int) (g : Bool) (l : List UInt8) (x place mode : Int) : ∃ c4 g4 l4 x4, (atV c g l x place mode).1 = #[.int .i64 c4, .bool g4, .string l4, .int .i64 x4] := by
  unfold atV
  split
  · exact ⟨_, _, _, _, rfl⟩
  · split
    · exact ⟨_, _, _, _, rfl⟩
    · exact fin_four ..
theorem dgV_four (c : Int) (g : Bool) (l : List UInt8) (x n mode : Int) : ∃ c4 g4 l4 x4, (dgV c g l x n mode).1 = #[.int .i64 c4, .bool g4, .string l4, .int .i64 x4] := by
  unfold dgV
  split
  · exact ⟨_, _, _, _, rfl⟩
  · split
    · exact ⟨_, _, _, _, rfl⟩
    · exact fin_four ..
attribute [local go_sem ↓] eq_dec
set_option maxHeartbeats 8000000 in
set_option maxRecDepth 100000 in
theorem roundPlaces_calls (c : Int) (g : Bool) (l : List UInt8) (x place mode : Int) (w : World) (hp : Pow w) (hl : l.length ≤ 9223372036854775807) :
    Calls Tryz.prog 3 #[.agg (dec c g l x), .int .i64 place, .int .i64 mode] w fun e w' => e = .returned (.bool true) ∧ Below w.heap.size w w' := by
  have D0 := Lib.hid (Bk.start w 23 #[.int .i64 c, .bool g, .string ⟨l.toArray⟩, .int .i64 x])
  have b0 := alloc_below w (.cells #[.int .i64 c, .bool g, .string ⟨l.toArray⟩, .int .i64 x] 23)
  have H1 := Lib.hid (at_calls c g l x place mode _ (hp.below b0) hl)
  have H2 := Lib.hid (fun w1 => nat_calls c g l x place mode w1)
  have HA := Lib.hid (fun W (bl : Below w.heap.size w W) => awake_calls W (hp.below bl))
  have B0 := Lib.hid b0
  have ng := no_guard
  unfold Res at H1 H2
  obtain ⟨c4, g4, l4, x4, e4⟩ := atV_four c g l x place mode
  rw [e4] at H1 H2
  generalize (atV c g l x place mode).2 = er at *
  unfold dec str at *
  generalize (⟨l.toArray⟩ : ByteArray) = S at *
  clear hp b0 e4
  go_enter Tryz.func3, Tryz.ntmps3
  go_wp2_with (first
    | (go_at_call 11; (with_reducible refine H1.out.mono ?_); rintro e w1 ⟨rfl, b1⟩; have d1 := (D0.out.below b1).alloc (.cells #[.int .i64 c4, .bool g4, .string l4, .int .i64 x4] 23); have k1 := four d1)
    | (go_at_call 12; (with_reducible refine (H2.out _).mono ?_); rintro e w2 ⟨rfl, b2⟩; have y2 := ((Bk.start w1 23 #[.int .i64 c4, .bool g4, .string l4, .int .i64 x4]).below b2).alloc (.cells #[.int .i64 c4, .bool g4, .string l4, .int .i64 x4] 23); have z2 := Bk.start w2 23 #[.int .i64 c4, .bool g4, .string l4, .int .i64 x4]; have l2 := on (on (on (on B0.out b1) (alloc_below w1 _)) b2) (alloc_below w2 (.cells #[.int .i64 c4, .bool g4, .string l4, .int .i64 x4] 23)))
    | (go_at_call 13; (with_reducible refine (HA.out _ l2).mono ?_); rintro e w3 ⟨rfl, b3⟩; have y3 := four (y2.below b3); have z3 := four (z2.below b3); have l3 := on l2 b3))
  go_ret
  exact ⟨rfl, l3⟩
end Go.Proofs.YtllpggdmkdgggaaGreatDoor.Dc

/- The document's answer of layer 6: told. -/
set_option linter.unusedSimpArgs false
set_option linter.unusedVariables false
namespace Go.Proofs.YtllpggdmkdgggaaGreatDoor.Dc
open Go.RowKit Go.Proofs.YtllpggdmkdgggaaGreatDoor.Dig Go.Proofs.YtllpggdmkdgggaaGreatDoor.W Go.Proofs.YtllpggdmkdgggaaGreatDoor.Nat Go.Proofs.YtllpggdmkdgggaaGreatDoor.Wh Go.Proofs.YtllpggdmkdgggaaGreatDoor.Td Go.Proofs.YtllpggdmkdgggaaGreatDoor.Bu Go.Proofs.YtllpggdmkdgggaaGreatDoor.Tx Go.Proofs.YtllpggdmkdgggaaGreatDoor.Sp Go.Proofs.YtllpggdmkdgggaaGreatDoor.Rd
open Go.Proofs.YtllpggdmkdgggaaGreatDoor.Rf (V V_two V_pos)

/-- a number's box, a unit's box, the result's cell -/
structure TT (w W : World) (a0 a1 a2 a3 b0 b1 b2 : Value) : Prop where
  a : Bk W w.heap.size 23 #[a0, a1, a2, a3]
  b : Bk W (w.heap.size + 1) 52 #[b0, b1, b2]
  r : Bk W (w.heap.size + 1 + 1) 23 #[.int .i64 0, .bool false, .string ⟨#[]⟩, .int .i64 0]
  bl : Below w.heap.size w W
section
variable {w W W' : World} {a0 a1 a2 a3 b0 b1 b2 : Value}
theorem TT.start (w : World) (a0 a1 a2 a3 b0 b1 b2 : Value) : TT w (((w.alloc (.cells #[a0, a1, a2, a3] 23)).alloc (.cells #[b0, b1, b2] 52)).alloc (.cells #[.int .i64 0, .bool false, .string ⟨#[]⟩, .int .i64 0] 23)) a0 a1 a2 a3 b0 b1 b2 := by
  obtain ⟨h1, h2, h3, h4⟩ := bk_three w #[a0, a1, a2, a3] #[b0, b1, b2] #[.int .i64 0, .bool false, .string ⟨#[]⟩, .int .i64 0] 23 52 23
  exact ⟨h1, h2, h3, h4⟩
theorem TT.below (h : TT w W a0 a1 a2 a3 b0 b1 b2) (hb : Below W.heap.size W W') : TT w W' a0 a1 a2 a3 b0 b1 b2 := ⟨h.a.below hb, h.b.below hb, h.r.below hb, on h.bl hb⟩
theorem TT.drew (h : TT w W a0 a1 a2 a3 b0 b1 b2) : TT w W.drew a0 a1 a2 a3 b0 b1 b2 := ⟨h.a.drew, h.b.drew, h.r.drew, h.bl.drew⟩
theorem TT.alloc (h : TT w W a0 a1 a2 a3 b0 b1 b2) (o : Obj) : TT w (W.alloc o) a0 a1 a2 a3 b0 b1 b2 := h.below (alloc_below _ _)
theorem TT.farC (h : TT w W a0 a1 a2 a3 b0 b1 b2) {p : Addr} (hp : w.heap.size + 1 + 1 < p.block) (v : Value) : TT w (W.setCell p v) a0 a1 a2 a3 b0 b1 b2 :=
  ⟨h.a.far v (by omega), h.b.far v (by omega), h.r.far v (by omega), h.bl.setCell (by omega) v⟩
theorem TT.far4 (h : TT w W a0 a1 a2 a3 b0 b1 b2) {q : Nat} (hp : w.heap.size + 1 + 1 < q) (a b c d : Value) : TT w ((((W.setCell ⟨q, 0, none⟩ a).setCell ⟨q, 1, none⟩ b).setCell ⟨q, 2, none⟩ c).setCell ⟨q, 3, none⟩ d) a0 a1 a2 a3 b0 b1 b2 :=
  (((h.farC (p := (⟨q, 0, none⟩ : Addr)) hp a).farC (p := (⟨q, 1, none⟩ : Addr)) hp b).farC (p := (⟨q, 2, none⟩ : Addr)) hp c).farC (p := (⟨q, 3, none⟩ : Addr)) hp d
theorem TT.keep (h : TT w W a0 a1 a2 a3 b0 b1 b2) : W.cell? ⟨w.heap.size, 0, none⟩ = some a0 ∧ W.cell? ⟨w.heap.size, 1, none⟩ = some a1 ∧ W.cell? ⟨w.heap.size, 2, none⟩ = some a2 ∧ W.cell? ⟨w.heap.size, 3, none⟩ = some a3 ∧
  W.cell? ⟨w.heap.size + 1, 0, none⟩ = some b0 ∧ W.cell? ⟨w.heap.size + 1, 1, none⟩ = some b1 ∧ W.cell? ⟨w.heap.size + 1, 2, none⟩ = some b2 := ⟨h.a.at_ 0 rfl, h.a.at_ 1 rfl, h.a.at_ 2 rfl, h.a.at_ 3 rfl, h.b.at_ 0 rfl, h.b.at_ 1 rfl, h.b.at_ 2 rfl⟩
theorem TT.res (h : TT w W a0 a1 a2 a3 b0 b1 b2) : W.cell? ⟨w.heap.size + 1 + 1, 0, none⟩ = some (.int .i64 0) ∧ W.cell? ⟨w.heap.size + 1 + 1, 1, none⟩ = some (.bool false) ∧ W.cell? ⟨w.heap.size + 1 + 1, 2, none⟩ = some (.string ⟨#[]⟩) ∧ W.cell? ⟨w.heap.size + 1 + 1, 3, none⟩ = some (.int .i64 0) ∧
    W.frozen? ⟨w.heap.size + 1 + 1, 0, none⟩ = false ∧ W.frozen? ⟨w.heap.size + 1 + 1, 1, none⟩ = false ∧ W.frozen? ⟨w.heap.size + 1 + 1, 2, none⟩ = false ∧ W.frozen? ⟨w.heap.size + 1 + 1, 3, none⟩ = false :=
  ⟨h.r.at_ 0 rfl, h.r.at_ 1 rfl, h.r.at_ 2 rfl, h.r.at_ 3 rfl, h.r.fr 0, h.r.fr 1, h.r.fr 2, h.r.fr 3⟩
theorem TT.ret (h : TT w W a0 a1 a2 a3 b0 b1 b2) (a b c d : Value) : Bk ((((W.setCell ⟨w.heap.size + 1 + 1, 0, none⟩ a).setCell ⟨w.heap.size + 1 + 1, 1, none⟩ b).setCell ⟨w.heap.size + 1 + 1, 2, none⟩ c).setCell ⟨w.heap.size + 1 + 1, 3, none⟩ d) (w.heap.size + 1 + 1) 23 #[a, b, c, d] ∧ Below w.heap.size w ((((W.setCell ⟨w.heap.size + 1 + 1, 0, none⟩ a).setCell ⟨w.heap.size + 1 + 1, 1, none⟩ b).setCell ⟨w.heap.size + 1 + 1, 2, none⟩ c).setCell ⟨w.heap.size + 1 + 1, 3, none⟩ d) :=
  ⟨h.r.set4 a b c d rfl, below_set4 h.bl (by omega) a b c d⟩
end
theorem eight {w : World} {g : Nat} {t : TypeId} {a0 a1 a2 a3 : Value} (C : Bk w g t #[a0, a1, a2, a3]) :
    w.cell? ⟨g, 0, none⟩ = some a0 ∧ w.cell? ⟨g, 1, none⟩ = some a1 ∧ w.cell? ⟨g, 2, none⟩ = some a2 ∧ w.cell? ⟨g, 3, none⟩ = some a3 ∧ w.frozen? ⟨g, 0, none⟩ = false ∧ w.frozen? ⟨g, 1, none⟩ = false ∧ w.frozen? ⟨g, 2, none⟩ = false ∧ w.frozen? ⟨g, 3, none⟩ = false := ⟨C.at_ 0 rfl, C.at_ 1 rfl, C.at_ 2 rfl, C.at_ 3 rfl, C.fr 0, C.fr 1, C.fr 2, C.fr 3⟩
set_option maxHeartbeats 8000000 in
set_option maxRecDepth 100000 in
theorem ntold_calls {mode : Nat} (hm : mode < 8) (g bu : Bool) (l : List UInt8) (x : Int) (A : Option Addr) (n c u : Nat) (y : Int) (w : World) (hF : Formed l) (hf : l.length ≤ 1000) (h : SI w .u32 A n c (digs V u)) (hu : 0 < u) {K : Nat} (hu2 : Lo u K) (hK : K ≤ 1000)
    (hx : -9000 ≤ x ∧ x ≤ 9000) (hy : -9000 ≤ y ∧ y ≤ 9000) :
    Calls Tryz.prog 34 #[.agg (dec 0 g l x), .agg #[.bool bu, .slice A n c, .int .i64 y], .int .i64 (mode : Nat)] w (Ans w g (told g (rto mode g (nv 0 l) x u y * u) y)) := by
  have T := TT.start w (.int .i64 0) (.bool g) (.string ⟨l.toArray⟩) (.int .i64 x) (.bool bu) (.slice A n c) (.int .i64 y)
  have hD := (nv_10 hF).mono hf
  have HOF := Lib.hid (fun w1 => nof_calls g l x w1 hF hf)
  have HTO := Lib.hid (fun (A A' : Option Addr) (n c n' c' : Nat) (w1 : World) (h : SI w1 .u32 A n c (digs V (nv 0 l))) (h' : SI w1 .u32 A' n' c' (digs V u)) => nto_calls hm g bu A A' n c n' c' (nv 0 l) u x y w1 h h' hD (hu2.mono hK) (by omega) hF.pos hu (by omega) (by omega))
  have hlo := lo_rto (mode := mode) (g := g) (x := x) (y := y) hD (hu2.mono hK) (by omega) (by omega) (by omega)
  have HDE := Lib.hid (fun (A : Option Addr) (n c : Nat) (w1 : World) (h : SI w1 .u32 A n c (digs V (sg g (rto mode g (nv 0 l) x u y * (u * 10 ^ (y - min x y).toNat))).natAbs)) => (by
    have e := ndec_calls (decide (sg g (rto mode g (nv 0 l) x u y * (u * 10 ^ (y - min x y).toNat)) < 0)) g A n c _ (min x y) w1 (by rw [sg_abs] at h; exact h) hlo (by omega) (by omega) (fun h0 => sg_pos (Nat.pos_of_ne_zero h0))
    rw [told_low mode g (nv 0 l) x u y] at e
    exact e))
  unfold GivesT at HTO
  unfold GivesD at HDE
  unfold GivesN at HOF
  generalize sg g (rto mode g (nv 0 l) x u y * (u * 10 ^ (y - min x y).toNat)) = Z at *
  generalize min x y = e0 at *
  unfold Ans
  generalize told g (rto mode g (nv 0 l) x u y * u) y = o at *
  generalize digs V (nv 0 l) = dg at *
  have HU := Lib.hid (h.below T.bl)
  unfold dec str at *
  generalize (⟨l.toArray⟩ : ByteArray) = S at *
  obtain ⟨W, hW⟩ : ∃ W, W = (((w.alloc (.cells #[.int .i64 0, .bool g, .string S, .int .i64 x] 23)).alloc (.cells #[.bool bu, .slice A n c, .int .i64 y] 52)).alloc (.cells #[.int .i64 0, .bool false, .string ⟨#[]⟩, .int .i64 0] 23)) := ⟨_, rfl⟩
  rw [← hW] at T HU
  have HW := Lib.hid hW
  clear hW hlo hD hF hf h hu hu2 hK
  have z0 := T.drew
  have za := (T.alloc (.cells #[.int .i64 0, .bool false, .string ⟨#[]⟩, .int .i64 0] 23)).drew
  have hlt := T.r.lt
  cases o with
  | none =>
    rw [show oc g (none : Option (List UInt8 × Int)) = #[.int .i64 0, .bool false, .string ⟨#[]⟩, .int .i64 0] from rfl] at HDE ⊢
    unfold oe
    dsimp only [Option.isSome] at HDE ⊢
    go_enter Tryz.func34, Tryz.ntmps34
    go_wp2
    rw [← HW.out]
    go_region_held3 (fun w' => w'.cell? ⟨w.heap.size, 0, none⟩ = some (.int .i64 0) ∧ w'.cell? ⟨w.heap.size, 1, none⟩ = some (.bool g) ∧ w'.cell? ⟨w.heap.size, 2, none⟩ = some (.string S) ∧ w'.cell? ⟨w.heap.size, 3, none⟩ = some (.int .i64 x) ∧ w'.cell? ⟨w.heap.size + 1, 0, none⟩ = some (.bool bu) ∧ w'.cell? ⟨w.heap.size + 1, 1, none⟩ = some (.slice A n c) ∧ w'.cell? ⟨w.heap.size + 1, 2, none⟩ = some (.int .i64 y))
      (first
        | (with_reducible exact z0.keep)
        | (with_reducible exact za.keep)
        | (with_reducible exact z1.keep)
        | (with_reducible exact z1a.keep)
        | (with_reducible exact z2.keep)
        | (with_reducible exact z2a.keep)
        | (with_reducible exact z3.keep)
        | (with_reducible exact z3a.keep)
        | (with_reducible exact zE.keep))
      (first
        | (go_at_call 30; first
          | ((with_reducible refine (HOF.out W.drew).mono ?_); rintro e w1 ⟨A1, n1, c1, rfl, r1, b1⟩; have z1 := z0.below b1; have z1a := z1.alloc (.cells #[.int .i64 0, .bool false, .string ⟨#[]⟩, .int .i64 0] 23); have u1 := (HU.out.below (Below.refl _ _).drew).below b1)
          | ((with_reducible refine (HOF.out (W.alloc (.cells #[.int .i64 0, .bool false, .string ⟨#[]⟩, .int .i64 0] 23)).drew).mono ?_); rintro e w1 ⟨A1, n1, c1, rfl, r1, b1⟩; have z1 := za.below b1; have B1 := (Bk.start W 23 #[.int .i64 0, .bool false, .string ⟨#[]⟩, .int .i64 0]).drew.below b1; have u1 := ((HU.out.alloc (.cells #[.int .i64 0, .bool false, .string ⟨#[]⟩, .int .i64 0] 23)).below (Below.refl _ _).drew).below b1))
        | (go_at_call 29; first
          | (have tag := B1; (with_reducible refine (HTO.out A1 A n1 c1 n c w1 r1 u1).mono ?_); rintro e w2 ⟨A2, n2, c2, rfl, r2, b2⟩; have z2 := z1.below b2; have B2 := B1.below b2; have hq3 : w.heap.size + 1 + 1 < W.heap.size := hlt)
          | ((with_reducible refine (HTO.out A1 A n1 c1 n c w1 r1 u1).mono ?_); rintro e w2 ⟨A2, n2, c2, rfl, r2, b2⟩; have z2 := z1.below b2; have z2a := z2.alloc (.cells #[.int .i64 0, .bool false, .string ⟨#[]⟩, .int .i64 0] 23))
          | ((with_reducible refine (HTO.out A1 A n1 c1 n c _ (r1.alloc (.cells #[.int .i64 0, .bool false, .string ⟨#[]⟩, .int .i64 0] 23)) (u1.alloc (.cells #[.int .i64 0, .bool false, .string ⟨#[]⟩, .int .i64 0] 23))).mono ?_); rintro e w2 ⟨A2, n2, c2, rfl, r2, b2⟩; have z2 := z1a.below b2; have B2 := (Bk.start w1 23 #[.int .i64 0, .bool false, .string ⟨#[]⟩, .int .i64 0]).below b2; have hq3 : w.heap.size + 1 + 1 < w1.heap.size := z1.r.lt))
        | (go_at_call 33; first
          | (have tag := B2; (with_reducible refine (HDE.out A2 n2 c2 w2 r2).mono ?_); rintro e w3 ⟨rfl, b3⟩; have z3 := z2.below b3; have B3 := B2.below b3; have BE := B3.set4 (.int .i64 0) (.bool false) (.string ⟨#[]⟩) (.int .i64 0) rfl; have zE := z3.far4 hq3 (.int .i64 0) (.bool false) (.string ⟨#[]⟩) (.int .i64 0); have q3 := eight B3)
          | ((with_reducible refine (HDE.out A2 n2 c2 w2 r2).mono ?_); rintro e w3 ⟨rfl, b3⟩; have z3 := z2.below b3; have z3a := z3.alloc (.cells #[.int .i64 0, .bool false, .string ⟨#[]⟩, .int .i64 0] 23); have zE := z3.alloc (.cells #[.int .i64 0, .bool false, .string ⟨#[]⟩, .int .i64 0] 23); have BE := Bk.start w3 23 #[.int .i64 0, .bool false, .string ⟨#[]⟩, .int .i64 0])
          | ((with_reducible refine (HDE.out A2 n2 c2 _ (r2.alloc (.cells #[.int .i64 0, .bool false, .string ⟨#[]⟩, .int .i64 0] 23))).mono ?_); rintro e w3 ⟨rfl, b3⟩; have z3 := z2a.below b3; have B3 := (Bk.start w2 23 #[.int .i64 0, .bool false, .string ⟨#[]⟩, .int .i64 0]).below b3; have hq3 : w.heap.size + 1 + 1 < w2.heap.size := z2.r.lt; have BE := B3.set4 (.int .i64 0) (.bool false) (.string ⟨#[]⟩) (.int .i64 0) rfl; have zE := z3.far4 hq3 (.int .i64 0) (.bool false) (.string ⟨#[]⟩) (.int .i64 0); have q3 := eight B3)))
    all_goals
      have C := four BE
      have R := zE.res
      go_wp2
      obtain ⟨o1, o2⟩ := zE.ret (.int .i64 0) (.bool false) (.string ⟨#[]⟩) (.int .i64 0)
      exact bodyPost_ret (res_bk_t rfl _ o1 rfl Tryz.underlying23 rfl (by kernel_rfl)) rfl ⟨rfl, o2⟩
  | some p =>
    obtain ⟨G, L, X, e4⟩ := oc_four g (some p : Option (List UInt8 × Int))
    rw [e4] at HDE ⊢
    unfold oe
    dsimp only [Option.isSome] at HDE ⊢
    clear e4
    go_enter Tryz.func34, Tryz.ntmps34
    go_wp2
    rw [← HW.out]
    go_region_held3 (fun w' => w'.cell? ⟨w.heap.size, 0, none⟩ = some (.int .i64 0) ∧ w'.cell? ⟨w.heap.size, 1, none⟩ = some (.bool g) ∧ w'.cell? ⟨w.heap.size, 2, none⟩ = some (.string S) ∧ w'.cell? ⟨w.heap.size, 3, none⟩ = some (.int .i64 x) ∧ w'.cell? ⟨w.heap.size + 1, 0, none⟩ = some (.bool bu) ∧ w'.cell? ⟨w.heap.size + 1, 1, none⟩ = some (.slice A n c) ∧ w'.cell? ⟨w.heap.size + 1, 2, none⟩ = some (.int .i64 y))
      (first
        | (with_reducible exact z0.keep)
        | (with_reducible exact za.keep)
        | (with_reducible exact z1.keep)
        | (with_reducible exact z1a.keep)
        | (with_reducible exact z2.keep)
        | (with_reducible exact z2a.keep)
        | (with_reducible exact z3.keep)
        | (with_reducible exact z3a.keep)
        | (with_reducible exact zE.keep))
      (first
        | (go_at_call 30; first
          | ((with_reducible refine (HOF.out W.drew).mono ?_); rintro e w1 ⟨A1, n1, c1, rfl, r1, b1⟩; have z1 := z0.below b1; have z1a := z1.alloc (.cells #[.int .i64 0, .bool false, .string ⟨#[]⟩, .int .i64 0] 23); have u1 := (HU.out.below (Below.refl _ _).drew).below b1)
          | ((with_reducible refine (HOF.out (W.alloc (.cells #[.int .i64 0, .bool false, .string ⟨#[]⟩, .int .i64 0] 23)).drew).mono ?_); rintro e w1 ⟨A1, n1, c1, rfl, r1, b1⟩; have z1 := za.below b1; have B1 := (Bk.start W 23 #[.int .i64 0, .bool false, .string ⟨#[]⟩, .int .i64 0]).drew.below b1; have u1 := ((HU.out.alloc (.cells #[.int .i64 0, .bool false, .string ⟨#[]⟩, .int .i64 0] 23)).below (Below.refl _ _).drew).below b1))
        | (go_at_call 29; first
          | (have tag := B1; (with_reducible refine (HTO.out A1 A n1 c1 n c w1 r1 u1).mono ?_); rintro e w2 ⟨A2, n2, c2, rfl, r2, b2⟩; have z2 := z1.below b2; have B2 := B1.below b2; have hq3 : w.heap.size + 1 + 1 < W.heap.size := hlt)
          | ((with_reducible refine (HTO.out A1 A n1 c1 n c w1 r1 u1).mono ?_); rintro e w2 ⟨A2, n2, c2, rfl, r2, b2⟩; have z2 := z1.below b2; have z2a := z2.alloc (.cells #[.int .i64 0, .bool false, .string ⟨#[]⟩, .int .i64 0] 23))
          | ((with_reducible refine (HTO.out A1 A n1 c1 n c _ (r1.alloc (.cells #[.int .i64 0, .bool false, .string ⟨#[]⟩, .int .i64 0] 23)) (u1.alloc (.cells #[.int .i64 0, .bool false, .string ⟨#[]⟩, .int .i64 0] 23))).mono ?_); rintro e w2 ⟨A2, n2, c2, rfl, r2, b2⟩; have z2 := z1a.below b2; have B2 := (Bk.start w1 23 #[.int .i64 0, .bool false, .string ⟨#[]⟩, .int .i64 0]).below b2; have hq3 : w.heap.size + 1 + 1 < w1.heap.size := z1.r.lt))
        | (go_at_call 33; first
          | (have tag := B2; (with_reducible refine (HDE.out A2 n2 c2 w2 r2).mono ?_); rintro e w3 ⟨rfl, b3⟩; have z3 := z2.below b3; have B3 := B2.below b3; have BE := B3.set4 (.int .i64 0) (.bool G) (.string L) (.int .i64 X) rfl; have zE := z3.far4 hq3 (.int .i64 0) (.bool G) (.string L) (.int .i64 X); have q3 := eight B3)
          | ((with_reducible refine (HDE.out A2 n2 c2 w2 r2).mono ?_); rintro e w3 ⟨rfl, b3⟩; have z3 := z2.below b3; have z3a := z3.alloc (.cells #[.int .i64 0, .bool false, .string ⟨#[]⟩, .int .i64 0] 23); have zE := z3.alloc (.cells #[.int .i64 0, .bool G, .string L, .int .i64 X] 23); have BE := Bk.start w3 23 #[.int .i64 0, .bool G, .string L, .int .i64 X])
          | ((with_reducible refine (HDE.out A2 n2 c2 _ (r2.alloc (.cells #[.int .i64 0, .bool false, .string ⟨#[]⟩, .int .i64 0] 23))).mono ?_); rintro e w3 ⟨rfl, b3⟩; have z3 := z2a.below b3; have B3 := (Bk.start w2 23 #[.int .i64 0, .bool false, .string ⟨#[]⟩, .int .i64 0]).below b3; have hq3 : w.heap.size + 1 + 1 < w2.heap.size := z2.r.lt; have BE := B3.set4 (.int .i64 0) (.bool G) (.string L) (.int .i64 X) rfl; have zE := z3.far4 hq3 (.int .i64 0) (.bool G) (.string L) (.int .i64 X); have q3 := eight B3)))
    all_goals
      have C := four BE
      have R := zE.res
      go_wp2
      obtain ⟨o1, o2⟩ := zE.ret (.int .i64 0) (.bool G) (.string L) (.int .i64 X)
      exact bodyPost_ret (res_bk_t rfl _ o1 rfl Tryz.underlying23 rfl (by kernel_rfl)) rfl ⟨rfl, o2⟩
end Go.Proofs.YtllpggdmkdgggaaGreatDoor.Dc

/- The document's answer of layer 6: Step; RoundSteps. -/
set_option linter.unusedSimpArgs false
set_option linter.unusedVariables false
namespace Go.Proofs.YtllpggdmkdgggaaGreatDoor.Dc
open Go.RowKit Go.Proofs.YtllpggdmkdgggaaGreatDoor.Dig Go.Proofs.YtllpggdmkdgggaaGreatDoor.W Go.Proofs.YtllpggdmkdgggaaGreatDoor.Nat Go.Proofs.YtllpggdmkdgggaaGreatDoor.Wh Go.Proofs.YtllpggdmkdgggaaGreatDoor.Td Go.Proofs.YtllpggdmkdgggaaGreatDoor.Bu Go.Proofs.YtllpggdmkdgggaaGreatDoor.Tx Go.Proofs.YtllpggdmkdgggaaGreatDoor.Sp Go.Proofs.YtllpggdmkdgggaaGreatDoor.Rd
open Go.Proofs.YtllpggdmkdgggaaGreatDoor.Rf (V V_two V_pos)

set_option maxHeartbeats 8000000 in
set_option maxRecDepth 100000 in
theorem nstep_calls (c : Int) (g : Bool) (l : List UInt8) (x : Int) (c' : Int) (g' : Bool) (l' : List UInt8) (x' mode : Int) (w : World) :
    Calls Tryz.prog 17 #[.agg (dec c g l x), .agg (dec c' g' l' x'), .int .i64 mode] w (Res w (stV c g l x c' g' l' x' mode)) := by
  have T := TS.start w (.int .i64 c) (.bool g) (.string ⟨l.toArray⟩) (.int .i64 x) (.int .i64 c') (.bool g') (.string ⟨l'.toArray⟩) (.int .i64 x')
  have HT := Lib.hid T
  have HA := Lib.hid (rmay_calls c g l x (((w.alloc (.cells #[.int .i64 c, .bool g, .string ⟨l.toArray⟩, .int .i64 x] 23)).alloc (.cells #[.int .i64 c', .bool g', .string ⟨l'.toArray⟩, .int .i64 x'] 23)).alloc (.cells #[.int .i64 0, .bool false, .string ⟨#[]⟩, .int .i64 0] 23)))
  have HM := Lib.hid (fun w1 => rmay_calls c' g' l' x' w1)
  unfold stV Res
  rcases ask_cases (mayB c g l x) mode with ⟨e0, hm⟩ | ⟨e0, hm, hmo⟩ | ⟨e0, hm, m0, m8⟩
  · have ez : (if mayB c' g' l' x' = false then ((dec 0 false [] 0, 52) : Array Value × Int) else if askE (mayB c g l x) mode ≠ 0 then (dec 0 false [] 0, askE (mayB c g l x) mode) else if l' = [] ∨ g' = true ∨ 32 < l'.length then (dec 0 false [] 0, 62) else if l = [] then (dec c g l x, 0) else (oc g (told g (rto mode.toNat g (nv 0 l) x (nv 0 l') x' * nv 0 l') x'), oe (told g (rto mode.toNat g (nv 0 l) x (nv 0 l') x' * nv 0 l') x'))) = (dec 0 false [] 0, 52) := by
      rw [e0, if_pos (show (52 : Int) ≠ 0 by decide)]
      split <;> rfl
    rw [ez]
    rw [hm] at HA
    clear ez
    unfold dec str at *
    dsimp only
    generalize (⟨l.toArray⟩ : ByteArray) = S at *
    generalize (⟨l'.toArray⟩ : ByteArray) = S' at *
    clear T
    go_enter Tryz.func17, Tryz.ntmps17
    skip
    go_wp2_with (first
      | (go_at_call 18; first
        | ((with_reducible refine (HA.out).mono ?_); rintro e w1 ⟨rfl, b1⟩; have x1 := HT.out.below b1; have k1 := x1.keep; unfold KS at k1; have q1 := x1.res)
        | ((with_reducible refine (HM.out w1).mono ?_); rintro e w2 ⟨rfl, b2⟩; have x2 := x1.below b2; have k2 := x2.keep; unfold KS at k2; have q2 := x2.res)))
    obtain ⟨z1, z2⟩ := x1.ret (.int .i64 0) (.bool false) (.string ⟨#[]⟩) (.int .i64 0)
    exact bodyPost_ret (res_bk_t rfl _ z1 rfl Tryz.underlying23 rfl (by kernel_rfl)) rfl ⟨rfl, z2⟩
  · cases hms : mayB c' g' l' x'
    · rw [if_pos rfl]
      rw [hm] at HA
      rw [hms] at HM
      clear hmo
      unfold dec str at *
      dsimp only
      generalize (⟨l.toArray⟩ : ByteArray) = S at *
      generalize (⟨l'.toArray⟩ : ByteArray) = S' at *
      clear T
      go_enter Tryz.func17, Tryz.ntmps17
      skip
      go_wp2_with (first
        | (go_at_call 18; first
          | ((with_reducible refine (HA.out).mono ?_); rintro e w1 ⟨rfl, b1⟩; have x1 := HT.out.below b1; have k1 := x1.keep; unfold KS at k1; have q1 := x1.res)
          | ((with_reducible refine (HM.out w1).mono ?_); rintro e w2 ⟨rfl, b2⟩; have x2 := x1.below b2; have k2 := x2.keep; unfold KS at k2; have q2 := x2.res)))
      obtain ⟨z1, z2⟩ := x2.ret (.int .i64 0) (.bool false) (.string ⟨#[]⟩) (.int .i64 0)
      exact bodyPost_ret (res_bk_t rfl _ z1 rfl Tryz.underlying23 rfl (by kernel_rfl)) rfl ⟨rfl, z2⟩
    · rw [if_neg (by decide), if_pos (by rw [e0]; decide), e0]
      rw [hm] at HA
      rw [hms] at HM
      unfold dec str at *
      dsimp only
      generalize (⟨l.toArray⟩ : ByteArray) = S at *
      generalize (⟨l'.toArray⟩ : ByteArray) = S' at *
      clear T
      by_cases k0 : mode < 0
      · have d1 := decide_eq_true k0
        clear hmo
        go_enter Tryz.func17, Tryz.ntmps17
        skip
        go_wp2_with (first
          | (go_at_call 18; first
            | ((with_reducible refine (HA.out).mono ?_); rintro e w1 ⟨rfl, b1⟩; have x1 := HT.out.below b1; have k1 := x1.keep; unfold KS at k1; have q1 := x1.res)
            | ((with_reducible refine (HM.out w1).mono ?_); rintro e w2 ⟨rfl, b2⟩; have x2 := x1.below b2; have k2 := x2.keep; unfold KS at k2; have q2 := x2.res)))
        obtain ⟨z1, z2⟩ := x2.ret (.int .i64 0) (.bool false) (.string ⟨#[]⟩) (.int .i64 0)
        exact bodyPost_ret (res_bk_t rfl _ z1 rfl Tryz.underlying23 rfl (by kernel_rfl)) rfl ⟨rfl, z2⟩
      · have d1 := decide_eq_false k0
        have k8 : 7 < mode := by omega
        have d2 := decide_eq_true k8
        clear hmo
        go_enter Tryz.func17, Tryz.ntmps17
        skip
        go_wp2_with (first
          | (go_at_call 18; first
            | ((with_reducible refine (HA.out).mono ?_); rintro e w1 ⟨rfl, b1⟩; have x1 := HT.out.below b1; have k1 := x1.keep; unfold KS at k1; have q1 := x1.res)
            | ((with_reducible refine (HM.out w1).mono ?_); rintro e w2 ⟨rfl, b2⟩; have x2 := x1.below b2; have k2 := x2.keep; unfold KS at k2; have q2 := x2.res)))
        obtain ⟨z1, z2⟩ := x2.ret (.int .i64 0) (.bool false) (.string ⟨#[]⟩) (.int .i64 0)
        exact bodyPost_ret (res_bk_t rfl _ z1 rfl Tryz.underlying23 rfl (by kernel_rfl)) rfl ⟨rfl, z2⟩
  · have k0 : ¬ mode < 0 := by omega
    have k8 : ¬ 7 < mode := by omega
    have d1 := decide_eq_false k0
    have d2 := decide_eq_false k8
    rw [hm] at HA
    cases hms : mayB c' g' l' x'
    · rw [if_pos rfl]
      rw [hms] at HM
      unfold dec str at *
      dsimp only
      generalize (⟨l.toArray⟩ : ByteArray) = S at *
      generalize (⟨l'.toArray⟩ : ByteArray) = S' at *
      clear T
      go_enter Tryz.func17, Tryz.ntmps17
      skip
      go_wp2_with (first
        | (go_at_call 18; first
          | ((with_reducible refine (HA.out).mono ?_); rintro e w1 ⟨rfl, b1⟩; have x1 := HT.out.below b1; have k1 := x1.keep; unfold KS at k1; have q1 := x1.res)
          | ((with_reducible refine (HM.out w1).mono ?_); rintro e w2 ⟨rfl, b2⟩; have x2 := x1.below b2; have k2 := x2.keep; unfold KS at k2; have q2 := x2.res)))
      obtain ⟨z1, z2⟩ := x2.ret (.int .i64 0) (.bool false) (.string ⟨#[]⟩) (.int .i64 0)
      exact bodyPost_ret (res_bk_t rfl _ z1 rfl Tryz.underlying23 rfl (by kernel_rfl)) rfl ⟨rfl, z2⟩
    · rw [if_neg (by decide), if_neg (by rw [e0]; decide)]
      rw [hms] at HM
      by_cases h1 : l' = []
      · rw [if_pos (.inl h1)]
        obtain ⟨e1, e2⟩ := empS h1
        clear h1 hms
        unfold dec str at *
        dsimp only
        generalize (⟨l.toArray⟩ : ByteArray) = S at *
        generalize (⟨l'.toArray⟩ : ByteArray) = S' at *
        clear T
        by_cases hc : c' = 0
        · subst hc
          cases g'
          · skip
            go_enter Tryz.func17, Tryz.ntmps17
            skip
            go_wp2_with (first
              | (go_at_call 18; first
                | ((with_reducible refine (HA.out).mono ?_); rintro e w1 ⟨rfl, b1⟩; have x1 := HT.out.below b1; have k1 := x1.keep; unfold KS at k1; have q1 := x1.res)
                | ((with_reducible refine (HM.out w1).mono ?_); rintro e w2 ⟨rfl, b2⟩; have x2 := x1.below b2; have k2 := x2.keep; unfold KS at k2; have q2 := x2.res)))
            obtain ⟨z1, z2⟩ := x2.ret (.int .i64 0) (.bool false) (.string ⟨#[]⟩) (.int .i64 0)
            exact bodyPost_ret (res_bk_t rfl _ z1 rfl Tryz.underlying23 rfl (by kernel_rfl)) rfl ⟨rfl, z2⟩
          · skip
            go_enter Tryz.func17, Tryz.ntmps17
            skip
            go_wp2_with (first
              | (go_at_call 18; first
                | ((with_reducible refine (HA.out).mono ?_); rintro e w1 ⟨rfl, b1⟩; have x1 := HT.out.below b1; have k1 := x1.keep; unfold KS at k1; have q1 := x1.res)
                | ((with_reducible refine (HM.out w1).mono ?_); rintro e w2 ⟨rfl, b2⟩; have x2 := x1.below b2; have k2 := x2.keep; unfold KS at k2; have q2 := x2.res)))
            obtain ⟨z1, z2⟩ := x2.ret (.int .i64 0) (.bool false) (.string ⟨#[]⟩) (.int .i64 0)
            exact bodyPost_ret (res_bk_t rfl _ z1 rfl Tryz.underlying23 rfl (by kernel_rfl)) rfl ⟨rfl, z2⟩
        · have hcb := eqB hc
          go_enter Tryz.func17, Tryz.ntmps17
          skip
          go_wp2_with (first
            | (go_at_call 18; first
              | ((with_reducible refine (HA.out).mono ?_); rintro e w1 ⟨rfl, b1⟩; have x1 := HT.out.below b1; have k1 := x1.keep; unfold KS at k1; have q1 := x1.res)
              | ((with_reducible refine (HM.out w1).mono ?_); rintro e w2 ⟨rfl, b2⟩; have x2 := x1.below b2; have k2 := x2.keep; unfold KS at k2; have q2 := x2.res)))
          obtain ⟨z1, z2⟩ := x2.ret (.int .i64 0) (.bool false) (.string ⟨#[]⟩) (.int .i64 0)
          exact bodyPost_ret (res_bk_t rfl _ z1 rfl Tryz.underlying23 rfl (by kernel_rfl)) rfl ⟨rfl, z2⟩
      · obtain ⟨rfl, hF', hf'⟩ := may_str hms h1
        have hpos' := hF'.len
        rw [← size_of l'] at hpos'
        obtain ⟨i1, i2⟩ := emp hpos'
        cases g'
        · by_cases h2 : 32 < l'.length
          · rw [if_pos (.inr (.inr h2))]
            rw [← size_of l'] at h2
            have h3 : (32 : Int) < ((⟨l'.toArray⟩ : ByteArray).size : Int) := by omega
            have d3 := decide_eq_true h3
            clear h1 hF' hf' h2 hms
            unfold dec str at *
            dsimp only
            generalize (⟨l.toArray⟩ : ByteArray) = S at *
            generalize (⟨l'.toArray⟩ : ByteArray) = S' at *
            clear T
            go_enter Tryz.func17, Tryz.ntmps17
            skip
            go_wp2_with (first
              | (go_at_call 18; first
                | ((with_reducible refine (HA.out).mono ?_); rintro e w1 ⟨rfl, b1⟩; have x1 := HT.out.below b1; have k1 := x1.keep; unfold KS at k1; have q1 := x1.res)
                | ((with_reducible refine (HM.out w1).mono ?_); rintro e w2 ⟨rfl, b2⟩; have x2 := x1.below b2; have k2 := x2.keep; unfold KS at k2; have q2 := x2.res)))
            obtain ⟨z1, z2⟩ := x2.ret (.int .i64 0) (.bool false) (.string ⟨#[]⟩) (.int .i64 0)
            exact bodyPost_ret (res_bk_t rfl _ z1 rfl Tryz.underlying23 rfl (by kernel_rfl)) rfl ⟨rfl, z2⟩
          · rw [if_neg (by rintro (e | e | e); exact h1 e; cases e; exact h2 e)]
            have h2' := h2
            rw [← size_of l'] at h2'
            have h3 : ¬ (32 : Int) < ((⟨l'.toArray⟩ : ByteArray).size : Int) := by omega
            have d3 := decide_eq_false h3
            by_cases h0 : l = []
            · rw [if_pos h0]
              obtain ⟨e1, e2⟩ := empS h0
              clear h0 h1 hF' hf' h2 h2' hms
              unfold dec str at *
              dsimp only
              generalize (⟨l.toArray⟩ : ByteArray) = S at *
              generalize (⟨l'.toArray⟩ : ByteArray) = S' at *
              clear T
              go_enter Tryz.func17, Tryz.ntmps17
              skip
              go_wp2_with (first
                | (go_at_call 18; first
                  | ((with_reducible refine (HA.out).mono ?_); rintro e w1 ⟨rfl, b1⟩; have x1 := HT.out.below b1; have k1 := x1.keep; unfold KS at k1; have q1 := x1.res)
                  | ((with_reducible refine (HM.out w1).mono ?_); rintro e w2 ⟨rfl, b2⟩; have x2 := x1.below b2; have k2 := x2.keep; unfold KS at k2; have q2 := x2.res)))
              obtain ⟨z1, z2⟩ := x2.ret (.int .i64 c) (.bool g) (.string S) (.int .i64 x)
              exact bodyPost_ret (res_bk_t rfl _ z1 rfl Tryz.underlying23 rfl (by kernel_rfl)) rfl ⟨rfl, z2⟩
            · rw [if_neg h0]
              obtain ⟨rfl, hF, hf⟩ := may_str hm h0
              obtain ⟨mo, rfl⟩ : ∃ mo : Nat, mode = mo := ⟨mode.toNat, by omega⟩
              obtain ⟨f1, f2, f3⟩ := hf
              obtain ⟨f1', f2', f3'⟩ := hf'
              have HOF := Lib.hid (fun w1 => nof_calls false l' x' w1 hF' f1')
              have HTL := Lib.hid (fun (A : Option Addr) (n c : Nat) (w1 : World) (h : SI w1 .u32 A n c (digs V (nv 0 l'))) => ntold_calls (mode := mo) (by omega) g false l x A n c (nv 0 l') x' w1 hF f1 h hF'.pos (nv_10 hF') f1' (by omega) (by omega))
              have hpos := hF.len
              rw [← size_of l] at hpos
              obtain ⟨e1, e2⟩ := emp hpos
              rw [show (mo : Int).toNat = mo by omega]
              unfold Ans at HTL
              unfold GivesN at HOF
              obtain ⟨G, L, X, e4⟩ := oc_four g (told g (rto mo g (nv 0 l) x (nv 0 l') x' * nv 0 l') x')
              rw [e4] at HTL ⊢
              generalize oe (told g (rto mo g (nv 0 l) x (nv 0 l') x' * nv 0 l') x') = er at *
              generalize digs V (nv 0 l') = du at *
              clear h0 h1 h2 h2' hF hF' f1 f2 f3 f1' f2' f3' hms hm e4
              unfold dec str at *
              dsimp only
              generalize (⟨l.toArray⟩ : ByteArray) = S at *
              generalize (⟨l'.toArray⟩ : ByteArray) = S' at *
              clear T
              go_enter Tryz.func17, Tryz.ntmps17
              go_wp2_with (first
                | (go_at_call 18; first
                  | ((with_reducible refine (HA.out).mono ?_); rintro e w1 ⟨rfl, b1⟩; have x1 := HT.out.below b1; have k1 := x1.keep; unfold KS at k1)
                  | ((with_reducible refine (HM.out w1).mono ?_); rintro e w2 ⟨rfl, b2⟩; have x2 := x1.below b2; have k2 := x2.keep; unfold KS at k2)))
              have zf := x2.drew
              have kf := zf.keep
              unfold KS at kf
              clear k1 k2
              go_region_held3 (fun w' => w'.cell? ⟨w.heap.size, 0, none⟩ = some (.int .i64 0) ∧ w'.cell? ⟨w.heap.size, 1, none⟩ = some (.bool g) ∧ w'.cell? ⟨w.heap.size, 2, none⟩ = some (.string S) ∧ w'.cell? ⟨w.heap.size, 3, none⟩ = some (.int .i64 x) ∧ w'.cell? ⟨w.heap.size + 1, 0, none⟩ = some (.int .i64 0) ∧ w'.cell? ⟨w.heap.size + 1, 1, none⟩ = some (.bool false) ∧ w'.cell? ⟨w.heap.size + 1, 2, none⟩ = some (.string S') ∧ w'.cell? ⟨w.heap.size + 1, 3, none⟩ = some (.int .i64 x'))
                (first
                  | (with_reducible exact kf)
                  | (with_reducible exact k3)
                  | (with_reducible exact k4)
                  | (with_reducible exact f4))
                (first
                  | (go_at_call 30; (with_reducible refine (HOF.out _).mono ?_); rintro e w3 ⟨A3, n3, c3, rfl, r3, b3⟩; have x3 := zf.below b3; have k3 := x3.keep; unfold KS at k3)
                  | (go_at_call 34; (with_reducible refine (HTL.out A3 n3 c3 w3 r3).mono ?_); rintro e w4 ⟨rfl, b4⟩; have x4 := x3.below b4; have k4 := x4.keep; unfold KS at k4; have f4 := x4.fars (.int .i64 0) (.bool G) (.string L) (.int .i64 X); unfold KS at f4; have q4 := x4.res))
              go_wp2
              obtain ⟨z1, z2⟩ := x4.ret (.int .i64 0) (.bool G) (.string L) (.int .i64 X)
              exact bodyPost_ret (res_bk_t rfl _ z1 rfl Tryz.underlying23 rfl (by kernel_rfl)) rfl ⟨rfl, z2⟩
        · rw [if_pos (.inr (.inl rfl))]
          clear h1 hF' hf' hms
          unfold dec str at *
          dsimp only
          generalize (⟨l.toArray⟩ : ByteArray) = S at *
          generalize (⟨l'.toArray⟩ : ByteArray) = S' at *
          clear T
          go_enter Tryz.func17, Tryz.ntmps17
          skip
          go_wp2_with (first
            | (go_at_call 18; first
              | ((with_reducible refine (HA.out).mono ?_); rintro e w1 ⟨rfl, b1⟩; have x1 := HT.out.below b1; have k1 := x1.keep; unfold KS at k1; have q1 := x1.res)
              | ((with_reducible refine (HM.out w1).mono ?_); rintro e w2 ⟨rfl, b2⟩; have x2 := x1.below b2; have k2 := x2.keep; unfold KS at k2; have q2 := x2.res)))
          obtain ⟨z1, z2⟩ := x2.ret (.int .i64 0) (.bool false) (.string ⟨#[]⟩) (.int .i64 0)
          exact bodyPost_ret (res_bk_t rfl _ z1 rfl Tryz.underlying23 rfl (by kernel_rfl)) rfl ⟨rfl, z2⟩
theorem stV_four (c : Int) (g : Bool) (l : List UInt8) (x : Int) (c' : Int) (g' : Bool) (l' : List UInt8) (x' mode : Int) : ∃ c4 g4 l4 x4, (stV c g l x c' g' l' x' mode).1 = #[.int .i64 c4, .bool g4, .string l4, .int .i64 x4] := by
  unfold stV
  split
  · exact ⟨_, _, _, _, rfl⟩
  · split
    · exact ⟨_, _, _, _, rfl⟩
    · split
      · exact ⟨_, _, _, _, rfl⟩
      · split
        · exact ⟨_, _, _, _, rfl⟩
        · obtain ⟨G, L, X, e⟩ := oc_four g (told g (rto mode.toNat g (nv 0 l) x (nv 0 l') x' * nv 0 l') x')
          exact ⟨0, G, L, X, e⟩
attribute [local go_sem ↓] eq_dec
set_option maxHeartbeats 8000000 in
set_option maxRecDepth 100000 in
theorem roundSteps_calls (c : Int) (g : Bool) (l : List UInt8) (x : Int) (c' : Int) (g' : Bool) (l' : List UInt8) (x' mode : Int) (w : World) (hp : Pow w) (hl : l.length ≤ 9223372036854775807) (hl' : l'.length ≤ 9223372036854775807) :
    Calls Tryz.prog 5 #[.agg (dec c g l x), .agg (dec c' g' l' x'), .int .i64 mode] w fun e w' => e = .returned (.bool true) ∧ Below w.heap.size w w' := by
  obtain ⟨D0, E0, b0⟩ := bk_two w #[.int .i64 c, .bool g, .string ⟨l.toArray⟩, .int .i64 x] #[.int .i64 c', .bool g', .string ⟨l'.toArray⟩, .int .i64 x'] 23 23
  have H1 := Lib.hid (step_calls c g l x c' g' l' x' mode _ (hp.below b0) hl hl')
  have H2 := Lib.hid (fun w1 => nstep_calls c g l x c' g' l' x' mode w1)
  have HA := Lib.hid (fun W (bl : Below w.heap.size w W) => awake_calls W (hp.below bl))
  have B0 := Lib.hid b0
  have HD := Lib.hid D0
  have HE := Lib.hid E0
  have ng := no_guard
  unfold Res at H1 H2
  obtain ⟨c4, g4, l4, x4, e4⟩ := stV_four c g l x c' g' l' x' mode
  rw [e4] at H1 H2
  generalize (stV c g l x c' g' l' x' mode).2 = er at *
  unfold dec str at *
  generalize (⟨l.toArray⟩ : ByteArray) = S at *
  generalize (⟨l'.toArray⟩ : ByteArray) = S' at *
  clear hp b0 e4 D0 E0
  go_enter Tryz.func5, Tryz.ntmps5
  go_wp2_with (first
    | (go_at_call 16; (with_reducible refine H1.out.mono ?_); rintro e w1 ⟨rfl, b1⟩; have d1 := (HD.out.below b1).alloc (.cells #[.int .i64 c4, .bool g4, .string l4, .int .i64 x4] 23); have k1 := four d1; have d2 := (HE.out.below b1).alloc (.cells #[.int .i64 c4, .bool g4, .string l4, .int .i64 x4] 23); have k2 := four d2)
    | (go_at_call 17; (with_reducible refine (H2.out _).mono ?_); rintro e w2 ⟨rfl, b2⟩; have y2 := ((Bk.start w1 23 #[.int .i64 c4, .bool g4, .string l4, .int .i64 x4]).below b2).alloc (.cells #[.int .i64 c4, .bool g4, .string l4, .int .i64 x4] 23); have z2 := Bk.start w2 23 #[.int .i64 c4, .bool g4, .string l4, .int .i64 x4]; have l2 := on (on (on (on B0.out b1) (alloc_below w1 _)) b2) (alloc_below w2 (.cells #[.int .i64 c4, .bool g4, .string l4, .int .i64 x4] 23)))
    | (go_at_call 13; (with_reducible refine (HA.out _ l2).mono ?_); rintro e w3 ⟨rfl, b3⟩; have y3 := four (y2.below b3); have z3 := four (z2.below b3); have l3 := on l2 b3))
  go_ret
  exact ⟨rfl, l3⟩
end Go.Proofs.YtllpggdmkdgggaaGreatDoor.Dc
