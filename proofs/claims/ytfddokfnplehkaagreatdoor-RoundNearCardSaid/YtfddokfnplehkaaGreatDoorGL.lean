/- Texts of one layer, joined: Dk, Dl, Dm, Dn, Do. -/
import Derived.Test.YtfddokfnplehkaaGreatDoorGK
import Derived.Test.YtfddokfnplehkaaGreatDoorGF
set_option linter.unusedVariables false
set_option linter.unusedSimpArgs false
set_option linter.unusedSectionVars false
/- Layer 6: round.to whole; power, asked, At, Digits, Step. -/
set_option linter.unusedSimpArgs false
set_option linter.unusedVariables false
namespace Go.Proofs.YtfddokfnplehkaaGreatDoor.Dc
open Go.RowKit Go.Proofs.YtfddokfnplehkaaGreatDoor.Dig Go.Proofs.YtfddokfnplehkaaGreatDoor.W Go.Proofs.YtfddokfnplehkaaGreatDoor.Nat Go.Proofs.YtfddokfnplehkaaGreatDoor.Wh Go.Proofs.YtfddokfnplehkaaGreatDoor.Td Go.Proofs.YtfddokfnplehkaaGreatDoor.Bu Go.Proofs.YtfddokfnplehkaaGreatDoor.Tx Go.Proofs.YtfddokfnplehkaaGreatDoor.Sp Go.Proofs.YtfddokfnplehkaaGreatDoor.Rd

/-- what comes of a number, as a call's answer -/
def Ans (w : World) (g : Bool) (o : Option (List UInt8 × Int)) (e : Ending) (w' : World) : Prop :=
  e = .returned (.tuple #[.agg (oc g o), .int .i64 (oe o)]) ∧ Below w.heap.size w w'
theorem to_calls {mode : Nat} (hm : mode < 8) (g : Bool) (l : List UInt8) (x : Int) (A : Option Addr) (n c u : Nat) (y : Int) (w : World) (hp : Pow w) (hF : Formed l) (hf : l.length ≤ 1000) (h : SI w .u64 A n c (digs U u)) (hu : 0 < u) {K : Nat} (hu2 : Lo u K) (hK : K ≤ 1000)
    (hx : -4090 ≤ x ∧ x ≤ 4090) (hy : -4090 ≤ y ∧ y ≤ 4090) :
    Calls Tryz.prog 56 #[.agg (dec 0 g l x), .slice A n c, .int .i64 y, .int .i64 (mode : Nat)] w (Ans w g (told g (rto mode g (nv 0 l) x u y * u) y)) := by
  obtain ⟨k1, hk1⟩ : ∃ k1 : Nat, x - min x y = k1 := ⟨(x - min x y).toNat, by omega⟩
  obtain ⟨k2, hk2⟩ : ∃ k2 : Nat, y - min x y = k2 := ⟨(y - min x y).toNat, by omega⟩
  have hU : u * 10 ^ k2 ≠ 0 := Nat.pos_iff_ne_zero.1 (Nat.mul_pos hu (Nat.pow_pos (by omega)))
  have e1 : (x - min x y).toNat = k1 := by omega
  have e2 : (y - min x y).toNat = k2 := by omega
  unfold Ans rto rnd
  rw [e1, e2]
  by_cases hR : nv 0 l * 10 ^ k1 % (u * 10 ^ k2) = 0
  · rw [if_pos hR]
    exact to_even g l x A n c u k1 k2 y _ w hp hF hf h hu hu2 hK hx hy rfl hk1 hk2 hR
  · rw [if_neg hR, Nat.two_mul]
    by_cases hQ : nv 0 l * 10 ^ k1 / (u * 10 ^ k2) = 0
    · exact to_less hm _ g l x A n c u k1 k2 y _ w hp hF hf h hu hu2 hK hx hy rfl hk1 hk2 hR hQ rfl
    · exact to_more hm _ g l x A n c u k1 k2 y _ w hp hF hf h hu hu2 hK hx hy rfl hk1 hk2 hR hQ rfl
theorem to_one {mode : Nat} (hm : mode < 8) (g : Bool) (l : List UInt8) (x : Int) (A : Option Addr) (n c : Nat) (y : Int) (w : World) (hp : Pow w) (hF : Formed l) (hf : l.length ≤ 1000) (h : SI w .u64 A n c (digs U 1))
    (hx : -4090 ≤ x ∧ x ≤ 4090) (hy : -4090 ≤ y ∧ y ≤ 4090) :
    Calls Tryz.prog 56 #[.agg (dec 0 g l x), .slice A n c, .int .i64 y, .int .i64 (mode : Nat)] w (Ans w g (told g (rto mode g (nv 0 l) x 1 y) y)) := by
  have e := to_calls hm g l x A n c 1 y w hp hF hf h (by omega) Lo.one (by omega) hx hy
  rwa [Nat.mul_one] at e
theorem made_one (g : Bool) (A : Option Addr) (n c : Nat) (y : Int) (w : World) (hp : Pow w) (h : SI w .u64 A n c (digs U 1)) (hy : -4090 ≤ y ∧ y ≤ 4090) :
    Calls Tryz.prog 91 #[.bool g, .slice A n c, .int .i64 y] w (Ans w g (told g 1 y)) :=
  made_calls g A n c 1 1 y w hp h Lo.one (by omega) (by omega) (by omega)
/-- a number rounded to the multiples of 10^y -/
def pw (mode : Nat) (g : Bool) (l : List UInt8) (x y : Int) : Option (List UInt8 × Int) := told g (rto mode g (nv 0 l) x 1 y) y
theorem pw_low {mode : Nat} {g : Bool} {l : List UInt8} {x y : Int} (h : Formed l) (hf : fits l x) (hy : y ≤ x) : pw mode g l x y = some (l, x) := by
  have e := rto_low (mode := mode) (g := g) h hf hy
  rwa [Nat.mul_one] at e
set_option maxHeartbeats 8000000 in
set_option maxRecDepth 100000 in
theorem power_low {mode : Nat} (g : Bool) (l : List UInt8) (x y : Int) (w : World) (hy : y ≤ x) :
    Calls Tryz.prog 92 #[.agg (dec 0 g l x), .int .i64 y, .int .i64 (mode : Nat)] w (Ans w g (some (l, x))) := by
  have T := TB.start w g ⟨l.toArray⟩ x
  unfold Ans oc oe dec str
  dsimp only
  generalize (⟨l.toArray⟩ : ByteArray) = S at *
  have d1 : decide (y ≤ x) = true := decide_eq_true hy
  have HT := Lib.hid T
  clear T
  go_enter Tryz.func92, Tryz.ntmps92
  go_wp2
  obtain ⟨h1, h2, h3⟩ := bk_two w #[.int .i64 0, .bool g, .string S, .int .i64 x] #[.int .i64 0, .bool g, .string S, .int .i64 x] 23 23
  exact bodyPost_ret (res_bk_t rfl _ h2 rfl Tryz.underlying23 rfl (by kernel_rfl)) rfl ⟨rfl, h3⟩
section
variable {w W : World} {g : Bool} {S : ByteArray} {x : Int}
theorem TB.keep (h : TB w W g S x) : W.cell? ⟨w.heap.size, 0, none⟩ = some (.int .i64 0) ∧ W.cell? ⟨w.heap.size, 1, none⟩ = some (.bool g) ∧ W.cell? ⟨w.heap.size, 2, none⟩ = some (.string S) ∧ W.cell? ⟨w.heap.size, 3, none⟩ = some (.int .i64 x) := four h.a
theorem TB.fars (h : TB w W g S x) (a b c d : Value) : ((((W.setCell ⟨w.heap.size + 1, 0, none⟩ a).setCell ⟨w.heap.size + 1, 1, none⟩ b).setCell ⟨w.heap.size + 1, 2, none⟩ c).setCell ⟨w.heap.size + 1, 3, none⟩ d).cell? ⟨w.heap.size, 0, none⟩ = some (.int .i64 0) ∧
    ((((W.setCell ⟨w.heap.size + 1, 0, none⟩ a).setCell ⟨w.heap.size + 1, 1, none⟩ b).setCell ⟨w.heap.size + 1, 2, none⟩ c).setCell ⟨w.heap.size + 1, 3, none⟩ d).cell? ⟨w.heap.size, 1, none⟩ = some (.bool g) ∧
    ((((W.setCell ⟨w.heap.size + 1, 0, none⟩ a).setCell ⟨w.heap.size + 1, 1, none⟩ b).setCell ⟨w.heap.size + 1, 2, none⟩ c).setCell ⟨w.heap.size + 1, 3, none⟩ d).cell? ⟨w.heap.size, 2, none⟩ = some (.string S) ∧
    ((((W.setCell ⟨w.heap.size + 1, 0, none⟩ a).setCell ⟨w.heap.size + 1, 1, none⟩ b).setCell ⟨w.heap.size + 1, 2, none⟩ c).setCell ⟨w.heap.size + 1, 3, none⟩ d).cell? ⟨w.heap.size, 3, none⟩ = some (.int .i64 x) := by
  have k : ∀ {V : World} (p : Addr) (v : Value), p.block ≠ w.heap.size → Bk V w.heap.size 23 #[.int .i64 0, .bool g, .string S, .int .i64 x] → Bk (V.setCell p v) w.heap.size 23 #[.int .i64 0, .bool g, .string S, .int .i64 x] := fun p v hne hk => hk.far v (fun e => hne e.symm)
  have hne : ∀ j, (⟨w.heap.size + 1, j, none⟩ : Addr).block ≠ w.heap.size := fun j => by show w.heap.size + 1 ≠ w.heap.size; omega
  exact four (k _ _ (hne _) (k _ _ (hne _) (k _ _ (hne _) (k _ _ (hne _) h.a))))
end
set_option maxHeartbeats 8000000 in
set_option maxRecDepth 100000 in
theorem power_high {mode : Nat} (hm : mode < 8) (g : Bool) (l : List UInt8) (x y : Int) (w : World) (hp : Pow w) (hF : Formed l) (hf : fits l x) (hy : (l.length : Int) + x + 1 < y) (hyb : -4090 ≤ y ∧ y ≤ 4090) :
    Calls Tryz.prog 92 #[.agg (dec 0 g l x), .int .i64 y, .int .i64 (mode : Nat)] w (Ans w g (pw mode g l x y)) := by
  unfold pw
  rw [rto_high hF hy]
  have HPl := Lib.hid (fun w1 => place_calls g l x w1 hF hf)
  have HUP := Lib.hid (fun w1 => up_calls hm g false (half := -1) (.inl rfl) w1)
  obtain ⟨f1, f2, f3⟩ := hf
  have T := TB.start w g ⟨l.toArray⟩ x
  have hlen := hF.len
  unfold Ans dec str
  unfold dec str at HPl
  have hs := size_of l
  rw [← hs] at HPl hy hlen f1 f2 f3
  generalize (⟨l.toArray⟩ : ByteArray) = S at *
  have d1 : decide (y ≤ x) = false := decide_eq_false (by omega)
  have d2 : decide ((S.size : Int) + x + 1 < y) = true := decide_eq_true hy
  have HT := Lib.hid T
  have HW := Lib.hid (hp.below T.bl)
  generalize hb : up mode g false (-1) = b at *
  clear T hs hp hF hb
  cases b
  · rw [show (false : Bool).toNat = 0 from rfl, told_zero]
    unfold oc oe dec str
    dsimp only
    go_enter Tryz.func92, Tryz.ntmps92
    go_wp2_with (first
      | (go_at_call 93; (with_reducible refine (HPl.out _).mono ?_); rintro e w1 ⟨rfl, b1⟩; have x1 := HT.out.below b1; have y1 := x1.neg)
      | (go_at_call 90; (with_reducible refine (HUP.out _).mono ?_); rintro e w2 ⟨rfl, b2⟩; have x2 := (x1.alloc (.cells #[.bool g, .bool false, .int .i64 (-1)] 124)).below b2; have y2 := x2.neg; have q2 := x2.res))
    obtain ⟨z1, z2⟩ := x2.ret (.int .i64 0) (.bool g) (.string ⟨#[]⟩) (.int .i64 0)
    exact bodyPost_ret (res_bk_t rfl _ z1 rfl Tryz.underlying23 rfl (by kernel_rfl)) rfl ⟨rfl, z2⟩
  · rw [show (true : Bool).toNat = 1 from rfl]
    have HMA := Lib.hid (fun (A : Option Addr) (n c : Nat) (w1 : World) (hp : Pow w1) (h : SI w1 .u64 A n c (digs U 1)) => made_one g A n c y w1 hp h hyb)
    unfold Ans at HMA
    obtain ⟨g', L', x', e4⟩ := oc_four g (told g 1 y)
    rw [e4] at HMA ⊢
    generalize oe (told g 1 y) = er at *
    clear e4
    go_enter Tryz.func92, Tryz.ntmps92
    go_wp2_with (first
      | (go_at_call 93; (with_reducible refine (HPl.out _).mono ?_); rintro e w1 ⟨rfl, b1⟩; have x1 := HT.out.below b1; have y1 := x1.neg)
      | (go_at_call 90; (with_reducible refine (HUP.out _).mono ?_); rintro e w2 ⟨rfl, b2⟩; have x2 := (x1.alloc (.cells #[.bool g, .bool false, .int .i64 (-1)] 124)).below b2; have p2 := ((HW.out.below b1).below (alloc_below _ (.cells #[.bool g, .bool false, .int .i64 (-1)] 124))).below b2))
    have zf := x2.drew
    have kf := zf.neg
    have pf := p2.below (Below.refl _ _).drew
    clear y1
    go_region_held3 (fun w' => w'.cell? ⟨w.heap.size, 1, none⟩ = some (.bool g))
      (first
        | (with_reducible exact kf)
        | (with_reducible exact k3)
        | (with_reducible exact k4)
        | (with_reducible exact f4))
      (first
        | (go_at_call 71; (with_reducible refine (of_lit1 _).mono ?_); rintro e w3 ⟨v3, rfl, o3, b3⟩; obtain ⟨A3, n3, c3, rfl, r3⟩ := o3.reads_n; have z3 := zf.below b3; have k3 := z3.neg)
        | (go_at_call 91; (with_reducible refine (HMA.out A3 n3 c3 w3 (pf.below b3) r3).mono ?_); rintro e w4 ⟨rfl, b4⟩; have z4 := z3.below b4; have k4 := z4.neg; have f4 := z4.far (.int .i64 0) (.bool g') (.string L') (.int .i64 x'); have q4 := z4.res))
    go_wp2
    obtain ⟨z1, z2⟩ := z4.ret (.int .i64 0) (.bool g') (.string L') (.int .i64 x')
    exact bodyPost_ret (res_bk_t rfl _ z1 rfl Tryz.underlying23 rfl (by kernel_rfl)) rfl ⟨rfl, z2⟩
set_option maxHeartbeats 8000000 in
set_option maxRecDepth 100000 in
theorem power_mid {mode : Nat} (hm : mode < 8) (g : Bool) (l : List UInt8) (x y : Int) (w : World) (hp : Pow w) (hF : Formed l) (hf : fits l x) (hy : x < y) (hy2 : y ≤ (l.length : Int) + x + 1) :
    Calls Tryz.prog 92 #[.agg (dec 0 g l x), .int .i64 y, .int .i64 (mode : Nat)] w (Ans w g (pw mode g l x y)) := by
  unfold pw
  have HPl := Lib.hid (fun w1 => place_calls g l x w1 hF hf)
  obtain ⟨f1, f2, f3⟩ := hf
  have hlen := hF.len
  have HTO := Lib.hid (fun (A : Option Addr) (n c : Nat) (w1 : World) (hp : Pow w1) (h : SI w1 .u64 A n c (digs U 1)) => to_one hm g l x A n c y w1 hp hF f1 h (by omega) (by omega))
  have T := TB.start w g ⟨l.toArray⟩ x
  unfold Ans at HTO ⊢
  obtain ⟨g', L', x', e4⟩ := oc_four g (told g (rto mode g (nv 0 l) x 1 y) y)
  rw [e4] at HTO ⊢
  generalize oe (told g (rto mode g (nv 0 l) x 1 y) y) = er at *
  clear e4
  unfold dec str at HPl HTO ⊢
  have hs := size_of l
  rw [← hs] at HPl hy2 hlen f1 f2 f3
  generalize (⟨l.toArray⟩ : ByteArray) = S at *
  have d1 : decide (y ≤ x) = false := decide_eq_false (by omega)
  have d2 : decide ((S.size : Int) + x + 1 < y) = false := decide_eq_false (by omega)
  have HT := Lib.hid T
  have HW := Lib.hid (hp.below T.bl)
  clear T hs hp hF
  go_enter Tryz.func92, Tryz.ntmps92
  go_wp2_with (first
    | (go_at_call 93; (with_reducible refine (HPl.out _).mono ?_); rintro e w1 ⟨rfl, b1⟩; have x1 := HT.out.below b1; have p1 := HW.out.below b1))
  have zf := x1.drew
  have kf := zf.keep
  have pf := p1.below (Below.refl _ _).drew
  go_region_held3 (fun w' => w'.cell? ⟨w.heap.size, 0, none⟩ = some (.int .i64 0) ∧ w'.cell? ⟨w.heap.size, 1, none⟩ = some (.bool g) ∧ w'.cell? ⟨w.heap.size, 2, none⟩ = some (.string S) ∧ w'.cell? ⟨w.heap.size, 3, none⟩ = some (.int .i64 x))
    (first
      | (with_reducible exact kf)
      | (with_reducible exact k3)
      | (with_reducible exact k4)
      | (with_reducible exact f4))
    (first
      | (go_at_call 71; (with_reducible refine (of_lit1 _).mono ?_); rintro e w3 ⟨v3, rfl, o3, b3⟩; obtain ⟨A3, n3, c3, rfl, r3⟩ := o3.reads_n; have z3 := zf.below b3; have k3 := z3.keep)
      | (go_at_call 56; (with_reducible refine (HTO.out A3 n3 c3 w3 (pf.below b3) r3).mono ?_); rintro e w4 ⟨rfl, b4⟩; have z4 := z3.below b4; have k4 := z4.keep; have f4 := z4.fars (.int .i64 0) (.bool g') (.string L') (.int .i64 x'); have q4 := z4.res))
  go_wp2
  obtain ⟨z1, z2⟩ := z4.ret (.int .i64 0) (.bool g') (.string L') (.int .i64 x')
  exact bodyPost_ret (res_bk_t rfl _ z1 rfl Tryz.underlying23 rfl (by kernel_rfl)) rfl ⟨rfl, z2⟩
theorem power_calls {mode : Nat} (hm : mode < 8) (g : Bool) (l : List UInt8) (x y : Int) (w : World) (hp : Pow w) (hF : Formed l) (hf : fits l x) (hyb : -4090 ≤ y ∧ y ≤ 4090) :
    Calls Tryz.prog 92 #[.agg (dec 0 g l x), .int .i64 y, .int .i64 (mode : Nat)] w (Ans w g (pw mode g l x y)) := by
  by_cases h1 : y ≤ x
  · rw [pw_low hF hf h1]
    exact power_low g l x y w h1
  · by_cases h2 : (l.length : Int) + x + 1 < y
    · exact power_high hm g l x y w hp hF hf h2 hyb
    · exact power_mid hm g l x y w hp hF hf (by omega) (by omega)
end Go.Proofs.YtfddokfnplehkaaGreatDoor.Dc

/- Layer 6: asked, At, Digits. -/
set_option linter.unusedSimpArgs false
set_option linter.unusedVariables false
namespace Go.Proofs.YtfddokfnplehkaaGreatDoor.Dc
open Go.RowKit Go.Proofs.YtfddokfnplehkaaGreatDoor.Dig Go.Proofs.YtfddokfnplehkaaGreatDoor.W Go.Proofs.YtfddokfnplehkaaGreatDoor.Nat Go.Proofs.YtfddokfnplehkaaGreatDoor.Wh Go.Proofs.YtfddokfnplehkaaGreatDoor.Td Go.Proofs.YtfddokfnplehkaaGreatDoor.Bu Go.Proofs.YtfddokfnplehkaaGreatDoor.Tx Go.Proofs.YtfddokfnplehkaaGreatDoor.Sp Go.Proofs.YtfddokfnplehkaaGreatDoor.Rd

/-- a box of four cells and the result's cell -/
structure TV (w W : World) (a0 a1 a2 a3 : Value) : Prop where
  a : Bk W w.heap.size 23 #[a0, a1, a2, a3]
  r : Bk W (w.heap.size + 1) 23 #[.int .i64 0, .bool false, .string ⟨#[]⟩, .int .i64 0]
  bl : Below w.heap.size w W
section
variable {w W W' : World} {a0 a1 a2 a3 : Value}
theorem TV.start (w : World) (a0 a1 a2 a3 : Value) : TV w ((w.alloc (.cells #[a0, a1, a2, a3] 23)).alloc (.cells #[.int .i64 0, .bool false, .string ⟨#[]⟩, .int .i64 0] 23)) a0 a1 a2 a3 := by
  obtain ⟨h1, h2, h3⟩ := bk_two w #[a0, a1, a2, a3] #[.int .i64 0, .bool false, .string ⟨#[]⟩, .int .i64 0] 23 23
  exact ⟨h1, h2, h3⟩
theorem TV.below (h : TV w W a0 a1 a2 a3) (hb : Below W.heap.size W W') : TV w W' a0 a1 a2 a3 := ⟨h.a.below hb, h.r.below hb, on h.bl hb⟩
theorem TV.drew (h : TV w W a0 a1 a2 a3) : TV w W.drew a0 a1 a2 a3 := ⟨h.a.drew, h.r.drew, h.bl.drew⟩
theorem TV.alloc (h : TV w W a0 a1 a2 a3) (o : Obj) : TV w (W.alloc o) a0 a1 a2 a3 := h.below (alloc_below _ _)
theorem TV.keep (h : TV w W a0 a1 a2 a3) : W.cell? ⟨w.heap.size, 0, none⟩ = some a0 ∧ W.cell? ⟨w.heap.size, 1, none⟩ = some a1 ∧ W.cell? ⟨w.heap.size, 2, none⟩ = some a2 ∧ W.cell? ⟨w.heap.size, 3, none⟩ = some a3 := four h.a
theorem TV.res (h : TV w W a0 a1 a2 a3) : W.cell? ⟨w.heap.size + 1, 0, none⟩ = some (.int .i64 0) ∧ W.cell? ⟨w.heap.size + 1, 1, none⟩ = some (.bool false) ∧ W.cell? ⟨w.heap.size + 1, 2, none⟩ = some (.string ⟨#[]⟩) ∧ W.cell? ⟨w.heap.size + 1, 3, none⟩ = some (.int .i64 0) ∧
    W.frozen? ⟨w.heap.size + 1, 0, none⟩ = false ∧ W.frozen? ⟨w.heap.size + 1, 1, none⟩ = false ∧ W.frozen? ⟨w.heap.size + 1, 2, none⟩ = false ∧ W.frozen? ⟨w.heap.size + 1, 3, none⟩ = false :=
  ⟨h.r.at_ 0 rfl, h.r.at_ 1 rfl, h.r.at_ 2 rfl, h.r.at_ 3 rfl, h.r.fr 0, h.r.fr 1, h.r.fr 2, h.r.fr 3⟩
theorem TV.fars (h : TV w W a0 a1 a2 a3) (a b c d : Value) : ((((W.setCell ⟨w.heap.size + 1, 0, none⟩ a).setCell ⟨w.heap.size + 1, 1, none⟩ b).setCell ⟨w.heap.size + 1, 2, none⟩ c).setCell ⟨w.heap.size + 1, 3, none⟩ d).cell? ⟨w.heap.size, 0, none⟩ = some a0 ∧
    ((((W.setCell ⟨w.heap.size + 1, 0, none⟩ a).setCell ⟨w.heap.size + 1, 1, none⟩ b).setCell ⟨w.heap.size + 1, 2, none⟩ c).setCell ⟨w.heap.size + 1, 3, none⟩ d).cell? ⟨w.heap.size, 1, none⟩ = some a1 ∧
    ((((W.setCell ⟨w.heap.size + 1, 0, none⟩ a).setCell ⟨w.heap.size + 1, 1, none⟩ b).setCell ⟨w.heap.size + 1, 2, none⟩ c).setCell ⟨w.heap.size + 1, 3, none⟩ d).cell? ⟨w.heap.size, 2, none⟩ = some a2 ∧
    ((((W.setCell ⟨w.heap.size + 1, 0, none⟩ a).setCell ⟨w.heap.size + 1, 1, none⟩ b).setCell ⟨w.heap.size + 1, 2, none⟩ c).setCell ⟨w.heap.size + 1, 3, none⟩ d).cell? ⟨w.heap.size, 3, none⟩ = some a3 := by
  have k : ∀ {V : World} (p : Addr) (v : Value), p.block ≠ w.heap.size → Bk V w.heap.size 23 #[a0, a1, a2, a3] → Bk (V.setCell p v) w.heap.size 23 #[a0, a1, a2, a3] := fun p v hne hk => hk.far v (fun e => hne e.symm)
  have hne : ∀ j, (⟨w.heap.size + 1, j, none⟩ : Addr).block ≠ w.heap.size := fun j => by show w.heap.size + 1 ≠ w.heap.size; omega
  exact four (k _ _ (hne _) (k _ _ (hne _) (k _ _ (hne _) (k _ _ (hne _) h.a))))
theorem TV.ret (h : TV w W a0 a1 a2 a3) (a b c d : Value) : Bk ((((W.setCell ⟨w.heap.size + 1, 0, none⟩ a).setCell ⟨w.heap.size + 1, 1, none⟩ b).setCell ⟨w.heap.size + 1, 2, none⟩ c).setCell ⟨w.heap.size + 1, 3, none⟩ d) (w.heap.size + 1) 23 #[a, b, c, d] ∧
    Below w.heap.size w ((((W.setCell ⟨w.heap.size + 1, 0, none⟩ a).setCell ⟨w.heap.size + 1, 1, none⟩ b).setCell ⟨w.heap.size + 1, 2, none⟩ c).setCell ⟨w.heap.size + 1, 3, none⟩ d) :=
  ⟨h.r.set4 a b c d rfl, below_set4 h.bl (by omega) a b c d⟩
end
/-- what is wrong with a number and a mode -/
def askE (m : Bool) (mode : Int) : Int := if m = false then 52 else if mode < 0 ∨ 8 ≤ mode then 60 else 0
set_option maxHeartbeats 4000000 in
set_option maxRecDepth 100000 in
theorem asked_calls (c : Int) (g : Bool) (l : List UInt8) (x mode : Int) (w : World) (hl : l.length ≤ 9223372036854775807) :
    Calls Tryz.prog 53 #[.agg (dec c g l x), .int .i64 mode] w fun e w' => e = .returned (.int .i64 (askE (mayB c g l x) mode)) ∧ Below w.heap.size w w' := by
  have HM := Lib.hid (dmay_calls c g l x (w.alloc (.cells (dec c g l x) 23)) hl)
  have HB := Lib.hid (alloc_below w (.cells (dec c g l x) 23))
  unfold dec str at *
  generalize (⟨l.toArray⟩ : ByteArray) = S at *
  generalize mayB c g l x = m at *
  cases m
  · go_enter Tryz.func53, Tryz.ntmps53
    go_wp2_with (go_at_call 54; (with_reducible refine HM.out.mono ?_); rintro e w1 ⟨rfl, b1⟩)
    go_ret
    exact ⟨rfl, on HB.out b1⟩
  · by_cases h1 : mode < 0
    · have d1 := decide_eq_true h1
      have he : askE true mode = 60 := by unfold askE; rw [if_neg (by decide), if_pos (.inl h1)]
      rw [he]
      go_enter Tryz.func53, Tryz.ntmps53
      go_wp2_with (go_at_call 54; (with_reducible refine HM.out.mono ?_); rintro e w1 ⟨rfl, b1⟩)
      go_ret
      exact ⟨rfl, on HB.out b1⟩
    · have d1 := decide_eq_false h1
      by_cases h2 : 8 ≤ mode
      · have d2 := decide_eq_true h2
        have he : askE true mode = 60 := by unfold askE; rw [if_neg (by decide), if_pos (.inr h2)]
        rw [he]
        go_enter Tryz.func53, Tryz.ntmps53
        go_wp2_with (go_at_call 54; (with_reducible refine HM.out.mono ?_); rintro e w1 ⟨rfl, b1⟩)
        go_ret
        exact ⟨rfl, on HB.out b1⟩
      · have d2 := decide_eq_false h2
        have he : askE true mode = 0 := by unfold askE; rw [if_neg (by decide), if_neg (by omega)]
        rw [he]
        go_enter Tryz.func53, Tryz.ntmps53
        go_wp2_with (go_at_call 54; (with_reducible refine HM.out.mono ?_); rintro e w1 ⟨rfl, b1⟩)
        go_ret
        exact ⟨rfl, on HB.out b1⟩
theorem ask_cases (m : Bool) (mode : Int) : (askE m mode = 52 ∧ m = false) ∨ (askE m mode = 60 ∧ m = true ∧ (mode < 0 ∨ 8 ≤ mode)) ∨ (askE m mode = 0 ∧ m = true ∧ 0 ≤ mode ∧ mode < 8) := by
  unfold askE
  cases m
  · exact .inl ⟨rfl, rfl⟩
  · by_cases h : mode < 0 ∨ 8 ≤ mode
    · exact .inr (.inl ⟨by rw [if_neg (by decide), if_pos h], rfl, h⟩)
    · exact .inr (.inr ⟨by rw [if_neg (by decide), if_neg h], rfl, by omega, by omega⟩)
/-- the answer of At and of Digits: place by place -/
def Res (w : World) (r : Array Value × Int) (e : Ending) (w' : World) : Prop := e = .returned (.tuple #[.agg r.1, .int .i64 r.2]) ∧ Below w.heap.size w w'
/-- a number that may be, to the multiples of 10^place -/
def fin (mode c : Int) (g : Bool) (l : List UInt8) (x place : Int) : Array Value × Int :=
  if l = [] then (dec c g l x, 0) else (oc g (pw mode.toNat g l x place), oe (pw mode.toNat g l x place))
def atV (c : Int) (g : Bool) (l : List UInt8) (x place mode : Int) : Array Value × Int :=
  if askE (mayB c g l x) mode ≠ 0 then (dec 0 false [] 0, askE (mayB c g l x) mode) else if place < -4000 ∨ 4000 < place then (dec 0 false [] 0, 61) else fin mode c g l x place
def dgV (c : Int) (g : Bool) (l : List UInt8) (x n mode : Int) : Array Value × Int :=
  if askE (mayB c g l x) mode ≠ 0 then (dec 0 false [] 0, askE (mayB c g l x) mode) else if n < 1 ∨ 1000 < n then (dec 0 false [] 0, 61) else fin mode c g l x ((l.length : Int) + x - n)
theorem may_str {c x : Int} {g : Bool} {l : List UInt8} (h : mayB c g l x = true) (hl : l ≠ []) : c = 0 ∧ Formed l ∧ fits l x := by
  rcases (mayB_iff c g l x).1 h with ⟨h1, _⟩ | ⟨h1, h2, h3⟩
  · exact absurd h1 hl
  · exact ⟨h1, h2, h3⟩
theorem empS {l : List UInt8} (h : l = []) : (⟨l.toArray⟩ : ByteArray).toList.isEmpty = true ∧ ((⟨l.toArray⟩ : ByteArray).toList == []) = true := by
  subst h
  have e : (⟨([] : List UInt8).toArray⟩ : ByteArray).toList = [] := by rw [Lib.toList_data]
  rw [e]
  exact ⟨rfl, rfl⟩
set_option maxHeartbeats 8000000 in
set_option maxRecDepth 100000 in
theorem at_calls (c : Int) (g : Bool) (l : List UInt8) (x place mode : Int) (w : World) (hp : Pow w) (hl : l.length ≤ 9223372036854775807) :
    Calls Tryz.prog 57 #[.agg (dec c g l x), .int .i64 place, .int .i64 mode] w (Res w (atV c g l x place mode)) := by
  have T := TV.start w (.int .i64 c) (.bool g) (.string ⟨l.toArray⟩) (.int .i64 x)
  have HT := Lib.hid T
  have HW := Lib.hid (hp.below T.bl)
  have HA := Lib.hid (fun w1 => asked_calls c g l x mode w1 hl)
  unfold atV Res
  rcases ask_cases (mayB c g l x) mode with ⟨e0, hm⟩ | ⟨e0, hm, hmo⟩ | ⟨e0, hm, m0, m8⟩
  · rw [if_pos (by rw [e0]; decide), e0]
    rw [e0] at HA
    unfold dec str at *
    dsimp only
    generalize (⟨l.toArray⟩ : ByteArray) = S at *
    clear T hp
    go_enter Tryz.func57, Tryz.ntmps57
    go_wp2_with (go_at_call 53; (with_reducible refine (HA.out _).mono ?_); rintro e w1 ⟨rfl, b1⟩; have x1 := HT.out.below b1; have k1 := x1.keep; have q1 := x1.res)
    obtain ⟨z1, z2⟩ := x1.ret (.int .i64 0) (.bool false) (.string ⟨#[]⟩) (.int .i64 0)
    exact bodyPost_ret (res_bk_t rfl _ z1 rfl Tryz.underlying23 rfl (by kernel_rfl)) rfl ⟨rfl, z2⟩
  · rw [if_pos (by rw [e0]; decide), e0]
    rw [e0] at HA
    unfold dec str at *
    dsimp only
    generalize (⟨l.toArray⟩ : ByteArray) = S at *
    clear T hp hmo
    go_enter Tryz.func57, Tryz.ntmps57
    go_wp2_with (go_at_call 53; (with_reducible refine (HA.out _).mono ?_); rintro e w1 ⟨rfl, b1⟩; have x1 := HT.out.below b1; have k1 := x1.keep; have q1 := x1.res)
    obtain ⟨z1, z2⟩ := x1.ret (.int .i64 0) (.bool false) (.string ⟨#[]⟩) (.int .i64 0)
    exact bodyPost_ret (res_bk_t rfl _ z1 rfl Tryz.underlying23 rfl (by kernel_rfl)) rfl ⟨rfl, z2⟩
  · rw [if_neg (by rw [e0]; decide)]
    rw [e0] at HA
    by_cases hpl : place < -4000 ∨ 4000 < place
    · rw [if_pos hpl]
      unfold dec str at *
      dsimp only
      generalize (⟨l.toArray⟩ : ByteArray) = S at *
      clear T hp
      by_cases hp1 : place < -4000
      · have d1 := decide_eq_true hp1
        clear hpl
        go_enter Tryz.func57, Tryz.ntmps57
        go_wp2_with (go_at_call 53; (with_reducible refine (HA.out _).mono ?_); rintro e w1 ⟨rfl, b1⟩; have x1 := HT.out.below b1; have k1 := x1.keep; have q1 := x1.res)
        obtain ⟨z1, z2⟩ := x1.ret (.int .i64 0) (.bool false) (.string ⟨#[]⟩) (.int .i64 0)
        exact bodyPost_ret (res_bk_t rfl _ z1 rfl Tryz.underlying23 rfl (by kernel_rfl)) rfl ⟨rfl, z2⟩
      · have d1 := decide_eq_false hp1
        have hp2 : 4000 < place := by omega
        have d2 := decide_eq_true hp2
        clear hpl
        go_enter Tryz.func57, Tryz.ntmps57
        go_wp2_with (go_at_call 53; (with_reducible refine (HA.out _).mono ?_); rintro e w1 ⟨rfl, b1⟩; have x1 := HT.out.below b1; have k1 := x1.keep; have q1 := x1.res)
        obtain ⟨z1, z2⟩ := x1.ret (.int .i64 0) (.bool false) (.string ⟨#[]⟩) (.int .i64 0)
        exact bodyPost_ret (res_bk_t rfl _ z1 rfl Tryz.underlying23 rfl (by kernel_rfl)) rfl ⟨rfl, z2⟩
    · rw [if_neg hpl]
      have hp1 : ¬ place < -4000 := by omega
      have hp2 : ¬ 4000 < place := by omega
      have d1 := decide_eq_false hp1
      have d2 := decide_eq_false hp2
      unfold fin
      by_cases h0 : l = []
      · rw [if_pos h0]
        obtain ⟨e1, e2⟩ := empS h0
        clear h0
        unfold dec str at *
        dsimp only
        generalize (⟨l.toArray⟩ : ByteArray) = S at *
        clear T hp hpl
        go_enter Tryz.func57, Tryz.ntmps57
        go_wp2_with (go_at_call 53; (with_reducible refine (HA.out _).mono ?_); rintro e w1 ⟨rfl, b1⟩; have x1 := HT.out.below b1; have k1 := x1.keep; have q1 := x1.res)
        obtain ⟨z1, z2⟩ := x1.ret (.int .i64 c) (.bool g) (.string S) (.int .i64 x)
        exact bodyPost_ret (res_bk_t rfl _ z1 rfl Tryz.underlying23 rfl (by kernel_rfl)) rfl ⟨rfl, z2⟩
      · rw [if_neg h0]
        obtain ⟨rfl, hF, hf⟩ := may_str hm h0
        obtain ⟨mo, rfl⟩ : ∃ mo : Nat, mode = mo := ⟨mode.toNat, by omega⟩
        have HPW := Lib.hid (fun w1 hp => power_calls (mode := mo) (by omega) g l x place w1 hp hF hf (by omega))
        have hpos := hF.len
        rw [← size_of l] at hpos
        obtain ⟨e1, e2⟩ := emp hpos
        rw [show (mo : Int).toNat = mo by omega]
        unfold Ans at HPW
        obtain ⟨g', L', x', e4⟩ := oc_four g (pw mo g l x place)
        rw [e4] at HPW ⊢
        generalize oe (pw mo g l x place) = er at *
        unfold dec str at *
        dsimp only
        generalize (⟨l.toArray⟩ : ByteArray) = S at *
        clear T hp hpl e4 h0 hF hf hpos hm
        go_enter Tryz.func57, Tryz.ntmps57
        go_wp2_with (first
          | (go_at_call 53; (with_reducible refine (HA.out _).mono ?_); rintro e w1 ⟨rfl, b1⟩; have x1 := HT.out.below b1; have k1 := x1.keep)
          | (go_at_call 92; (with_reducible refine (HPW.out _ (HW.out.below b1)).mono ?_); rintro e w2 ⟨rfl, b2⟩; have x2 := x1.below b2; have q2 := x2.res))
        obtain ⟨z1, z2⟩ := x2.ret (.int .i64 0) (.bool g') (.string L') (.int .i64 x')
        exact bodyPost_ret (res_bk_t rfl _ z1 rfl Tryz.underlying23 rfl (by kernel_rfl)) rfl ⟨rfl, z2⟩
end Go.Proofs.YtfddokfnplehkaaGreatDoor.Dc

/- The document's answer of layer 5: Of, Dec. -/
set_option linter.unusedSimpArgs false
set_option linter.unusedVariables false
namespace Go.Proofs.YtfddokfnplehkaaGreatDoor.Dc
open Go.RowKit Go.Proofs.YtfddokfnplehkaaGreatDoor.Dig Go.Proofs.YtfddokfnplehkaaGreatDoor.W Go.Proofs.YtfddokfnplehkaaGreatDoor.Nat Go.Proofs.YtfddokfnplehkaaGreatDoor.Wh Go.Proofs.YtfddokfnplehkaaGreatDoor.Td Go.Proofs.YtfddokfnplehkaaGreatDoor.Bu Go.Proofs.YtfddokfnplehkaaGreatDoor.Tx Go.Proofs.YtfddokfnplehkaaGreatDoor.Sp Go.Proofs.YtfddokfnplehkaaGreatDoor.Rd
open Go.Proofs.YtfddokfnplehkaaGreatDoor.Rf (V V_two V_pos)

/-- two blocks, one behind the other -/
structure T2 (w W : World) (t u : TypeId) (cs ds : Array Value) : Prop where
  a : Bk W w.heap.size t cs
  r : Bk W (w.heap.size + 1) u ds
  bl : Below w.heap.size w W
section
variable {w W W' : World} {t u : TypeId} {cs ds : Array Value} {a0 a1 a2 a3 b0 b1 b2 b3 : Value}
theorem T2.start (w : World) (t u : TypeId) (cs ds : Array Value) : T2 w ((w.alloc (.cells cs t)).alloc (.cells ds u)) t u cs ds := by
  obtain ⟨h1, h2, h3⟩ := bk_two w cs ds t u
  exact ⟨h1, h2, h3⟩
theorem T2.below (h : T2 w W t u cs ds) (hb : Below W.heap.size W W') : T2 w W' t u cs ds := ⟨h.a.below hb, h.r.below hb, on h.bl hb⟩
theorem T2.drew (h : T2 w W t u cs ds) : T2 w W.drew t u cs ds := ⟨h.a.drew, h.r.drew, h.bl.drew⟩
theorem T2.alloc (h : T2 w W t u cs ds) (o : Obj) : T2 w (W.alloc o) t u cs ds := h.below (alloc_below _ _)
theorem Bk.set3 {g : Nat} (h : Bk W g t cs) (a b c : Value) (e : cs.size = 3) : Bk (((W.setCell ⟨g, 0, none⟩ a).setCell ⟨g, 1, none⟩ b).setCell ⟨g, 2, none⟩ c) g t #[a, b, c] := by
  refine (((h.set 0 a).set 1 b).set 2 c).cast ?_
  rcases cs with ⟨l⟩
  match l, e with
  | [x, y, z], _ => rfl
theorem T2.res3 (h : T2 w W t u cs #[b0, b1, b2]) : W.cell? ⟨w.heap.size + 1, 0, none⟩ = some b0 ∧ W.cell? ⟨w.heap.size + 1, 1, none⟩ = some b1 ∧ W.cell? ⟨w.heap.size + 1, 2, none⟩ = some b2 ∧ W.frozen? ⟨w.heap.size + 1, 0, none⟩ = false ∧ W.frozen? ⟨w.heap.size + 1, 1, none⟩ = false ∧ W.frozen? ⟨w.heap.size + 1, 2, none⟩ = false :=
  ⟨h.r.at_ 0 rfl, h.r.at_ 1 rfl, h.r.at_ 2 rfl, h.r.fr 0, h.r.fr 1, h.r.fr 2⟩
theorem T2.far3 (h : T2 w W t u cs ds) (a b c : Value) : Bk (((W.setCell ⟨w.heap.size + 1, 0, none⟩ a).setCell ⟨w.heap.size + 1, 1, none⟩ b).setCell ⟨w.heap.size + 1, 2, none⟩ c) w.heap.size t cs := by
  have hne : ∀ j, w.heap.size ≠ (⟨w.heap.size + 1, j, none⟩ : Addr).block := fun j => by show w.heap.size ≠ w.heap.size + 1; omega
  exact ((h.a.far _ (hne _)).far _ (hne _)).far _ (hne _)
theorem T2.ret3 (h : T2 w W t u cs ds) (a b c : Value) (e : ds.size = 3) : Bk (((W.setCell ⟨w.heap.size + 1, 0, none⟩ a).setCell ⟨w.heap.size + 1, 1, none⟩ b).setCell ⟨w.heap.size + 1, 2, none⟩ c) (w.heap.size + 1) u #[a, b, c] ∧
    Below w.heap.size w (((W.setCell ⟨w.heap.size + 1, 0, none⟩ a).setCell ⟨w.heap.size + 1, 1, none⟩ b).setCell ⟨w.heap.size + 1, 2, none⟩ c) :=
  ⟨Bk.set3 h.r a b c e, ((h.bl.setCell (by show _ ≤ w.heap.size + 1; omega) _).setCell (by show _ ≤ w.heap.size + 1; omega) _).setCell (by show _ ≤ w.heap.size + 1; omega) _⟩
end
theorem si_far3 {w : World} {k : IntKind} {A : Option Addr} {n c g : Nat} {l : List Nat} (h : SI w k A n c l) (hA : ∀ b o s, A = some ⟨b, o, s⟩ → b ≠ g) (a b d : Value) : SI (((w.setCell ⟨g, 0, none⟩ a).setCell ⟨g, 1, none⟩ b).setCell ⟨g, 2, none⟩ d) k A n c l :=
  si_setFar (si_setFar (si_setFar h hA a) hA b) hA d
theorem sg_pos {g : Bool} {m : Nat} (h : 0 < m) : decide (sg g m < 0) = g := by rw [sg_neg, decide_eq_true h, Bool.and_true]
theorem Lo.lenV {x K : Nat} (h : Lo x K) : (digs V x).length ≤ K := len10V h
/-- what a function hands back: the number z times 10^E -/
def GivesN (w : World) (g : Bool) (m : Nat) (E : Int) (e : Ending) (w' : World) : Prop :=
  ∃ A n c, e = .returned (.agg #[.bool g, .slice A n c, .int .i64 E]) ∧ SI w' .u32 A n c (digs V m) ∧ Below w.heap.size w w'
end Go.Proofs.YtfddokfnplehkaaGreatDoor.Dc

/- The document's answer of layer 5: a number as a Dec. -/
set_option linter.unusedSimpArgs false
set_option linter.unusedVariables false
namespace Go.Proofs.YtfddokfnplehkaaGreatDoor.Dc
open Go.RowKit Go.Proofs.YtfddokfnplehkaaGreatDoor.Dig Go.Proofs.YtfddokfnplehkaaGreatDoor.W Go.Proofs.YtfddokfnplehkaaGreatDoor.Nat Go.Proofs.YtfddokfnplehkaaGreatDoor.Wh Go.Proofs.YtfddokfnplehkaaGreatDoor.Td Go.Proofs.YtfddokfnplehkaaGreatDoor.Bu Go.Proofs.YtfddokfnplehkaaGreatDoor.Tx Go.Proofs.YtfddokfnplehkaaGreatDoor.Sp Go.Proofs.YtfddokfnplehkaaGreatDoor.Rd
open Go.Proofs.YtfddokfnplehkaaGreatDoor.Rf (V V_two V_pos)

theorem ba_eq {S : ByteArray} {l : List UInt8} (h : S.data.toList = l) : S = ⟨l.toArray⟩ := by
  subst h
  cases S
  rfl
theorem toL (l : List UInt8) : (⟨l.toArray⟩ : ByteArray).toList = l := by rw [Lib.toList_data]
/-- the answer of Num.Dec -/
def GivesD (w : World) (g : Bool) (o : Option (List UInt8 × Int)) (e : Ending) (w' : World) : Prop :=
  e = .returned (.tuple #[.agg (oc g o), .bool o.isSome]) ∧ Below w.heap.size w w'
theorem ext_take {S : ByteArray} {l : List UInt8} {j : Nat} (h : S.data.toList = l ++ List.replicate (j + 1) 48) : (S.extract 0 (S.size - 1)).data.toList = l ++ List.replicate j 48 := by
  rw [head_list, h, Lib.size_eq, h, List.length_append, List.length_replicate, List.take_append, List.take_of_length_le (by omega), List.take_replicate]
  congr 2
  omega
theorem last_nought {S : ByteArray} {l : List UInt8} {j : Nat} (h : S.data.toList = l ++ List.replicate (j + 1) 48) (h0 : S.size - 1 < S.size) : (S[S.size - 1].toNat : Int) = 48 := by
  have e := byteL (S := S) (k := S.size - 1) (by omega) (by omega)
  rw [h, List.replicate_succ', ← List.append_assoc, List.getLast?_concat] at e
  rw [← Option.some.inj e]
  rfl
theorem last_formed {S : ByteArray} {l : List UInt8} (h : S.data.toList = l) (hF : Formed l) (h0 : S.size - 1 < S.size) : ¬ (S[S.size - 1].toNat : Int) = 48 := by
  obtain ⟨r, c, e1, hc⟩ := hF.last
  have e := byteL (S := S) (k := S.size - 1) (by omega) (by omega)
  rw [h, e1, List.getLast?_concat] at e
  rw [← Option.some.inj e]
  intro k
  exact ne_48 hc (UInt8.toNat_inj.mp (show c.toNat = (48 : UInt8).toNat by have : (48 : UInt8).toNat = 48 := rfl; omega))
theorem not_nought {W : Nat} (h : W ≠ 0) : Lib.decDigits W ≠ [48] := by
  rw [dec_split h]
  obtain ⟨c, r, e, hc⟩ := (formed_cd h).head
  rw [e]
  intro k
  injection k with k1 k2
  exact ne_48 hc k1
end Go.Proofs.YtfddokfnplehkaaGreatDoor.Dc

/- The document's answer of layer 6: greater. -/
set_option linter.unusedSimpArgs false
set_option linter.unusedVariables false
namespace Go.Proofs.YtfddokfnplehkaaGreatDoor.Dc
open Go.RowKit Go.Proofs.YtfddokfnplehkaaGreatDoor.Dig Go.Proofs.YtfddokfnplehkaaGreatDoor.W Go.Proofs.YtfddokfnplehkaaGreatDoor.Nat Go.Proofs.YtfddokfnplehkaaGreatDoor.Wh Go.Proofs.YtfddokfnplehkaaGreatDoor.Td Go.Proofs.YtfddokfnplehkaaGreatDoor.Bu Go.Proofs.YtfddokfnplehkaaGreatDoor.Tx Go.Proofs.YtfddokfnplehkaaGreatDoor.Sp Go.Proofs.YtfddokfnplehkaaGreatDoor.Rd
open Go.Proofs.YtfddokfnplehkaaGreatDoor.Rf (V V_two V_pos)

end Go.Proofs.YtfddokfnplehkaaGreatDoor.Dc
