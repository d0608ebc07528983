/- Texts of one layer, joined: Dq, Dr. -/
import Derived.Test.YtllpggdmkdgggaaGreatDoorGM
set_option linter.unusedVariables false
set_option linter.unusedSimpArgs false
set_option linter.unusedSectionVars false
/- The document's answer of layer 6: small, power; At. -/
set_option linter.unusedSimpArgs false
set_option linter.unusedVariables false
namespace Go.Proofs.YtllpggdmkdgggaaGreatDoor.Dc
open Go.RowKit Go.Proofs.YtllpggdmkdgggaaGreatDoor.Dig Go.Proofs.YtllpggdmkdgggaaGreatDoor.W Go.Proofs.YtllpggdmkdgggaaGreatDoor.Nat Go.Proofs.YtllpggdmkdgggaaGreatDoor.Wh Go.Proofs.YtllpggdmkdgggaaGreatDoor.Td Go.Proofs.YtllpggdmkdgggaaGreatDoor.Bu Go.Proofs.YtllpggdmkdgggaaGreatDoor.Tx Go.Proofs.YtllpggdmkdgggaaGreatDoor.Sp Go.Proofs.YtllpggdmkdgggaaGreatDoor.Rd
open Go.Proofs.YtllpggdmkdgggaaGreatDoor.Rf (V V_two V_pos)

theorem nto_calls {mode : Nat} (hm : mode < 8) (g bu : Bool) (A A' : Option Addr) (n c n' c' D u : Nat) (x y : Int) (w : World) (h : SI w .u32 A n c (digs V D)) (h' : SI w .u32 A' n' c' (digs V u)) {K : Nat} (hD : Lo D K) (hu : Lo u K) (hK : K ≤ 1000) (hD0 : 0 < D) (hu0 : 0 < u)
    (hx : -10000 ≤ x ∧ x ≤ 10000) (hy : -10000 ≤ y ∧ y ≤ 10000) :
    Calls Tryz.prog 29 #[.agg #[.bool g, .slice A n c, .int .i64 x], .agg #[.bool bu, .slice A' n' c', .int .i64 y], .int .i64 (mode : Nat)] w (GivesT w (sg g (rto mode g D x u y * (u * 10 ^ (y - min x y).toNat))) (min x y)) := by
  obtain ⟨k1, hk1⟩ : ∃ k1 : Nat, x - min x y = k1 := ⟨(x - min x y).toNat, by omega⟩
  obtain ⟨k2, hk2⟩ : ∃ k2 : Nat, y - min x y = k2 := ⟨(y - min x y).toNat, by omega⟩
  have hU : 0 < u * 10 ^ k2 := Nat.mul_pos hu0 (Nat.pow_pos (by omega))
  have e1 : (x - min x y).toNat = k1 := by omega
  have e2 : (y - min x y).toNat = k2 := by omega
  unfold rto
  rw [e1, e2]
  by_cases hR : D * 10 ^ k1 % (u * 10 ^ k2) = 0
  · rw [← road_zero (mode := mode) hU hR]
    exact nto_even hm g bu A A' n c n' c' D u k1 k2 x y _ w h h' hD hu hK hD0 hu0 hx hy rfl hk1 hk2 hR
  · rw [← road_more hm hU hR]
    cases hg : greater mode (decide ((rq g (D * 10 ^ k1) (u * 10 ^ k2)).natAbs % 2 = 1)) g (stand (rr g (D * 10 ^ k1) (u * 10 ^ k2) + rr g (D * 10 ^ k1) (u * 10 ^ k2)) (u * 10 ^ k2))
    · have e := nto_down hm g bu A A' n c n' c' D u k1 k2 x y _ w h h' hD hu hK hD0 hu0 hx hy rfl hk1 hk2 hR hg
      rwa [show (((false : Bool).toNat : Nat) : Int) = 0 from rfl, Int.add_zero]
    · exact nto_up hm g bu A A' n c n' c' D u k1 k2 x y _ w h h' hD hu hK hD0 hu0 hx hy rfl hk1 hk2 hR hg
/-- the place that the reference works with -/
def sml (l : List UInt8) (x place : Int) : Int := if place < x then x else if (l.length : Int) + x + 2 < place then (l.length : Int) + x + 2 else place
set_option maxHeartbeats 4000000 in
set_option maxRecDepth 100000 in
theorem small_calls (g : Bool) (l : List UInt8) (x place : Int) (w : World) (hl : l.length ≤ 100000) (hx : -100000 ≤ x ∧ x ≤ 100000) :
    Calls Tryz.prog 28 #[.agg (dec 0 g l x), .int .i64 place] w fun e w' => e = .returned (.int .i64 (sml l x place)) ∧ Below w.heap.size w w' := by
  have HB := Lib.hid (alloc_below w (.cells (dec 0 g l x) 23))
  have hs := size_of l
  unfold sml
  rw [← hs] at hl ⊢
  unfold dec str at *
  generalize (⟨l.toArray⟩ : ByteArray) = S at *
  clear hs
  by_cases h1 : place < x
  · rw [if_pos h1]
    have d1 := decide_eq_true h1
    go_enter Tryz.func28, Tryz.ntmps28
    go_wp2
    go_ret
    exact ⟨rfl, HB.out⟩
  · rw [if_neg h1]
    have d1 := decide_eq_false h1
    by_cases h2 : (S.size : Int) + x + 2 < place
    · rw [if_pos h2]
      have d2 := decide_eq_true h2
      go_enter Tryz.func28, Tryz.ntmps28
      go_wp2
      go_ret
      exact ⟨rfl, HB.out⟩
    · rw [if_neg h2]
      have d2 := decide_eq_false h2
      go_enter Tryz.func28, Tryz.ntmps28
      go_wp2
      go_ret
      exact ⟨rfl, HB.out⟩
theorem make_one (g : Bool) (A : Option Addr) (n c : Nat) (w : World) (h : SI w .u32 A n c (digs V 1)) :
    Calls Tryz.prog 32 #[.bool g, .slice A n c] w fun e w' => ∃ A n c, e = .returned (.agg #[.bool g, .slice A n c]) ∧ SI w' .u32 A n c (digs V 1) ∧ (∀ b o s, A = some ⟨b, o, s⟩ → w.heap.size ≤ b) ∧ Below w.heap.size w w' := by
  have e := make_V g A n c 1 w h Lo.one (by omega)
  unfold Rw.GivesR at e
  rwa [sg_pos (by omega), sg_abs] at e
set_option maxHeartbeats 4000000 in
set_option maxRecDepth 100000 in
theorem npower_calls (E : Int) (w : World) : Calls Tryz.prog 31 #[.int .i64 E] w (GivesN w false 1 E) := by
  have B0 := Lib.hid (Bk.start w 52 #[.bool false, .slice none 0 0, .int .i64 0])
  have b0 := Lib.hid (alloc_below w (.cells #[.bool false, .slice none 0 0, .int .i64 0] 52))
  obtain ⟨W, hW⟩ : ∃ W, W = w.alloc (.cells #[.bool false, .slice none 0 0, .int .i64 0] 52) := ⟨_, rfl⟩
  have hs : W.heap.size = w.heap.size + 1 := by rw [hW]; simp
  have v1 : SI (W.alloc (.cells #[.int .u32 1] 57)) .u32 (some ⟨w.heap.size + 1, 0, none⟩) 1 1 (digs V 1) := hs ▸ one_V W
  rw [hW] at v1
  have V1 := Lib.hid v1
  have HMK := Lib.hid (fun (A : Option Addr) (n c : Nat) (w1 : World) (h : SI w1 .u32 A n c (digs V 1)) => make_one false A n c w1 h)
  clear hs v1 hW
  unfold GivesN
  go_enter Tryz.func31, Tryz.ntmps31
  go_wp2_with (go_at_call 32; (with_reducible refine (HMK.out _ 1 1 _ V1.out).mono ?_); rintro e w1 ⟨A1, n1, c1, rfl, r1, j1, b1⟩; have y1 := (B0.out.alloc (.cells #[.int .u32 1] 57)).below b1; have k1 := three' y1; have f0 := y1.fr 0; have f1 := y1.fr 1; have f2 := y1.fr 2)
  have hlt := (B0.out.alloc (.cells #[.int .u32 1] 57)).lt
  have bl := on (on b0.out (alloc_below _ (.cells #[.int .u32 1] 57))) b1
  exact bodyPost_ret (res_bk rfl _ (Bk.set3 y1 (.bool false) (.slice A1 n1 c1) (.int .i64 E) rfl) rfl Tryz.underlying52 rfl (by kernel_rfl)) rfl ⟨A1, n1, c1, rfl, si_far3 r1 (fun b o s e => by have := j1 b o s e; omega) _ _ _, ((bl.setCell (p := (⟨w.heap.size, 0, none⟩ : Addr)) (Nat.le_refl _) _).setCell (p := (⟨w.heap.size, 1, none⟩ : Addr)) (Nat.le_refl _) _).setCell (p := (⟨w.heap.size, 2, none⟩ : Addr)) (Nat.le_refl _) _⟩
end Go.Proofs.YtllpggdmkdgggaaGreatDoor.Dc

/- The document's answer of layer 6: At. -/
set_option linter.unusedSimpArgs false
set_option linter.unusedVariables false
namespace Go.Proofs.YtllpggdmkdgggaaGreatDoor.Dc
open Go.RowKit Go.Proofs.YtllpggdmkdgggaaGreatDoor.Dig Go.Proofs.YtllpggdmkdgggaaGreatDoor.W Go.Proofs.YtllpggdmkdgggaaGreatDoor.Nat Go.Proofs.YtllpggdmkdgggaaGreatDoor.Wh Go.Proofs.YtllpggdmkdgggaaGreatDoor.Td Go.Proofs.YtllpggdmkdgggaaGreatDoor.Bu Go.Proofs.YtllpggdmkdgggaaGreatDoor.Tx Go.Proofs.YtllpggdmkdgggaaGreatDoor.Sp Go.Proofs.YtllpggdmkdgggaaGreatDoor.Rd
open Go.Proofs.YtllpggdmkdgggaaGreatDoor.Rf (V V_two V_pos)

theorem near_told {mode : Nat} {g : Bool} {l : List UInt8} {x place : Int} (hF : Formed l) (hf : fits l x) (h : ¬ sml l x place < place) :
    told g (rto mode g (nv 0 l) x 1 (sml l x place) * (1 * 10 ^ (sml l x place - min x (sml l x place)).toNat)) (min x (sml l x place)) = pw mode g l x place := by
  rw [told_low mode g (nv 0 l) x 1 (sml l x place), Nat.mul_one]
  have hn : 0 < l.length := hF.len
  by_cases h1 : place < x
  · have e : sml l x place = x := by unfold sml; rw [if_pos h1]
    rw [e]
    show pw mode g l x x = _
    rw [pw_low hF hf (Int.le_refl _), pw_low hF hf (by omega)]
  · have e : sml l x place = place := by
      unfold sml at h ⊢
      rw [if_neg h1] at h ⊢
      by_cases h2 : (l.length : Int) + x + 2 < place
      · rw [if_pos h2] at h; omega
      · rw [if_neg h2]
    rw [e]
    rfl
theorem near_far {mode : Nat} {g : Bool} {l : List UInt8} {x place : Int} (hF : Formed l) (h : sml l x place < place) :
    sml l x place = (l.length : Int) + x + 2 ∧ ((rto mode g (nv 0 l) x 1 (sml l x place) * (1 * 10 ^ (sml l x place - min x (sml l x place)).toNat) = 0 ∧ pw mode g l x place = some ([], 0)) ∨ (rto mode g (nv 0 l) x 1 (sml l x place) * (1 * 10 ^ (sml l x place - min x (sml l x place)).toNat) ≠ 0 ∧ pw mode g l x place = told g 1 place)) := by
  have e : sml l x place = (l.length : Int) + x + 2 := by
    unfold sml at h ⊢
    by_cases h1 : place < x
    · rw [if_pos h1] at h; omega
    · rw [if_neg h1] at h ⊢
      by_cases h2 : (l.length : Int) + x + 2 < place
      · rw [if_pos h2]
      · rw [if_neg h2] at h; omega
  refine ⟨e, ?_⟩
  rw [e] at h
  unfold pw
  rw [e, rto_high hF (by omega), rto_high hF (by omega)]
  cases up mode g false (-1)
  · exact .inl ⟨by simp, by rw [show (false : Bool).toNat = 0 from rfl, told_zero]⟩
  · refine .inr ⟨?_, rfl⟩
    rw [show (true : Bool).toNat = 1 from rfl, Nat.one_mul, Nat.one_mul]
    exact Nat.pos_iff_ne_zero.1 (Nat.pow_pos (by omega))
theorem sml_bound {l : List UInt8} {x place : Int} (hl : l.length ≤ 1000) (hx : -4000 ≤ x ∧ x ≤ 4000) (hp : -4000 ≤ place ∧ place ≤ 4000) : -9000 ≤ sml l x place ∧ sml l x place ≤ 9000 := by
  unfold sml
  by_cases h1 : place < x
  · rw [if_pos h1]; omega
  · rw [if_neg h1]
    by_cases h2 : (l.length : Int) + x + 2 < place
    · rw [if_pos h2]; omega
    · rw [if_neg h2]; omega
theorem Lo.rnd {mode : Nat} {g : Bool} {A U K : Nat} (h : Lo A K) : Lo (rnd mode g A U) (K + 1) := (h.succ).le (Nat.le_trans (rnd_near mode g A U).2 (Nat.succ_le_succ (Nat.div_le_self _ _)))
theorem lo_rto {mode : Nat} {g : Bool} {D u K : Nat} {x y : Int} (hD : Lo D K) (hu : Lo u K) (hK : K ≤ 1000) (hx : -10000 ≤ x ∧ x ≤ 10000) (hy : -10000 ≤ y ∧ y ≤ 10000) :
    Lo (rto mode g D x u y * (u * 10 ^ (y - min x y).toNat)) 100000 := by
  have h1 : Lo (rto mode g D x u y) (21002) := by
    unfold rto
    exact ((hD.mul (Lo.pow (x - min x y).toNat)).mono (show _ ≤ 21001 by omega)).rnd
  exact (h1.mul (hu.mul (Lo.pow (y - min x y).toNat))).mono (by omega)
theorem one_VV (w : World) (o : Obj) : SI ((w.alloc o).alloc (.cells #[.int .u32 1] 57)) .u32 (some ⟨w.heap.size + 1, 0, none⟩) 1 1 (digs V 1) := by
  have e := one_V (w.alloc o)
  rwa [show (w.alloc o).heap.size = w.heap.size + 1 by simp] at e
/-- what At holds: the box, the answer's cell, the number's cell -/
structure TQ (w W : World) (g : Bool) (S : ByteArray) (x : Int) (q : Nat) (b0 b1 b2 : Value) : Prop where
  t : TV w W (.int .i64 0) (.bool g) (.string S) (.int .i64 x)
  q : Bk W q 52 #[b0, b1, b2]
theorem TQ.below {w W W' : World} {g : Bool} {S : ByteArray} {x : Int} {q : Nat} {b0 b1 b2 : Value} (h : TQ w W g S x q b0 b1 b2) (hb : Below W.heap.size W W') : TQ w W' g S x q b0 b1 b2 := ⟨h.t.below hb, h.q.below hb⟩
theorem TV.farC {w W : World} {a0 a1 a2 a3 : Value} (h : TV w W a0 a1 a2 a3) {p : Addr} (hp : w.heap.size + 1 < p.block) (v : Value) : TV w (W.setCell p v) a0 a1 a2 a3 :=
  ⟨h.a.far v (by omega), h.r.far v (by omega), h.bl.setCell (by omega) v⟩
set_option maxHeartbeats 8000000 in
set_option maxRecDepth 100000 in
theorem nat_odd (c : Int) (g : Bool) (l : List UInt8) (x place mode : Int) (w : World) (h : mayB c g l x = false ∨ mode < 0 ∨ 8 ≤ mode ∨ place < -4000 ∨ 4000 < place ∨ l = []) :
    Calls Tryz.prog 12 #[.agg (dec c g l x), .int .i64 place, .int .i64 mode] w (Res w (atV c g l x place mode)) := by
  have T := TV.start w (.int .i64 c) (.bool g) (.string ⟨l.toArray⟩) (.int .i64 x)
  have HT := Lib.hid T
  have HA := Lib.hid (fun w1 => rmay_calls c g l x w1)
  unfold atV Res
  have hm7 : (decide ((7 : Int) < mode)) = decide ((8 : Int) ≤ mode) := by rw [decide_eq_decide]; omega
  rcases ask_cases (mayB c g l x) mode with ⟨e0, hm⟩ | ⟨e0, hm, hmo⟩ | ⟨e0, hm, m0, m8⟩
  · rw [if_pos (by rw [e0]; decide), e0]
    rw [hm] at HA
    unfold dec str at *
    dsimp only
    generalize (⟨l.toArray⟩ : ByteArray) = S at *
    clear T h
    go_enter Tryz.func12, Tryz.ntmps12
    go_wp2_with (go_at_call 18; (with_reducible refine (HA.out _).mono ?_); rintro e w1 ⟨rfl, b1⟩; have x1 := HT.out.below b1; have k1 := x1.keep; have q1 := x1.res)
    obtain ⟨z1, z2⟩ := x1.ret (.int .i64 0) (.bool false) (.string ⟨#[]⟩) (.int .i64 0)
    exact bodyPost_ret (res_bk_t rfl _ z1 rfl Tryz.underlying23 rfl (by kernel_rfl)) rfl ⟨rfl, z2⟩
  · rw [if_pos (by rw [e0]; decide), e0]
    rw [hm] at HA
    unfold dec str at *
    dsimp only
    generalize (⟨l.toArray⟩ : ByteArray) = S at *
    clear T h
    by_cases k0 : mode < 0
    · have d1 := decide_eq_true k0
      clear hmo
      go_enter Tryz.func12, Tryz.ntmps12
      go_wp2_with (go_at_call 18; (with_reducible refine (HA.out _).mono ?_); rintro e w1 ⟨rfl, b1⟩; have x1 := HT.out.below b1; have k1 := x1.keep; have q1 := x1.res)
      obtain ⟨z1, z2⟩ := x1.ret (.int .i64 0) (.bool false) (.string ⟨#[]⟩) (.int .i64 0)
      exact bodyPost_ret (res_bk_t rfl _ z1 rfl Tryz.underlying23 rfl (by kernel_rfl)) rfl ⟨rfl, z2⟩
    · have d1 := decide_eq_false k0
      have k8 : 7 < mode := by omega
      have d2 := decide_eq_true k8
      clear hmo
      go_enter Tryz.func12, Tryz.ntmps12
      go_wp2_with (go_at_call 18; (with_reducible refine (HA.out _).mono ?_); rintro e w1 ⟨rfl, b1⟩; have x1 := HT.out.below b1; have k1 := x1.keep; have q1 := x1.res)
      obtain ⟨z1, z2⟩ := x1.ret (.int .i64 0) (.bool false) (.string ⟨#[]⟩) (.int .i64 0)
      exact bodyPost_ret (res_bk_t rfl _ z1 rfl Tryz.underlying23 rfl (by kernel_rfl)) rfl ⟨rfl, z2⟩
  · rw [if_neg (by rw [e0]; decide)]
    rw [hm] at HA
    have k0 : ¬ mode < 0 := by omega
    have k8 : ¬ 7 < mode := by omega
    have d1 := decide_eq_false k0
    have d2 := decide_eq_false k8
    by_cases hpl : place < -4000 ∨ 4000 < place
    · rw [if_pos hpl]
      unfold dec str at *
      dsimp only
      generalize (⟨l.toArray⟩ : ByteArray) = S at *
      clear T h hm7
      by_cases hp1 : place < -4000
      · have d3 := decide_eq_true hp1
        clear hpl
        go_enter Tryz.func12, Tryz.ntmps12
        go_wp2_with (go_at_call 18; (with_reducible refine (HA.out _).mono ?_); rintro e w1 ⟨rfl, b1⟩; have x1 := HT.out.below b1; have k1 := x1.keep; have q1 := x1.res)
        obtain ⟨z1, z2⟩ := x1.ret (.int .i64 0) (.bool false) (.string ⟨#[]⟩) (.int .i64 0)
        exact bodyPost_ret (res_bk_t rfl _ z1 rfl Tryz.underlying23 rfl (by kernel_rfl)) rfl ⟨rfl, z2⟩
      · have d3 := decide_eq_false hp1
        have hp2 : 4000 < place := by omega
        have d4 := decide_eq_true hp2
        clear hpl
        go_enter Tryz.func12, Tryz.ntmps12
        go_wp2_with (go_at_call 18; (with_reducible refine (HA.out _).mono ?_); rintro e w1 ⟨rfl, b1⟩; have x1 := HT.out.below b1; have k1 := x1.keep; have q1 := x1.res)
        obtain ⟨z1, z2⟩ := x1.ret (.int .i64 0) (.bool false) (.string ⟨#[]⟩) (.int .i64 0)
        exact bodyPost_ret (res_bk_t rfl _ z1 rfl Tryz.underlying23 rfl (by kernel_rfl)) rfl ⟨rfl, z2⟩
    · rw [if_neg hpl]
      have hp1 : ¬ place < -4000 := by omega
      have hp2 : ¬ 4000 < place := by omega
      have d3 := decide_eq_false hp1
      have d4 := decide_eq_false hp2
      unfold fin
      have h0 : l = [] := by
        rcases h with h | h | h | h | h | h
        · rw [hm] at h; cases h
        all_goals first | exact h | omega
      rw [if_pos h0]
      obtain ⟨e1, e2⟩ := empS h0
      clear h0
      unfold dec str at *
      dsimp only
      generalize (⟨l.toArray⟩ : ByteArray) = S at *
      clear T h hm7
      go_enter Tryz.func12, Tryz.ntmps12
      go_wp2_with (go_at_call 18; (with_reducible refine (HA.out _).mono ?_); rintro e w1 ⟨rfl, b1⟩; have x1 := HT.out.below b1; have k1 := x1.keep; have q1 := x1.res)
      obtain ⟨z1, z2⟩ := x1.ret (.int .i64 c) (.bool g) (.string S) (.int .i64 x)
      exact bodyPost_ret (res_bk_t rfl _ z1 rfl Tryz.underlying23 rfl (by kernel_rfl)) rfl ⟨rfl, z2⟩
set_option maxHeartbeats 8000000 in
set_option maxRecDepth 100000 in
theorem nat_near {mode : Nat} (hm : mode < 8) (g : Bool) (l : List UInt8) (x place : Int) (w : World) (hF : Formed l) (hf : fits l x) (hp : -4000 ≤ place ∧ place ≤ 4000) (hk : ¬ sml l x place < place) :
    Calls Tryz.prog 12 #[.agg (dec 0 g l x), .int .i64 place, .int .i64 (mode : Nat)] w (Ans w g (pw mode g l x place)) := by
  have hf' := hf
  obtain ⟨f1, f2, f3⟩ := hf'
  have hlen := hF.len
  have hsm := sml_bound (l := l) (x := x) (place := place) f1 (by omega) hp
  have T := TV.start w (.int .i64 0) (.bool g) (.string ⟨l.toArray⟩) (.int .i64 x)
  have HT := Lib.hid T
  have HA := Lib.hid (fun w1 => rmay_calls 0 g l x w1)
  have hmay : mayB 0 g l x = true := by rw [may_form hF, decide_eq_true hf]
  rw [hmay] at HA
  have HSM := Lib.hid (fun w1 => small_calls g l x place w1 (by omega) (by omega))
  have HOF := Lib.hid (fun w1 => nof_calls g l x w1 hF f1)
  have hD := (nv_10 hF).mono f1
  have HTO := Lib.hid (fun (A A' : Option Addr) (n c n' c' : Nat) (w1 : World) (h : SI w1 .u32 A n c (digs V (nv 0 l))) (h' : SI w1 .u32 A' n' c' (digs V 1)) => nto_calls hm g false A A' n c n' c' (nv 0 l) 1 x (sml l x place) w1 h h' hD (Lo.one.mono (by omega)) (by omega) hF.pos (by omega) (by omega) (by omega))
  have hlo := lo_rto (mode := mode) (g := g) (x := x) (y := sml l x place) hD (Lo.one.mono (by omega)) (by omega) (by omega) (by omega)
  have HDE := Lib.hid (fun (A : Option Addr) (n c : Nat) (w1 : World) (h : SI w1 .u32 A n c (digs V (sg g (rto mode g (nv 0 l) x 1 (sml l x place) * (1 * 10 ^ (sml l x place - min x (sml l x place)).toNat))).natAbs)) => (by
    have e := ndec_calls (decide (sg g (rto mode g (nv 0 l) x 1 (sml l x place) * (1 * 10 ^ (sml l x place - min x (sml l x place)).toNat)) < 0)) g A n c _ (min x (sml l x place)) w1 (by rw [sg_abs] at h; exact h) hlo (by omega) (by omega) (fun h0 => sg_pos (Nat.pos_of_ne_zero h0))
    rw [near_told hF hf hk] at e
    exact e))
  unfold GivesT at HTO
  unfold GivesD at HDE
  generalize sg g (rto mode g (nv 0 l) x 1 (sml l x place) * (1 * 10 ^ (sml l x place - min x (sml l x place)).toNat)) = Z at *
  generalize min x (sml l x place) = e0 at *
  have d9 := decide_eq_false hk
  have hk' := hk
  unfold Ans
  have he := emp (S := ⟨l.toArray⟩) (by rw [size_of]; exact hlen)
  obtain ⟨e1, e2⟩ := he
  obtain ⟨o, ho⟩ : ∃ o, pw mode g l x place = o := ⟨_, rfl⟩
  rw [ho] at HDE ⊢
  unfold GivesN at HOF
  generalize digs V (nv 0 l) = dg at *
  generalize sml l x place = nr at *
  have k0 : ¬ (mode : Int) < 0 := by omega
  have k8 : ¬ 7 < (mode : Int) := by omega
  have d1 := decide_eq_false k0
  have d2 := decide_eq_false k8
  have hp1 : ¬ place < -4000 := by omega
  have hp2 : ¬ 4000 < place := by omega
  have d3 := decide_eq_false hp1
  have d4 := decide_eq_false hp2
  unfold dec str at *
  generalize (⟨l.toArray⟩ : ByteArray) = S at *
  clear T hlo hD hF hf f1 f2 f3 hk hlen hmay hsm ho
  cases o with
  | none =>
    rw [show oc g (none : Option (List UInt8 × Int)) = #[.int .i64 0, .bool false, .string ⟨#[]⟩, .int .i64 0] from rfl] at HDE ⊢
    unfold oe
    dsimp only [Option.isSome] at HDE ⊢
    go_enter Tryz.func12, Tryz.ntmps12
    go_wp2_with (first
      | (go_at_call 18; (with_reducible refine (HA.out _).mono ?_); rintro e w1 ⟨rfl, b1⟩; have x1 := HT.out.below b1; have k1 := x1.keep)
      | (go_at_call 28; (with_reducible refine (HSM.out w1).mono ?_); rintro e w2 ⟨rfl, b2⟩; have x2 := x1.below b2; have k2 := x2.keep)
      | (go_at_call 30; (with_reducible refine (HOF.out w2).mono ?_); rintro e w3 ⟨A3, n3, c3, rfl, r3, b3⟩; have x3 := x2.below b3)
      | (go_at_call 31; (with_reducible refine (npower_calls nr w3).mono ?_); rintro e w4 ⟨A4, n4, c4, rfl, r4, b4⟩; have x4 := x3.below b4)
      | (go_at_call 29; (with_reducible refine (HTO.out A3 A4 n3 c3 n4 c4 w4 (r3.below b4) r4).mono ?_); rintro e w5 ⟨A5, n5, c5, rfl, r5, b5⟩; have x5 := x4.below b5; have y5 := (x5.alloc (.cells #[.bool (decide (Z < 0)), .slice A5 n5 c5, .int .i64 e0] 52)).keep)
      | (go_at_call 33; (with_reducible refine (HDE.out A5 n5 c5 _ (r5.alloc (.cells #[.bool (decide (Z < 0)), .slice A5 n5 c5, .int .i64 e0] 52))).mono ?_); rintro e w6 ⟨rfl, b6⟩; have x6 := (x5.alloc (.cells #[.bool (decide (Z < 0)), .slice A5 n5 c5, .int .i64 e0] 52)).below b6; have x7 := x6.alloc (.cells #[.int .i64 0, .bool false, .string ⟨#[]⟩, .int .i64 0] 23); have q7 := x7.res))
    obtain ⟨z1, z2⟩ := x7.ret (.int .i64 0) (.bool false) (.string ⟨#[]⟩) (.int .i64 0)
    exact bodyPost_ret (res_bk_t rfl _ z1 rfl Tryz.underlying23 rfl (by kernel_rfl)) rfl ⟨rfl, z2⟩
  | some p =>
    obtain ⟨g', L', x', e4⟩ := oc_four g (some p : Option (List UInt8 × Int))
    rw [e4] at HDE ⊢
    unfold oe
    dsimp only [Option.isSome] at HDE ⊢
    clear e4
    go_enter Tryz.func12, Tryz.ntmps12
    go_wp2_with (first
      | (go_at_call 18; (with_reducible refine (HA.out _).mono ?_); rintro e w1 ⟨rfl, b1⟩; have x1 := HT.out.below b1; have k1 := x1.keep)
      | (go_at_call 28; (with_reducible refine (HSM.out w1).mono ?_); rintro e w2 ⟨rfl, b2⟩; have x2 := x1.below b2; have k2 := x2.keep)
      | (go_at_call 30; (with_reducible refine (HOF.out w2).mono ?_); rintro e w3 ⟨A3, n3, c3, rfl, r3, b3⟩; have x3 := x2.below b3)
      | (go_at_call 31; (with_reducible refine (npower_calls nr w3).mono ?_); rintro e w4 ⟨A4, n4, c4, rfl, r4, b4⟩; have x4 := x3.below b4)
      | (go_at_call 29; (with_reducible refine (HTO.out A3 A4 n3 c3 n4 c4 w4 (r3.below b4) r4).mono ?_); rintro e w5 ⟨A5, n5, c5, rfl, r5, b5⟩; have x5 := x4.below b5; have y5 := (x5.alloc (.cells #[.bool (decide (Z < 0)), .slice A5 n5 c5, .int .i64 e0] 52)).keep)
      | (go_at_call 33; (with_reducible refine (HDE.out A5 n5 c5 _ (r5.alloc (.cells #[.bool (decide (Z < 0)), .slice A5 n5 c5, .int .i64 e0] 52))).mono ?_); rintro e w6 ⟨rfl, b6⟩; have x6 := (x5.alloc (.cells #[.bool (decide (Z < 0)), .slice A5 n5 c5, .int .i64 e0] 52)).below b6; have x7 := x6.alloc (.cells #[.int .i64 0, .bool g', .string L', .int .i64 x'] 23); have q7 := x7.res))
    obtain ⟨z1, z2⟩ := x7.ret (.int .i64 0) (.bool g') (.string L') (.int .i64 x')
    exact bodyPost_ret (res_bk_t rfl _ z1 rfl Tryz.underlying23 rfl (by kernel_rfl)) rfl ⟨rfl, z2⟩
set_option maxHeartbeats 8000000 in
set_option maxRecDepth 100000 in
theorem nat_none {mode : Nat} (hm : mode < 8) (g : Bool) (l : List UInt8) (x place : Int) (w : World) (hF : Formed l) (hf : fits l x) (hp : -4000 ≤ place ∧ place ≤ 4000) (hk : sml l x place < place) (hN : rto mode g (nv 0 l) x 1 (sml l x place) * (1 * 10 ^ (sml l x place - min x (sml l x place)).toNat) = 0) (hpw : pw mode g l x place = some ([], 0)) :
    Calls Tryz.prog 12 #[.agg (dec 0 g l x), .int .i64 place, .int .i64 (mode : Nat)] w (Ans w g (pw mode g l x place)) := by
  have hf' := hf
  obtain ⟨f1, f2, f3⟩ := hf'
  have hlen := hF.len
  have hsm := sml_bound (l := l) (x := x) (place := place) f1 (by omega) hp
  have T := TV.start w (.int .i64 0) (.bool g) (.string ⟨l.toArray⟩) (.int .i64 x)
  have HT := Lib.hid T
  have HA := Lib.hid (fun w1 => rmay_calls 0 g l x w1)
  have hmay : mayB 0 g l x = true := by rw [may_form hF, decide_eq_true hf]
  rw [hmay] at HA
  have HSM := Lib.hid (fun w1 => small_calls g l x place w1 (by omega) (by omega))
  have HOF := Lib.hid (fun w1 => nof_calls g l x w1 hF f1)
  have hD := (nv_10 hF).mono f1
  have HTO := Lib.hid (fun (A A' : Option Addr) (n c n' c' : Nat) (w1 : World) (h : SI w1 .u32 A n c (digs V (nv 0 l))) (h' : SI w1 .u32 A' n' c' (digs V 1)) => nto_calls hm g false A A' n c n' c' (nv 0 l) 1 x (sml l x place) w1 h h' hD (Lo.one.mono (by omega)) (by omega) hF.pos (by omega) (by omega) (by omega))
  have hlo := lo_rto (mode := mode) (g := g) (x := x) (y := sml l x place) hD (Lo.one.mono (by omega)) (by omega) (by omega) (by omega)
  rw [hN] at HTO
  rw [hpw]
  unfold GivesT at HTO
  rw [show sg g 0 = 0 by cases g <;> rfl] at HTO
  have HDE := Lib.hid (fun (A : Option Addr) (n c : Nat) (w1 : World) (h : SI w1 .u32 A n c (digs V 0)) => (by
    have e := ndec_calls false g A n c 0 (min x (sml l x place)) w1 h (Lo.one.le (Nat.zero_le _)) (by omega) (by omega) (fun h0 => absurd rfl h0)
    rw [told_zero] at e
    exact e))
  unfold GivesD at HDE
  generalize min x (sml l x place) = e0 at *
  have d9 := decide_eq_true hk
  have hk' := hk
  unfold Ans
  have he := emp (S := ⟨l.toArray⟩) (by rw [size_of]; exact hlen)
  obtain ⟨e1, e2⟩ := he
  obtain ⟨o, ho⟩ : ∃ o : Option (List UInt8 × Int), some ([], 0) = o := ⟨_, rfl⟩
  rw [ho] at HDE ⊢
  unfold GivesN at HOF
  generalize digs V (nv 0 l) = dg at *
  generalize sml l x place = nr at *
  have k0 : ¬ (mode : Int) < 0 := by omega
  have k8 : ¬ 7 < (mode : Int) := by omega
  have d1 := decide_eq_false k0
  have d2 := decide_eq_false k8
  have hp1 : ¬ place < -4000 := by omega
  have hp2 : ¬ 4000 < place := by omega
  have d3 := decide_eq_false hp1
  have d4 := decide_eq_false hp2
  unfold dec str at *
  generalize (⟨l.toArray⟩ : ByteArray) = S at *
  clear T hlo hD hF hf f1 f2 f3 hk hlen hmay hsm ho hN hpw
  cases o with
  | none =>
    rw [show oc g (none : Option (List UInt8 × Int)) = #[.int .i64 0, .bool false, .string ⟨#[]⟩, .int .i64 0] from rfl] at HDE ⊢
    unfold oe
    dsimp only [Option.isSome] at HDE ⊢
    go_enter Tryz.func12, Tryz.ntmps12
    go_wp2_with (first
      | (go_at_call 18; (with_reducible refine (HA.out _).mono ?_); rintro e w1 ⟨rfl, b1⟩; have x1 := HT.out.below b1; have k1 := x1.keep)
      | (go_at_call 28; (with_reducible refine (HSM.out w1).mono ?_); rintro e w2 ⟨rfl, b2⟩; have x2 := x1.below b2; have k2 := x2.keep)
      | (go_at_call 30; (with_reducible refine (HOF.out w2).mono ?_); rintro e w3 ⟨A3, n3, c3, rfl, r3, b3⟩; have x3 := x2.below b3)
      | (go_at_call 31; (with_reducible refine (npower_calls nr w3).mono ?_); rintro e w4 ⟨A4, n4, c4, rfl, r4, b4⟩; have x4 := x3.below b4)
      | (go_at_call 29; (with_reducible refine (HTO.out A3 A4 n3 c3 n4 c4 w4 (r3.below b4) r4).mono ?_); rintro e w5 ⟨A5, n5, c5, rfl, r5, b5⟩; obtain rfl : n5 = 0 := (by rw [← r5.len]; show (digs V 0).length = 0; rw [digs_zero]; rfl); have x5 := x4.below b5; have y5 := (x5.alloc (.cells #[.bool (false), .slice A5 0 c5, .int .i64 e0] 52)).keep)
      | (go_at_call 33; (with_reducible refine (HDE.out A5 0 c5 _ (r5.alloc (.cells #[.bool (false), .slice A5 0 c5, .int .i64 e0] 52))).mono ?_); rintro e w6 ⟨rfl, b6⟩; have x6 := (x5.alloc (.cells #[.bool (false), .slice A5 0 c5, .int .i64 e0] 52)).below b6; have x7 := x6.alloc (.cells #[.int .i64 0, .bool false, .string ⟨#[]⟩, .int .i64 0] 23); have q7 := x7.res))
    obtain ⟨z1, z2⟩ := x7.ret (.int .i64 0) (.bool false) (.string ⟨#[]⟩) (.int .i64 0)
    exact bodyPost_ret (res_bk_t rfl _ z1 rfl Tryz.underlying23 rfl (by kernel_rfl)) rfl ⟨rfl, z2⟩
  | some p =>
    obtain ⟨g', L', x', e4⟩ := oc_four g (some p : Option (List UInt8 × Int))
    rw [e4] at HDE ⊢
    unfold oe
    dsimp only [Option.isSome] at HDE ⊢
    clear e4
    go_enter Tryz.func12, Tryz.ntmps12
    go_wp2_with (first
      | (go_at_call 18; (with_reducible refine (HA.out _).mono ?_); rintro e w1 ⟨rfl, b1⟩; have x1 := HT.out.below b1; have k1 := x1.keep)
      | (go_at_call 28; (with_reducible refine (HSM.out w1).mono ?_); rintro e w2 ⟨rfl, b2⟩; have x2 := x1.below b2; have k2 := x2.keep)
      | (go_at_call 30; (with_reducible refine (HOF.out w2).mono ?_); rintro e w3 ⟨A3, n3, c3, rfl, r3, b3⟩; have x3 := x2.below b3)
      | (go_at_call 31; (with_reducible refine (npower_calls nr w3).mono ?_); rintro e w4 ⟨A4, n4, c4, rfl, r4, b4⟩; have x4 := x3.below b4)
      | (go_at_call 29; (with_reducible refine (HTO.out A3 A4 n3 c3 n4 c4 w4 (r3.below b4) r4).mono ?_); rintro e w5 ⟨A5, n5, c5, rfl, r5, b5⟩; obtain rfl : n5 = 0 := (by rw [← r5.len]; show (digs V 0).length = 0; rw [digs_zero]; rfl); have x5 := x4.below b5; have y5 := (x5.alloc (.cells #[.bool (false), .slice A5 0 c5, .int .i64 e0] 52)).keep)
      | (go_at_call 33; (with_reducible refine (HDE.out A5 0 c5 _ (r5.alloc (.cells #[.bool (false), .slice A5 0 c5, .int .i64 e0] 52))).mono ?_); rintro e w6 ⟨rfl, b6⟩; have x6 := (x5.alloc (.cells #[.bool (false), .slice A5 0 c5, .int .i64 e0] 52)).below b6; have x7 := x6.alloc (.cells #[.int .i64 0, .bool g', .string L', .int .i64 x'] 23); have q7 := x7.res))
    obtain ⟨z1, z2⟩ := x7.ret (.int .i64 0) (.bool g') (.string L') (.int .i64 x')
    exact bodyPost_ret (res_bk_t rfl _ z1 rfl Tryz.underlying23 rfl (by kernel_rfl)) rfl ⟨rfl, z2⟩
set_option maxHeartbeats 8000000 in
set_option maxRecDepth 100000 in
theorem nat_one {mode : Nat} (hm : mode < 8) (g : Bool) (l : List UInt8) (x place : Int) (w : World) (hF : Formed l) (hf : fits l x) (hp : -4000 ≤ place ∧ place ≤ 4000) (hk : sml l x place < place) (hN : rto mode g (nv 0 l) x 1 (sml l x place) * (1 * 10 ^ (sml l x place - min x (sml l x place)).toNat) ≠ 0) (hpw : pw mode g l x place = told g 1 place) :
    Calls Tryz.prog 12 #[.agg (dec 0 g l x), .int .i64 place, .int .i64 (mode : Nat)] w (Ans w g (pw mode g l x place)) := by
  have hf' := hf
  obtain ⟨f1, f2, f3⟩ := hf'
  have hlen := hF.len
  have hsm := sml_bound (l := l) (x := x) (place := place) f1 (by omega) hp
  have T := TV.start w (.int .i64 0) (.bool g) (.string ⟨l.toArray⟩) (.int .i64 x)
  have HT := Lib.hid T
  have HA := Lib.hid (fun w1 => rmay_calls 0 g l x w1)
  have hmay : mayB 0 g l x = true := by rw [may_form hF, decide_eq_true hf]
  rw [hmay] at HA
  have HSM := Lib.hid (fun w1 => small_calls g l x place w1 (by omega) (by omega))
  have HOF := Lib.hid (fun w1 => nof_calls g l x w1 hF f1)
  have hD := (nv_10 hF).mono f1
  have HTO := Lib.hid (fun (A A' : Option Addr) (n c n' c' : Nat) (w1 : World) (h : SI w1 .u32 A n c (digs V (nv 0 l))) (h' : SI w1 .u32 A' n' c' (digs V 1)) => nto_calls hm g false A A' n c n' c' (nv 0 l) 1 x (sml l x place) w1 h h' hD (Lo.one.mono (by omega)) (by omega) hF.pos (by omega) (by omega) (by omega))
  have hlo := lo_rto (mode := mode) (g := g) (x := x) (y := sml l x place) hD (Lo.one.mono (by omega)) (by omega) (by omega) (by omega)
  have hZp := sg_pos (g := g) (Nat.pos_of_ne_zero hN)
  have hZl : 0 < (digs V (sg g (rto mode g (nv 0 l) x 1 (sml l x place) * (1 * 10 ^ (sml l x place - min x (sml l x place)).toNat))).natAbs).length := by rw [sg_abs]; exact digs_length_pos V_two hN
  have HZL := Lib.hid hZl
  rw [hpw]
  unfold GivesT at HTO
  rw [hZp] at HTO
  have HDE := Lib.hid (fun (A : Option Addr) (n c : Nat) (w1 : World) (h : SI w1 .u32 A n c (digs V 1)) => ndec_calls g g A n c 1 place w1 h Lo.one (by omega) (by omega) (fun h0 => rfl))
  unfold GivesD at HDE
  have HMO := Lib.hid (fun (A : Option Addr) (n c : Nat) (w1 : World) (h : SI w1 .u32 A n c (digs V 1)) => make_one g A n c w1 h)
  generalize sg g (rto mode g (nv 0 l) x 1 (sml l x place) * (1 * 10 ^ (sml l x place - min x (sml l x place)).toNat)) = Z at *
  generalize min x (sml l x place) = e0 at *
  have d9 := decide_eq_true hk
  have hk' := hk
  unfold Ans
  have he := emp (S := ⟨l.toArray⟩) (by rw [size_of]; exact hlen)
  obtain ⟨e1, e2⟩ := he
  obtain ⟨o, ho⟩ : ∃ o, told g 1 place = o := ⟨_, rfl⟩
  rw [ho] at HDE ⊢
  unfold GivesN at HOF
  generalize digs V (nv 0 l) = dg at *
  generalize sml l x place = nr at *
  have k0 : ¬ (mode : Int) < 0 := by omega
  have k8 : ¬ 7 < (mode : Int) := by omega
  have d1 := decide_eq_false k0
  have d2 := decide_eq_false k8
  have hp1 : ¬ place < -4000 := by omega
  have hp2 : ¬ 4000 < place := by omega
  have d3 := decide_eq_false hp1
  have d4 := decide_eq_false hp2
  unfold dec str at *
  generalize (⟨l.toArray⟩ : ByteArray) = S at *
  clear T hlo hD hF hf f1 f2 f3 hk hlen hmay hsm ho hN hpw hZp hZl
  cases o with
  | none =>
    rw [show oc g (none : Option (List UInt8 × Int)) = #[.int .i64 0, .bool false, .string ⟨#[]⟩, .int .i64 0] from rfl] at HDE ⊢
    unfold oe
    dsimp only [Option.isSome] at HDE ⊢
    go_enter Tryz.func12, Tryz.ntmps12
    go_wp2_with (first
      | (go_at_call 18; (with_reducible refine (HA.out _).mono ?_); rintro e w1 ⟨rfl, b1⟩; have x1 := HT.out.below b1; have k1 := x1.keep)
      | (go_at_call 28; (with_reducible refine (HSM.out w1).mono ?_); rintro e w2 ⟨rfl, b2⟩; have x2 := x1.below b2; have k2 := x2.keep)
      | (go_at_call 30; (with_reducible refine (HOF.out w2).mono ?_); rintro e w3 ⟨A3, n3, c3, rfl, r3, b3⟩; have x3 := x2.below b3)
      | (go_at_call 31; (with_reducible refine (npower_calls nr w3).mono ?_); rintro e w4 ⟨A4, n4, c4, rfl, r4, b4⟩; have x4 := x3.below b4)
      | (go_at_call 29; (with_reducible refine (HTO.out A3 A4 n3 c3 n4 c4 w4 (r3.below b4) r4).mono ?_); rintro e w5 ⟨A5, n5, c5, rfl, r5, b5⟩; have h5 : 0 < n5 := (by rw [← r5.len]; exact HZL.out); have x5 := x4.below b5; have y5 := (x5.alloc (.cells #[.bool g, .slice A5 n5 c5, .int .i64 e0] 52)).keep; have y5p := (x5.alloc (.cells #[.bool g, .slice A5 n5 c5, .int .i64 place] 52)).keep)
      | (go_at_call 32; (with_reducible refine (HMO.out (some ⟨w5.heap.size + 1, 0, none⟩) 1 1 _ (one_VV w5 (.cells #[.bool g, .slice A5 n5 c5, .int .i64 place] 52))).mono ?_); rintro e w6 ⟨A6, n6, c6, rfl, r6, j6, b6⟩; have x6 := ((x5.alloc (.cells #[.bool g, .slice A5 n5 c5, .int .i64 place] 52)).alloc (.cells #[.int .u32 1] 57)).below b6; have qq := ((Bk.start w5 52 #[.bool g, .slice A5 n5 c5, .int .i64 place]).alloc (.cells #[.int .u32 1] 57)).below b6; have q6 := three' qq; have f60 := qq.fr 0; have f61 := qq.fr 1; have hq5 : w.heap.size + 1 < w5.heap.size := x5.r.lt; have hq6 : w5.heap.size < (((w5.alloc (.cells #[.bool g, .slice A5 n5 c5, .int .i64 place] 52)).alloc (.cells #[.int .u32 1] 57))).heap.size := ((Bk.start w5 52 #[.bool g, .slice A5 n5 c5, .int .i64 place]).alloc (.cells #[.int .u32 1] 57)).lt; have x8 := (x6.farC (p := (⟨w5.heap.size, 0, none⟩ : Addr)) hq5 (.bool g)).farC (p := (⟨w5.heap.size, 1, none⟩ : Addr)) hq5 (.slice A6 n6 c6); have k8 := x8.keep; have q8 := three' (((qq.set 0 (.bool g)).set 1 (.slice A6 n6 c6)).cast (cs' := #[.bool g, .slice A6 n6 c6, .int .i64 place]) rfl); have r8 := si_setFar (g := w5.heap.size) (j := 1) (si_setFar (g := w5.heap.size) (j := 0) r6 (fun b o s e => by have := j6 b o s e; omega) (.bool g)) (fun b o s e => by have := j6 b o s e; omega) (.slice A6 n6 c6))
      | (go_at_call 33; (with_reducible refine (HDE.out A6 n6 c6 _ r8).mono ?_); rintro e w9 ⟨rfl, b9⟩; have x9 := x8.below b9; have x10 := x9.alloc (.cells #[.int .i64 0, .bool false, .string ⟨#[]⟩, .int .i64 0] 23); have q10 := x10.res))
    obtain ⟨z1, z2⟩ := x10.ret (.int .i64 0) (.bool false) (.string ⟨#[]⟩) (.int .i64 0)
    exact bodyPost_ret (res_bk_t rfl _ z1 rfl Tryz.underlying23 rfl (by kernel_rfl)) rfl ⟨rfl, z2⟩
  | some p =>
    obtain ⟨g', L', x', e4⟩ := oc_four g (some p : Option (List UInt8 × Int))
    rw [e4] at HDE ⊢
    unfold oe
    dsimp only [Option.isSome] at HDE ⊢
    clear e4
    go_enter Tryz.func12, Tryz.ntmps12
    go_wp2_with (first
      | (go_at_call 18; (with_reducible refine (HA.out _).mono ?_); rintro e w1 ⟨rfl, b1⟩; have x1 := HT.out.below b1; have k1 := x1.keep)
      | (go_at_call 28; (with_reducible refine (HSM.out w1).mono ?_); rintro e w2 ⟨rfl, b2⟩; have x2 := x1.below b2; have k2 := x2.keep)
      | (go_at_call 30; (with_reducible refine (HOF.out w2).mono ?_); rintro e w3 ⟨A3, n3, c3, rfl, r3, b3⟩; have x3 := x2.below b3)
      | (go_at_call 31; (with_reducible refine (npower_calls nr w3).mono ?_); rintro e w4 ⟨A4, n4, c4, rfl, r4, b4⟩; have x4 := x3.below b4)
      | (go_at_call 29; (with_reducible refine (HTO.out A3 A4 n3 c3 n4 c4 w4 (r3.below b4) r4).mono ?_); rintro e w5 ⟨A5, n5, c5, rfl, r5, b5⟩; have h5 : 0 < n5 := (by rw [← r5.len]; exact HZL.out); have x5 := x4.below b5; have y5 := (x5.alloc (.cells #[.bool g, .slice A5 n5 c5, .int .i64 e0] 52)).keep; have y5p := (x5.alloc (.cells #[.bool g, .slice A5 n5 c5, .int .i64 place] 52)).keep)
      | (go_at_call 32; (with_reducible refine (HMO.out (some ⟨w5.heap.size + 1, 0, none⟩) 1 1 _ (one_VV w5 (.cells #[.bool g, .slice A5 n5 c5, .int .i64 place] 52))).mono ?_); rintro e w6 ⟨A6, n6, c6, rfl, r6, j6, b6⟩; have x6 := ((x5.alloc (.cells #[.bool g, .slice A5 n5 c5, .int .i64 place] 52)).alloc (.cells #[.int .u32 1] 57)).below b6; have qq := ((Bk.start w5 52 #[.bool g, .slice A5 n5 c5, .int .i64 place]).alloc (.cells #[.int .u32 1] 57)).below b6; have q6 := three' qq; have f60 := qq.fr 0; have f61 := qq.fr 1; have hq5 : w.heap.size + 1 < w5.heap.size := x5.r.lt; have hq6 : w5.heap.size < (((w5.alloc (.cells #[.bool g, .slice A5 n5 c5, .int .i64 place] 52)).alloc (.cells #[.int .u32 1] 57))).heap.size := ((Bk.start w5 52 #[.bool g, .slice A5 n5 c5, .int .i64 place]).alloc (.cells #[.int .u32 1] 57)).lt; have x8 := (x6.farC (p := (⟨w5.heap.size, 0, none⟩ : Addr)) hq5 (.bool g)).farC (p := (⟨w5.heap.size, 1, none⟩ : Addr)) hq5 (.slice A6 n6 c6); have k8 := x8.keep; have q8 := three' (((qq.set 0 (.bool g)).set 1 (.slice A6 n6 c6)).cast (cs' := #[.bool g, .slice A6 n6 c6, .int .i64 place]) rfl); have r8 := si_setFar (g := w5.heap.size) (j := 1) (si_setFar (g := w5.heap.size) (j := 0) r6 (fun b o s e => by have := j6 b o s e; omega) (.bool g)) (fun b o s e => by have := j6 b o s e; omega) (.slice A6 n6 c6))
      | (go_at_call 33; (with_reducible refine (HDE.out A6 n6 c6 _ r8).mono ?_); rintro e w9 ⟨rfl, b9⟩; have x9 := x8.below b9; have x10 := x9.alloc (.cells #[.int .i64 0, .bool g', .string L', .int .i64 x'] 23); have q10 := x10.res))
    obtain ⟨z1, z2⟩ := x10.ret (.int .i64 0) (.bool g') (.string L') (.int .i64 x')
    exact bodyPost_ret (res_bk_t rfl _ z1 rfl Tryz.underlying23 rfl (by kernel_rfl)) rfl ⟨rfl, z2⟩
end Go.Proofs.YtllpggdmkdgggaaGreatDoor.Dc
