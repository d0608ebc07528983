/- Texts of one layer, joined: Di, Dj. -/
import Derived.Test.YtfddokfnplehkaaGreatDoorGJ
set_option linter.unusedVariables false
set_option linter.unusedSimpArgs false
set_option linter.unusedSectionVars false
/- Layer 6: round.to, with a rest. -/
set_option linter.unusedSimpArgs false
set_option linter.unusedVariables false
namespace Go.Proofs.YtfddokfnplehkaaGreatDoor.Dc
open Go.RowKit Go.Proofs.YtfddokfnplehkaaGreatDoor.Dig Go.Proofs.YtfddokfnplehkaaGreatDoor.W Go.Proofs.YtfddokfnplehkaaGreatDoor.Nat Go.Proofs.YtfddokfnplehkaaGreatDoor.Wh Go.Proofs.YtfddokfnplehkaaGreatDoor.Td Go.Proofs.YtfddokfnplehkaaGreatDoor.Bu Go.Proofs.YtfddokfnplehkaaGreatDoor.Tx Go.Proofs.YtfddokfnplehkaaGreatDoor.Sp Go.Proofs.YtfddokfnplehkaaGreatDoor.Rd

theorem three {w : World} {g : Nat} {t : TypeId} {a0 a1 a2 : Value} (C : Bk w g t #[a0, a1, a2]) : w.cell? ⟨g, 0, none⟩ = some a0 ∧ w.cell? ⟨g, 1, none⟩ = some a1 ∧ w.cell? ⟨g, 2, none⟩ = some a2 := ⟨C.at_ 0 rfl, C.at_ 1 rfl, C.at_ 2 rfl⟩
structure TA (w V : World) (g : Bool) (S : ByteArray) (x : Int) (A : Option Addr) (n c u : Nat) (A5 : Option Addr) (n5 c5 D : Nat) (A6 : Option Addr) (n6 c6 Q : Nat) : Prop where
  t : TB w V g S x
  p : Pow V
  su : SI V .u64 A n c (digs U u)
  s5 : SI V .u64 A5 n5 c5 (digs U D)
  s6 : SI V .u64 A6 n6 c6 (digs U Q)
section
variable {w V V' : World} {g : Bool} {S : ByteArray} {x : Int} {A : Option Addr} {n c u : Nat} {A5 : Option Addr} {n5 c5 D : Nat} {A6 : Option Addr} {n6 c6 Q : Nat}
theorem TA.below (h : TA w V g S x A n c u A5 n5 c5 D A6 n6 c6 Q) (hb : Below V.heap.size V V') : TA w V' g S x A n c u A5 n5 c5 D A6 n6 c6 Q := ⟨h.t.below hb, h.p.below hb, h.su.below hb, h.s5.below hb, h.s6.below hb⟩
theorem TA.drew (h : TA w V g S x A n c u A5 n5 c5 D A6 n6 c6 Q) : TA w V.drew g S x A n c u A5 n5 c5 D A6 n6 c6 Q := h.below (Below.refl _ _).drew
theorem TA.alloc (h : TA w V g S x A n c u A5 n5 c5 D A6 n6 c6 Q) (o : Obj) : TA w (V.alloc o) g S x A n c u A5 n5 c5 D A6 n6 c6 Q := h.below (alloc_below _ _)
theorem TA.neg (h : TA w V g S x A n c u A5 n5 c5 D A6 n6 c6 Q) : V.cell? ⟨w.heap.size, 1, none⟩ = some (.bool g) := h.t.neg
theorem TA.more {b o : Nat} (h : TA w V g S x A n c u A5 n5 c5 D (some ⟨b, o, none⟩) n6 c6 Q) (h6 : 0 < n6) : V.cell? ⟨w.heap.size, 1, none⟩ = some (.bool g) ∧ V.cell? ⟨b, o, none⟩ = some (.int .u64 (rd (digs U Q) 0 : Nat)) := by
  obtain ⟨b', o', e, hc⟩ := h.s6.at_ (j := 0) h6
  injection e with e
  injection e with e1 e2
  subst e1; subst e2
  exact ⟨h.t.neg, hc⟩
end
set_option maxHeartbeats 8000000 in
set_option maxRecDepth 100000 in
theorem to_more {mode : Nat} (hm : mode < 8) (b g : Bool) (l : List UInt8) (x : Int) (A : Option Addr) (n c u k1 k2 : Nat) (y e0 : Int) (w : World) (hp : Pow w) (hF : Formed l) (hf : l.length ≤ 1000) (h : SI w .u64 A n c (digs U u)) (hu : 0 < u) {K : Nat} (hu2 : Lo u K) (hK : K ≤ 1000)
    (hx : -4090 ≤ x ∧ x ≤ 4090) (hy : -4090 ≤ y ∧ y ≤ 4090) (he : min x y = e0) (hk1 : x - e0 = k1) (hk2 : y - e0 = k2) (hR : nv 0 l * 10 ^ k1 % (u * 10 ^ k2) ≠ 0)
    (hQ0 : nv 0 l * 10 ^ k1 / (u * 10 ^ k2) ≠ 0)
    (hup : up mode g (decide (nv 0 l * 10 ^ k1 / (u * 10 ^ k2) % 2 = 1)) (stand (nv 0 l * 10 ^ k1 % (u * 10 ^ k2) + nv 0 l * 10 ^ k1 % (u * 10 ^ k2)) (u * 10 ^ k2)) = b) :
    Calls Tryz.prog 56 #[.agg (dec 0 g l x), .slice A n c, .int .i64 y, .int .i64 (mode : Nat)] w fun e w' =>
      e = .returned (.tuple #[.agg (oc g (told g ((nv 0 l * 10 ^ k1 / (u * 10 ^ k2) + b.toNat) * u) y)), .int .i64 (oe (told g ((nv 0 l * 10 ^ k1 / (u * 10 ^ k2) + b.toNat) * u) y))]) ∧ Below w.heap.size w w' := by
  have hD := (nv_10 hF).mono hf
  have hb1 : k1 ≤ 8192 := by omega
  have hb2 : k2 ≤ 8192 := by omega
  have q1 := (Lo.pow k1).mono (show k1 + 1 ≤ 8193 by omega)
  have q2 := (Lo.pow k2).mono (show k2 + 1 ≤ 8193 by omega)
  have a1 := hD.mul q1
  have a2 := hu2.mul q2
  have hU : u * 10 ^ k2 ≠ 0 := Nat.pos_iff_ne_zero.1 (Nat.mul_pos hu (Nat.pow_pos (by omega)))
  have HP1 := Lib.hid (fun w1 => Wh.pow10_calls k1 w1 hb1)
  have HP2 := Lib.hid (fun w1 => Wh.pow10_calls k2 w1 hb2)
  have HPa := Lib.hid (fun w1 => parse_formed hF (by omega) w1)
  unfold dec str
  generalize (⟨l.toArray⟩ : ByteArray) = S at *
  generalize nv 0 l = D at *
  have hQ : Lo (D * 10 ^ k1 / (u * 10 ^ k2)) _ := a1.le (Nat.div_le_self _ _)
  have hN : Lo (D * 10 ^ k1 / (u * 10 ^ k2) + b.toNat) _ := (hQ.succ).le (by have := Bool.toNat_le b; omega)
  have hNu := hN.mul hu2
  have hRl : Lo (D * 10 ^ k1 % (u * 10 ^ k2)) _ := a2.le (Nat.le_of_lt (Nat.mod_lt _ (Nat.pos_of_ne_zero hU)))
  have T := TB.start w g S x
  have HT := Lib.hid T
  have HS := Lib.hid (h.below T.bl)
  have HW := Lib.hid (hp.below T.bl)
  have HM1 := Lib.hid (fun (A A' : Option Addr) (n c n' c' : Nat) (w1 : World) (h : SI w1 .u64 A n c (digs U D)) (h' : SI w1 .u64 A' n' c' (digs U (10 ^ k1))) => mul_10 A A' n c n' c' D (10 ^ k1) w1 h h' (hD.mono (by omega : _ ≤ 20000)) (q1.mono (by omega)) (by omega))
  have HM2 := Lib.hid (fun (A A' : Option Addr) (n c n' c' : Nat) (w1 : World) (h : SI w1 .u64 A n c (digs U u)) (h' : SI w1 .u64 A' n' c' (digs U (10 ^ k2))) => mul_10 A A' n c n' c' u (10 ^ k2) w1 h h' (hu2.mono (by omega : _ ≤ 20000)) (q2.mono (by omega)) (by omega))
  have HDM := Lib.hid (fun (A A' : Option Addr) (n c n' c' : Nat) (w1 : World) (h : SI w1 .u64 A n c (digs U (D * 10 ^ k1))) (h' : SI w1 .u64 A' n' c' (digs U (u * 10 ^ k2))) => divmod_d A A' n c n' c' _ _ w1 h h' (a1.mono (by omega : _ ≤ 20000)) (a2.mono (by omega)) (by omega) hU)
  have HUP := Lib.hid (fun w1 => up_calls (mode := mode) hm g (decide (D * 10 ^ k1 / (u * 10 ^ k2) % 2 = 1)) (stand_three (D * 10 ^ k1 % (u * 10 ^ k2) + D * 10 ^ k1 % (u * 10 ^ k2)) (u * 10 ^ k2)) w1)
  rw [hup] at HUP
  generalize D * 10 ^ k1 / (u * 10 ^ k2) = Q at *
  generalize D * 10 ^ k1 % (u * 10 ^ k2) = R at *
  have HAR := Lib.hid (fun (A : Option Addr) (n c : Nat) (w1 : World) (h : SI w1 .u64 A n c (digs U R)) => add_10 A A n c n c R R w1 h h (hRl.mono (by omega : _ ≤ 20000)) (hRl.mono (by omega)) (by omega))
  have HCM := Lib.hid (fun (A A' : Option Addr) (n c n' c' : Nat) (w1 : World) (h : SI w1 .u64 A n c (digs U (R + R))) (h' : SI w1 .u64 A' n' c' (digs U (u * 10 ^ k2))) => cmp_10 A A' n c n' c' (R + R) (u * 10 ^ k2) w1 h h')
  have HAQ := Lib.hid (fun (A A' : Option Addr) (n c n' c' : Nat) (w1 : World) (h : SI w1 .u64 A n c (digs U Q)) (h' : SI w1 .u64 A' n' c' (digs U 1)) => add_10 A A' n c n' c' Q 1 w1 h h' (hQ.mono (by omega : _ ≤ 20000)) (Lo.one.mono (by omega)) (by omega))
  have HM3 := Lib.hid (fun (A A' : Option Addr) (n c n' c' : Nat) (w1 : World) (h : SI w1 .u64 A n c (digs U (Q + b.toNat))) (h' : SI w1 .u64 A' n' c' (digs U u)) => mul_10 A A' n c n' c' (Q + b.toNat) u w1 h h' (hN.mono (by omega : _ ≤ 20000)) (hu2.mono (by omega)) (by omega))
  have HMA := Lib.hid (fun (A : Option Addr) (n c : Nat) (w1 : World) (hp : Pow w1) (h : SI w1 .u64 A n c (digs U ((Q + b.toNat) * u))) => made_calls g A n c ((Q + b.toNat) * u) _ y w1 hp h hNu (by omega) (by omega) (by omega))
  have HRP := Lib.hid (digs_length_pos U_two hR)
  have HQP := Lib.hid (digs_length_pos U_two hQ0)
  have hq0 : rd (digs U Q) 0 = Q % U := by rw [digs_pos U_two hQ0]; rfl
  have hq1 : Q % U < 18446744073709551616 := Nat.mod_lt _ U_pos
  have hq2 : Q % U % 2 = Q % 2 := by unfold U; omega
  have hodd : (Go.bits .and .u64 ((rd (digs U Q) 0 : Nat) : Int) 1 == 1) = decide (Q % 2 = 1) := by
    rw [hq0, and_one _ hq1, hq2, Bool.eq_iff_iff]; simp; omega
  obtain ⟨q0, hq⟩ : ∃ q0, q0 = rd (digs U Q) 0 := ⟨_, rfl⟩
  rw [← hq] at hodd
  have HQQ := Lib.hid hq
  generalize decide (Q % 2 = 1) = od at *
  clear hq0 hq1 hq2 hq
  clear hR hU a1 a2 q1 q2 hD hQ hN hNu hRl hu hu2 T h hp hF hf hup
  obtain ⟨g', L', x', e4⟩ := oc_four g (told g ((Q + b.toNat) * u) y)
  rw [e4] at HMA ⊢
  generalize oe (told g ((Q + b.toNat) * u) y) = er at *
  generalize digs U ((Q + b.toNat) * u) = dQu at *
  generalize stand (R + R) (u * 10 ^ k2) = st at *
  clear e4
  cases b
  · skip
    go_enter Tryz.func56, Tryz.ntmps56
    go_wp2_with (first
      | (go_at_call 55; (with_reducible refine (HPa.out _).mono ?_); rintro e w1 ⟨A1, n1, c1, rfl, r1, b1⟩; have x1 := HT.out.below b1; have y1 := x1.cells; unfold TC at y1)
      | (go_at_call 69; first
        | ((with_reducible refine (HP1.out w1).mono ?_); rintro e w2 ⟨A2, n2, c2, rfl, r2, b2⟩; have x2 := x1.below b2)
        | ((with_reducible refine (HP2.out w2).mono ?_); rintro e w3 ⟨A3, n3, c3, rfl, r3, b3⟩; have x3 := x2.below b3))
      | (go_at_call 70; first
        | ((with_reducible refine (HM1.out A1 A2 n1 c1 n2 c2 w3 ((r1.below b2).below b3) (r2.below b3)).mono ?_); rintro e w4 ⟨v4, rfl, o4, b4⟩; obtain ⟨A4, n4, c4, rfl, r4⟩ := o4.reads_n; have x4 := x3.below b4)
        | ((with_reducible refine (HM2.out A A3 n c n3 c3 w4 ((((HS.out.below b1).below b2).below b3).below b4) (r3.below b4)).mono ?_); rintro e w5 ⟨v5, rfl, o5, b5⟩; obtain ⟨A5, n5, c5, rfl, r5⟩ := o5.reads_n; have x5 := x4.below b5))
      | (go_at_call 88; (with_reducible refine (HDM.out A4 A5 n4 c4 n5 c5 w5 (r4.below b5) r5).mono ?_); rintro e w6 ⟨v6, v7, rfl, o6, o7, b6⟩; obtain ⟨A6, n6, c6, rfl, r6⟩ := o6.reads_n; obtain ⟨A7, n7, c7, rfl, r7⟩ := o7.reads_n; have h7 : 0 < n7 := (by rw [← r7.len]; exact HRP.out); have h6 : 0 < n6 := (by rw [← r6.len]; exact HQP.out); have x6 := x5.below b6))
    have z6 : TA w w6 g S x A n c u A5 n5 c5 (u * 10 ^ k2) A6 n6 c6 Q := ⟨x6, ((((((HW.out.below b1).below b2).below b3).below b4).below b5).below b6), ((((((HS.out.below b1).below b2).below b3).below b4).below b5).below b6), r5.below b6, r6⟩
    obtain ⟨bq, oq, rfl, _⟩ := r6.at_ (j := 0) h6
    have z6d := z6.drew
    have z6a := (z6.alloc (.cells #[.bool false, .bool false, .int .i64 0] 124)).drew
    clear y1 HT HPa HP1 HP2 HM1 HM2 HDM HW HS r1 r2 r3 r4 r5 x1 x2 x3 x4 x5 x6 b1 b2 b3 b4 b5 b6 o4 o5 o6 r6
    have key_more : ∀ {V : World}, TA w V g S x A n c u A5 n5 c5 (u * 10 ^ k2) (some ⟨bq, oq, none⟩) n6 c6 Q → 0 < n6 → V.cell? ⟨w.heap.size, 1, none⟩ = some (.bool g) ∧ V.cell? ⟨bq, oq, none⟩ = some (.int .u64 (q0 : Nat)) := fun z h => HQQ.out ▸ z.more h
    go_region_held3 (fun w' => w'.cell? ⟨w.heap.size, 1, none⟩ = some (.bool g) ∧ w'.cell? ⟨bq, oq, none⟩ = some (.int .u64 (q0 : Nat)))
      (first
        | (with_reducible exact (key_more z6d h6))
        | (with_reducible exact (key_more z6a h6))
        | (with_reducible exact (key_more z7 h6))
        | (with_reducible exact (key_more z7a h6))
        | (with_reducible exact (key_more z8 h6))
        | (with_reducible exact (key_more z8a h6))
        | (with_reducible exact (key_more z8f h6))
        | (with_reducible exact (key_more z8s h6))
      )
      (first
        | (go_at_call 86; first
          | ((with_reducible refine (HAR.out A7 n7 c7 _ (r7.below (Below.refl _ _).drew)).mono ?_); rintro e w7 ⟨v8, rfl, o8, b7⟩; obtain ⟨A8, n8, c8, rfl, r8⟩ := o8.reads_n; have z7 := z6d.below b7; have z7a := z7.alloc (.cells #[.bool false, .bool false, .int .i64 0] 124); have tagAB := True.intro)
          | ((with_reducible refine (HAR.out A7 n7 c7 _ ((r7.alloc (.cells #[.bool false, .bool false, .int .i64 0] 124)).below (Below.refl _ _).drew)).mono ?_); rintro e w7 ⟨v8, rfl, o8, b7⟩; obtain ⟨A8, n8, c8, rfl, r8⟩ := o8.reads_n; have z7 := z6a.below b7; have B7 := (Bk.start w6 124 #[.bool false, .bool false, .int .i64 0]).drew.below b7; have c7 := on ((alloc_below w6 _).drew) b7; have tagC := True.intro))
        | (go_at_call 89; first
          | (have tag := tagC; (with_reducible refine (HCM.out A8 A5 n8 c8 n5 c5 w7 r8 z7.s5).mono ?_); rintro e w8 ⟨rfl, d8⟩; have z8 := z7.below (Drawn.below d8); have c8 := on c7 (Drawn.below d8); have B8 : Bk w8 w6.heap.size 124 #[.bool false, .bool false, .int .i64 0] := B7.below (Drawn.below d8); have z8s : TA w (((w8.setCell ⟨w6.heap.size, 0, none⟩ (.bool g)).setCell ⟨w6.heap.size, 1, none⟩ (.bool od)).setCell ⟨w6.heap.size, 2, none⟩ (.int .i64 st)) g S x A n c u A5 n5 c5 (u * 10 ^ k2) (some ⟨bq, oq, none⟩) n6 c6 Q := z6.below (((c8.setCell (Nat.le_refl _) (.bool g)).setCell (Nat.le_refl _) (.bool od)).setCell (Nat.le_refl _) (.int .i64 st)); have B9 := ((B8.set 0 (.bool g)).set 1 (.bool od)).set 2 (.int .i64 st); have q9 := And.intro (B8.at_ 0 rfl) (And.intro (B8.at_ 1 rfl) (And.intro (B8.at_ 2 rfl) (And.intro (B8.fr 0) (And.intro (B8.fr 1) (B8.fr 2))))))
          | ((with_reducible refine (HCM.out A8 A5 n8 c8 n5 c5 _ (r8.alloc (.cells #[.bool false, .bool false, .int .i64 0] 124)) z7a.s5).mono ?_); rintro e w8 ⟨rfl, d8⟩; have z8 := z7a.below (Drawn.below d8); have c8 := on (alloc_below w7 (.cells #[.bool false, .bool false, .int .i64 0] 124)) (Drawn.below d8); have B8 : Bk w8 w7.heap.size 124 #[.bool false, .bool false, .int .i64 0] := (Bk.start w7 124 #[.bool false, .bool false, .int .i64 0]).below (Drawn.below d8); have z8s : TA w (((w8.setCell ⟨w7.heap.size, 0, none⟩ (.bool g)).setCell ⟨w7.heap.size, 1, none⟩ (.bool od)).setCell ⟨w7.heap.size, 2, none⟩ (.int .i64 st)) g S x A n c u A5 n5 c5 (u * 10 ^ k2) (some ⟨bq, oq, none⟩) n6 c6 Q := z7.below (((c8.setCell (Nat.le_refl _) (.bool g)).setCell (Nat.le_refl _) (.bool od)).setCell (Nat.le_refl _) (.int .i64 st)); have B9 := ((B8.set 0 (.bool g)).set 1 (.bool od)).set 2 (.int .i64 st); have q9 := And.intro (B8.at_ 0 rfl) (And.intro (B8.at_ 1 rfl) (And.intro (B8.at_ 2 rfl) (And.intro (B8.fr 0) (And.intro (B8.fr 1) (B8.fr 2))))))
          | ((with_reducible refine (HCM.out A8 A5 n8 c8 n5 c5 w7 r8 z7.s5).mono ?_); rintro e w8 ⟨rfl, d8⟩; have z8 := z7.below (Drawn.below d8); have z8a := z8.alloc (.cells #[.bool false, .bool false, .int .i64 0] 124); have z8f := z8.alloc (.cells #[.bool g, .bool od, .int .i64 st] 124); have z8s := z8f; have B9 := Bk.start w8 124 #[.bool g, .bool od, .int .i64 st]; have tagA := True.intro)))
    all_goals
      have C9 := three (Bk.cast (cs' := #[.bool g, .bool od, .int .i64 st]) B9 rfl)
      clear B9
      try clear key_more
      try clear z8a z8f B8 q9 c8
      try clear z7 z7a z6d z6a z8
      go_wp2_with (first
        | (go_at_call 90; (with_reducible refine (HUP.out _).mono ?_); rintro e w9 ⟨rfl, b9⟩; have z9 := z8s.below b9)
        )
      have zf := z9.drew
      have kf := zf.neg
      have rN : SI w9.drew .u64 _ n6 c6 (digs U (Q + false.toNat)) := zf.s6
      clear C9
      go_region_held3 (fun w' => w'.cell? ⟨w.heap.size, 1, none⟩ = some (.bool g))
        (first
          | (with_reducible exact kf)
          | (with_reducible exact k12)
          | (with_reducible exact k13)
          | (with_reducible exact f13))
        (first
          | (go_at_call 70; (with_reducible refine (HM3.out _ A n6 c6 n c _ rN zf.su).mono ?_); rintro e w12 ⟨v12, rfl, o12, b12⟩; obtain ⟨A12, n12, c12, rfl, r12⟩ := o12.reads_n; have z12 := zf.below b12; have k12 := z12.neg)
          | (go_at_call 91; (with_reducible refine (HMA.out A12 n12 c12 w12 z12.p r12).mono ?_); rintro e w13 ⟨rfl, b13⟩; have z13 := z12.t.below b13; have k13 := z13.neg; have f13 := z13.far (.int .i64 0) (.bool g') (.string L') (.int .i64 x'); have q13 := z13.res))
      go_wp2
      obtain ⟨y1, y2⟩ := z13.ret (.int .i64 0) (.bool g') (.string L') (.int .i64 x')
      exact bodyPost_ret (res_bk_t rfl _ y1 rfl Tryz.underlying23 rfl (by kernel_rfl)) rfl ⟨rfl, y2⟩
  · skip
    go_enter Tryz.func56, Tryz.ntmps56
    go_wp2_with (first
      | (go_at_call 55; (with_reducible refine (HPa.out _).mono ?_); rintro e w1 ⟨A1, n1, c1, rfl, r1, b1⟩; have x1 := HT.out.below b1; have y1 := x1.cells; unfold TC at y1)
      | (go_at_call 69; first
        | ((with_reducible refine (HP1.out w1).mono ?_); rintro e w2 ⟨A2, n2, c2, rfl, r2, b2⟩; have x2 := x1.below b2)
        | ((with_reducible refine (HP2.out w2).mono ?_); rintro e w3 ⟨A3, n3, c3, rfl, r3, b3⟩; have x3 := x2.below b3))
      | (go_at_call 70; first
        | ((with_reducible refine (HM1.out A1 A2 n1 c1 n2 c2 w3 ((r1.below b2).below b3) (r2.below b3)).mono ?_); rintro e w4 ⟨v4, rfl, o4, b4⟩; obtain ⟨A4, n4, c4, rfl, r4⟩ := o4.reads_n; have x4 := x3.below b4)
        | ((with_reducible refine (HM2.out A A3 n c n3 c3 w4 ((((HS.out.below b1).below b2).below b3).below b4) (r3.below b4)).mono ?_); rintro e w5 ⟨v5, rfl, o5, b5⟩; obtain ⟨A5, n5, c5, rfl, r5⟩ := o5.reads_n; have x5 := x4.below b5))
      | (go_at_call 88; (with_reducible refine (HDM.out A4 A5 n4 c4 n5 c5 w5 (r4.below b5) r5).mono ?_); rintro e w6 ⟨v6, v7, rfl, o6, o7, b6⟩; obtain ⟨A6, n6, c6, rfl, r6⟩ := o6.reads_n; obtain ⟨A7, n7, c7, rfl, r7⟩ := o7.reads_n; have h7 : 0 < n7 := (by rw [← r7.len]; exact HRP.out); have h6 : 0 < n6 := (by rw [← r6.len]; exact HQP.out); have x6 := x5.below b6))
    have z6 : TA w w6 g S x A n c u A5 n5 c5 (u * 10 ^ k2) A6 n6 c6 Q := ⟨x6, ((((((HW.out.below b1).below b2).below b3).below b4).below b5).below b6), ((((((HS.out.below b1).below b2).below b3).below b4).below b5).below b6), r5.below b6, r6⟩
    obtain ⟨bq, oq, rfl, _⟩ := r6.at_ (j := 0) h6
    have z6d := z6.drew
    have z6a := (z6.alloc (.cells #[.bool false, .bool false, .int .i64 0] 124)).drew
    clear y1 HT HPa HP1 HP2 HM1 HM2 HDM HW HS r1 r2 r3 r4 r5 x1 x2 x3 x4 x5 x6 b1 b2 b3 b4 b5 b6 o4 o5 o6 r6
    have key_more : ∀ {V : World}, TA w V g S x A n c u A5 n5 c5 (u * 10 ^ k2) (some ⟨bq, oq, none⟩) n6 c6 Q → 0 < n6 → V.cell? ⟨w.heap.size, 1, none⟩ = some (.bool g) ∧ V.cell? ⟨bq, oq, none⟩ = some (.int .u64 (q0 : Nat)) := fun z h => HQQ.out ▸ z.more h
    go_region_held3 (fun w' => w'.cell? ⟨w.heap.size, 1, none⟩ = some (.bool g) ∧ w'.cell? ⟨bq, oq, none⟩ = some (.int .u64 (q0 : Nat)))
      (first
        | (with_reducible exact (key_more z6d h6))
        | (with_reducible exact (key_more z6a h6))
        | (with_reducible exact (key_more z7 h6))
        | (with_reducible exact (key_more z7a h6))
        | (with_reducible exact (key_more z8 h6))
        | (with_reducible exact (key_more z8a h6))
        | (with_reducible exact (key_more z8f h6))
        | (with_reducible exact (key_more z8s h6))
      )
      (first
        | (go_at_call 86; first
          | ((with_reducible refine (HAR.out A7 n7 c7 _ (r7.below (Below.refl _ _).drew)).mono ?_); rintro e w7 ⟨v8, rfl, o8, b7⟩; obtain ⟨A8, n8, c8, rfl, r8⟩ := o8.reads_n; have z7 := z6d.below b7; have z7a := z7.alloc (.cells #[.bool false, .bool false, .int .i64 0] 124); have tagAB := True.intro)
          | ((with_reducible refine (HAR.out A7 n7 c7 _ ((r7.alloc (.cells #[.bool false, .bool false, .int .i64 0] 124)).below (Below.refl _ _).drew)).mono ?_); rintro e w7 ⟨v8, rfl, o8, b7⟩; obtain ⟨A8, n8, c8, rfl, r8⟩ := o8.reads_n; have z7 := z6a.below b7; have B7 := (Bk.start w6 124 #[.bool false, .bool false, .int .i64 0]).drew.below b7; have c7 := on ((alloc_below w6 _).drew) b7; have tagC := True.intro))
        | (go_at_call 89; first
          | (have tag := tagC; (with_reducible refine (HCM.out A8 A5 n8 c8 n5 c5 w7 r8 z7.s5).mono ?_); rintro e w8 ⟨rfl, d8⟩; have z8 := z7.below (Drawn.below d8); have c8 := on c7 (Drawn.below d8); have B8 : Bk w8 w6.heap.size 124 #[.bool false, .bool false, .int .i64 0] := B7.below (Drawn.below d8); have z8s : TA w (((w8.setCell ⟨w6.heap.size, 0, none⟩ (.bool g)).setCell ⟨w6.heap.size, 1, none⟩ (.bool od)).setCell ⟨w6.heap.size, 2, none⟩ (.int .i64 st)) g S x A n c u A5 n5 c5 (u * 10 ^ k2) (some ⟨bq, oq, none⟩) n6 c6 Q := z6.below (((c8.setCell (Nat.le_refl _) (.bool g)).setCell (Nat.le_refl _) (.bool od)).setCell (Nat.le_refl _) (.int .i64 st)); have B9 := ((B8.set 0 (.bool g)).set 1 (.bool od)).set 2 (.int .i64 st); have q9 := And.intro (B8.at_ 0 rfl) (And.intro (B8.at_ 1 rfl) (And.intro (B8.at_ 2 rfl) (And.intro (B8.fr 0) (And.intro (B8.fr 1) (B8.fr 2))))))
          | ((with_reducible refine (HCM.out A8 A5 n8 c8 n5 c5 _ (r8.alloc (.cells #[.bool false, .bool false, .int .i64 0] 124)) z7a.s5).mono ?_); rintro e w8 ⟨rfl, d8⟩; have z8 := z7a.below (Drawn.below d8); have c8 := on (alloc_below w7 (.cells #[.bool false, .bool false, .int .i64 0] 124)) (Drawn.below d8); have B8 : Bk w8 w7.heap.size 124 #[.bool false, .bool false, .int .i64 0] := (Bk.start w7 124 #[.bool false, .bool false, .int .i64 0]).below (Drawn.below d8); have z8s : TA w (((w8.setCell ⟨w7.heap.size, 0, none⟩ (.bool g)).setCell ⟨w7.heap.size, 1, none⟩ (.bool od)).setCell ⟨w7.heap.size, 2, none⟩ (.int .i64 st)) g S x A n c u A5 n5 c5 (u * 10 ^ k2) (some ⟨bq, oq, none⟩) n6 c6 Q := z7.below (((c8.setCell (Nat.le_refl _) (.bool g)).setCell (Nat.le_refl _) (.bool od)).setCell (Nat.le_refl _) (.int .i64 st)); have B9 := ((B8.set 0 (.bool g)).set 1 (.bool od)).set 2 (.int .i64 st); have q9 := And.intro (B8.at_ 0 rfl) (And.intro (B8.at_ 1 rfl) (And.intro (B8.at_ 2 rfl) (And.intro (B8.fr 0) (And.intro (B8.fr 1) (B8.fr 2))))))
          | ((with_reducible refine (HCM.out A8 A5 n8 c8 n5 c5 w7 r8 z7.s5).mono ?_); rintro e w8 ⟨rfl, d8⟩; have z8 := z7.below (Drawn.below d8); have z8a := z8.alloc (.cells #[.bool false, .bool false, .int .i64 0] 124); have z8f := z8.alloc (.cells #[.bool g, .bool od, .int .i64 st] 124); have z8s := z8f; have B9 := Bk.start w8 124 #[.bool g, .bool od, .int .i64 st]; have tagA := True.intro)))
    all_goals
      have C9 := three (Bk.cast (cs' := #[.bool g, .bool od, .int .i64 st]) B9 rfl)
      clear B9
      try clear key_more
      try clear z8a z8f B8 q9 c8
      try clear z7 z7a z6d z6a z8
      go_wp2_with (first
        | (go_at_call 90; (with_reducible refine (HUP.out _).mono ?_); rintro e w9 ⟨rfl, b9⟩; have z9 := z8s.below b9)
        | (go_at_call 71; (with_reducible refine (of_lit1 w9).mono ?_); rintro e w10 ⟨v10, rfl, o10, b10⟩; obtain ⟨A10, n10, c10, rfl, r10⟩ := o10.reads_n; have z10 := z9.below b10)
        | (go_at_call 86; (with_reducible refine (HAQ.out _ A10 n6 c6 n10 c10 w10 z10.s6 r10).mono ?_); rintro e w11 ⟨v11, rfl, o11, b11⟩; obtain ⟨A11, n11, c11, rfl, r11⟩ := o11.reads_n; have z11 := z10.below b11)
        )
      have zf := z11.drew
      have kf := zf.neg
      have rN : SI w11.drew .u64 A11 n11 c11 (digs U (Q + true.toNat)) := r11.below (Below.refl _ _).drew
      clear C9
      go_region_held3 (fun w' => w'.cell? ⟨w.heap.size, 1, none⟩ = some (.bool g))
        (first
          | (with_reducible exact kf)
          | (with_reducible exact k12)
          | (with_reducible exact k13)
          | (with_reducible exact f13))
        (first
          | (go_at_call 70; (with_reducible refine (HM3.out A11 A n11 c11 n c _ rN zf.su).mono ?_); rintro e w12 ⟨v12, rfl, o12, b12⟩; obtain ⟨A12, n12, c12, rfl, r12⟩ := o12.reads_n; have z12 := zf.below b12; have k12 := z12.neg)
          | (go_at_call 91; (with_reducible refine (HMA.out A12 n12 c12 w12 z12.p r12).mono ?_); rintro e w13 ⟨rfl, b13⟩; have z13 := z12.t.below b13; have k13 := z13.neg; have f13 := z13.far (.int .i64 0) (.bool g') (.string L') (.int .i64 x'); have q13 := z13.res))
      go_wp2
      obtain ⟨y1, y2⟩ := z13.ret (.int .i64 0) (.bool g') (.string L') (.int .i64 x')
      exact bodyPost_ret (res_bk_t rfl _ y1 rfl Tryz.underlying23 rfl (by kernel_rfl)) rfl ⟨rfl, y2⟩
end Go.Proofs.YtfddokfnplehkaaGreatDoor.Dc

/- Layer 6: round.to, with a rest below one unit. -/
set_option linter.unusedSimpArgs false
set_option linter.unusedVariables false
namespace Go.Proofs.YtfddokfnplehkaaGreatDoor.Dc
open Go.RowKit Go.Proofs.YtfddokfnplehkaaGreatDoor.Dig Go.Proofs.YtfddokfnplehkaaGreatDoor.W Go.Proofs.YtfddokfnplehkaaGreatDoor.Nat Go.Proofs.YtfddokfnplehkaaGreatDoor.Wh Go.Proofs.YtfddokfnplehkaaGreatDoor.Td Go.Proofs.YtfddokfnplehkaaGreatDoor.Bu Go.Proofs.YtfddokfnplehkaaGreatDoor.Tx Go.Proofs.YtfddokfnplehkaaGreatDoor.Sp Go.Proofs.YtfddokfnplehkaaGreatDoor.Rd

set_option maxHeartbeats 8000000 in
set_option maxRecDepth 100000 in
theorem to_less {mode : Nat} (hm : mode < 8) (b g : Bool) (l : List UInt8) (x : Int) (A : Option Addr) (n c u k1 k2 : Nat) (y e0 : Int) (w : World) (hp : Pow w) (hF : Formed l) (hf : l.length ≤ 1000) (h : SI w .u64 A n c (digs U u)) (hu : 0 < u) {K : Nat} (hu2 : Lo u K) (hK : K ≤ 1000)
    (hx : -4090 ≤ x ∧ x ≤ 4090) (hy : -4090 ≤ y ∧ y ≤ 4090) (he : min x y = e0) (hk1 : x - e0 = k1) (hk2 : y - e0 = k2) (hR : nv 0 l * 10 ^ k1 % (u * 10 ^ k2) ≠ 0)
    (hQ0 : nv 0 l * 10 ^ k1 / (u * 10 ^ k2) = 0)
    (hup : up mode g (decide (nv 0 l * 10 ^ k1 / (u * 10 ^ k2) % 2 = 1)) (stand (nv 0 l * 10 ^ k1 % (u * 10 ^ k2) + nv 0 l * 10 ^ k1 % (u * 10 ^ k2)) (u * 10 ^ k2)) = b) :
    Calls Tryz.prog 56 #[.agg (dec 0 g l x), .slice A n c, .int .i64 y, .int .i64 (mode : Nat)] w fun e w' =>
      e = .returned (.tuple #[.agg (oc g (told g ((nv 0 l * 10 ^ k1 / (u * 10 ^ k2) + b.toNat) * u) y)), .int .i64 (oe (told g ((nv 0 l * 10 ^ k1 / (u * 10 ^ k2) + b.toNat) * u) y))]) ∧ Below w.heap.size w w' := by
  have hD := (nv_10 hF).mono hf
  have hb1 : k1 ≤ 8192 := by omega
  have hb2 : k2 ≤ 8192 := by omega
  have q1 := (Lo.pow k1).mono (show k1 + 1 ≤ 8193 by omega)
  have q2 := (Lo.pow k2).mono (show k2 + 1 ≤ 8193 by omega)
  have a1 := hD.mul q1
  have a2 := hu2.mul q2
  have hU : u * 10 ^ k2 ≠ 0 := Nat.pos_iff_ne_zero.1 (Nat.mul_pos hu (Nat.pow_pos (by omega)))
  have HP1 := Lib.hid (fun w1 => Wh.pow10_calls k1 w1 hb1)
  have HP2 := Lib.hid (fun w1 => Wh.pow10_calls k2 w1 hb2)
  have HPa := Lib.hid (fun w1 => parse_formed hF (by omega) w1)
  unfold dec str
  generalize (⟨l.toArray⟩ : ByteArray) = S at *
  generalize nv 0 l = D at *
  have hQ : Lo (D * 10 ^ k1 / (u * 10 ^ k2)) _ := a1.le (Nat.div_le_self _ _)
  have hN : Lo (D * 10 ^ k1 / (u * 10 ^ k2) + b.toNat) _ := (hQ.succ).le (by have := Bool.toNat_le b; omega)
  have hNu := hN.mul hu2
  have hRl : Lo (D * 10 ^ k1 % (u * 10 ^ k2)) _ := a2.le (Nat.le_of_lt (Nat.mod_lt _ (Nat.pos_of_ne_zero hU)))
  have T := TB.start w g S x
  have HT := Lib.hid T
  have HS := Lib.hid (h.below T.bl)
  have HW := Lib.hid (hp.below T.bl)
  have HM1 := Lib.hid (fun (A A' : Option Addr) (n c n' c' : Nat) (w1 : World) (h : SI w1 .u64 A n c (digs U D)) (h' : SI w1 .u64 A' n' c' (digs U (10 ^ k1))) => mul_10 A A' n c n' c' D (10 ^ k1) w1 h h' (hD.mono (by omega : _ ≤ 20000)) (q1.mono (by omega)) (by omega))
  have HM2 := Lib.hid (fun (A A' : Option Addr) (n c n' c' : Nat) (w1 : World) (h : SI w1 .u64 A n c (digs U u)) (h' : SI w1 .u64 A' n' c' (digs U (10 ^ k2))) => mul_10 A A' n c n' c' u (10 ^ k2) w1 h h' (hu2.mono (by omega : _ ≤ 20000)) (q2.mono (by omega)) (by omega))
  have HDM := Lib.hid (fun (A A' : Option Addr) (n c n' c' : Nat) (w1 : World) (h : SI w1 .u64 A n c (digs U (D * 10 ^ k1))) (h' : SI w1 .u64 A' n' c' (digs U (u * 10 ^ k2))) => divmod_d A A' n c n' c' _ _ w1 h h' (a1.mono (by omega : _ ≤ 20000)) (a2.mono (by omega)) (by omega) hU)
  have HUP := Lib.hid (fun w1 => up_calls (mode := mode) hm g (decide (D * 10 ^ k1 / (u * 10 ^ k2) % 2 = 1)) (stand_three (D * 10 ^ k1 % (u * 10 ^ k2) + D * 10 ^ k1 % (u * 10 ^ k2)) (u * 10 ^ k2)) w1)
  rw [hup] at HUP
  generalize D * 10 ^ k1 / (u * 10 ^ k2) = Q at *
  generalize D * 10 ^ k1 % (u * 10 ^ k2) = R at *
  have HAR := Lib.hid (fun (A : Option Addr) (n c : Nat) (w1 : World) (h : SI w1 .u64 A n c (digs U R)) => add_10 A A n c n c R R w1 h h (hRl.mono (by omega : _ ≤ 20000)) (hRl.mono (by omega)) (by omega))
  have HCM := Lib.hid (fun (A A' : Option Addr) (n c n' c' : Nat) (w1 : World) (h : SI w1 .u64 A n c (digs U (R + R))) (h' : SI w1 .u64 A' n' c' (digs U (u * 10 ^ k2))) => cmp_10 A A' n c n' c' (R + R) (u * 10 ^ k2) w1 h h')
  have HAQ := Lib.hid (fun (A A' : Option Addr) (n c n' c' : Nat) (w1 : World) (h : SI w1 .u64 A n c (digs U Q)) (h' : SI w1 .u64 A' n' c' (digs U 1)) => add_10 A A' n c n' c' Q 1 w1 h h' (hQ.mono (by omega : _ ≤ 20000)) (Lo.one.mono (by omega)) (by omega))
  have HM3 := Lib.hid (fun (A A' : Option Addr) (n c n' c' : Nat) (w1 : World) (h : SI w1 .u64 A n c (digs U (Q + b.toNat))) (h' : SI w1 .u64 A' n' c' (digs U u)) => mul_10 A A' n c n' c' (Q + b.toNat) u w1 h h' (hN.mono (by omega : _ ≤ 20000)) (hu2.mono (by omega)) (by omega))
  have HMA := Lib.hid (fun (A : Option Addr) (n c : Nat) (w1 : World) (hp : Pow w1) (h : SI w1 .u64 A n c (digs U ((Q + b.toNat) * u))) => made_calls g A n c ((Q + b.toNat) * u) _ y w1 hp h hNu (by omega) (by omega) (by omega))
  have HRP := Lib.hid (digs_length_pos U_two hR)
  have hodd : decide (Q % 2 = 1) = false := by rw [hQ0]; rfl
  have HQ0 := Lib.hid hQ0
  clear hQ0
  rw [hodd] at HUP
  clear hodd
  clear hR hU a1 a2 q1 q2 hD hQ hN hNu hRl hu hu2 T h hp hF hf hup
  obtain ⟨g', L', x', e4⟩ := oc_four g (told g ((Q + b.toNat) * u) y)
  rw [e4] at HMA ⊢
  generalize oe (told g ((Q + b.toNat) * u) y) = er at *
  generalize digs U ((Q + b.toNat) * u) = dQu at *
  generalize stand (R + R) (u * 10 ^ k2) = st at *
  clear e4
  cases b
  · skip
    go_enter Tryz.func56, Tryz.ntmps56
    go_wp2_with (first
      | (go_at_call 55; (with_reducible refine (HPa.out _).mono ?_); rintro e w1 ⟨A1, n1, c1, rfl, r1, b1⟩; have x1 := HT.out.below b1; have y1 := x1.cells; unfold TC at y1)
      | (go_at_call 69; first
        | ((with_reducible refine (HP1.out w1).mono ?_); rintro e w2 ⟨A2, n2, c2, rfl, r2, b2⟩; have x2 := x1.below b2)
        | ((with_reducible refine (HP2.out w2).mono ?_); rintro e w3 ⟨A3, n3, c3, rfl, r3, b3⟩; have x3 := x2.below b3))
      | (go_at_call 70; first
        | ((with_reducible refine (HM1.out A1 A2 n1 c1 n2 c2 w3 ((r1.below b2).below b3) (r2.below b3)).mono ?_); rintro e w4 ⟨v4, rfl, o4, b4⟩; obtain ⟨A4, n4, c4, rfl, r4⟩ := o4.reads_n; have x4 := x3.below b4)
        | ((with_reducible refine (HM2.out A A3 n c n3 c3 w4 ((((HS.out.below b1).below b2).below b3).below b4) (r3.below b4)).mono ?_); rintro e w5 ⟨v5, rfl, o5, b5⟩; obtain ⟨A5, n5, c5, rfl, r5⟩ := o5.reads_n; have x5 := x4.below b5))
      | (go_at_call 88; (with_reducible refine (HDM.out A4 A5 n4 c4 n5 c5 w5 (r4.below b5) r5).mono ?_); rintro e w6 ⟨v6, v7, rfl, o6, o7, b6⟩; obtain ⟨A6, n6, c6, rfl, r6⟩ := o6.reads_n; obtain ⟨A7, n7, c7, rfl, r7⟩ := o7.reads_n; have h7 : 0 < n7 := (by rw [← r7.len]; exact HRP.out); obtain rfl : n6 = 0 := (by rw [← r6.len, HQ0.out, digs_zero]; rfl); have x6 := x5.below b6))
    have z6 : TA w w6 g S x A n c u A5 n5 c5 (u * 10 ^ k2) A6 0 c6 Q := ⟨x6, ((((((HW.out.below b1).below b2).below b3).below b4).below b5).below b6), ((((((HS.out.below b1).below b2).below b3).below b4).below b5).below b6), r5.below b6, r6⟩
    have z6d := z6.drew
    have z6a := (z6.alloc (.cells #[.bool false, .bool false, .int .i64 0] 124)).drew
    clear y1 HT HPa HP1 HP2 HM1 HM2 HDM HW HS r1 r2 r3 r4 r5 x1 x2 x3 x4 x5 x6 b1 b2 b3 b4 b5 b6 o4 o5 o6 r6
    have hS6 := TA.neg z6d
    refine wp_region_held_drew (S := fun w' => w'.cell? ⟨w.heap.size, 1, none⟩ = some (.bool g)) (by kernel_rfl) hS6 (fun hHeld => ?_)
    clear hHeld
    refine wpAnyH_take (i := 0) (v := ?_) rfl (by kernel_rfl) (by kernel_rfl) (by kernel_rfl) (fun _ _ _ h => h) (Or.inl ⟨by rfl, ?_⟩) hS6 ?_
    rotate_left
    · intro w hSw
      try dsimp only at hSw
      go_simp
      try with_reducible rfl
    try simp only [Act.put, List.setIfInBounds_toArray, List.set_cons_zero, List.set_cons_succ]
    refine wpAnyH_take (i := 1) (v := ?_) rfl (by kernel_rfl) (by kernel_rfl) (by kernel_rfl) (fun _ _ _ h => h) (Or.inl ⟨by rfl, ?_⟩) hS6 ?_
    rotate_left
    · intro w hSw
      try dsimp only at hSw
      go_simp
      try with_reducible rfl
    try simp only [Act.put, List.setIfInBounds_toArray, List.set_cons_zero, List.set_cons_succ]
    refine wpAnyH_take (i := 2) (v := ?_) rfl (by kernel_rfl) (by kernel_rfl) (by kernel_rfl) (fun _ _ _ h => h) (Or.inl ⟨by rfl, ?_⟩) hS6 ?_
    rotate_left
    · intro w hSw
      try dsimp only at hSw
      go_simp
      try with_reducible rfl
    try simp only [Act.put, List.setIfInBounds_toArray, List.set_cons_zero, List.set_cons_succ]
    refine wpAnyH_take (i := 3) (v := ?_) rfl (by kernel_rfl) (by kernel_rfl) (by kernel_rfl) (fun _ _ _ h => h) (Or.inl ⟨by rfl, ?_⟩) hS6 ?_
    rotate_left
    · intro w hSw
      try dsimp only at hSw
      go_simp
      try with_reducible rfl
    try simp only [Act.put, List.setIfInBounds_toArray, List.set_cons_zero, List.set_cons_succ]
    refine wpAnyH_take (i := 4) (v := ?_) rfl (by kernel_rfl) (by kernel_rfl) (by kernel_rfl) (fun _ _ _ h => h) (Or.inl ⟨by rfl, ?_⟩) hS6 ?_
    rotate_left
    · intro w hSw
      try dsimp only at hSw
      go_simp
      try with_reducible rfl
    try simp only [Act.put, List.setIfInBounds_toArray, List.set_cons_zero, List.set_cons_succ]
    refine wpAnyH_take (i := 5) (v := ?_) rfl (by kernel_rfl) (by kernel_rfl) (by kernel_rfl) (fun _ _ _ h => h) (Or.inl ⟨by rfl, ?_⟩) hS6 ?_
    rotate_left
    · intro w hSw
      try dsimp only at hSw
      go_simp
      try with_reducible rfl
    try simp only [Act.put, List.setIfInBounds_toArray, List.set_cons_zero, List.set_cons_succ]
    refine wpAnyH_take (i := 6) (v := undef) rfl (by kernel_rfl) (by kernel_rfl) (by kernel_rfl) (fun _ _ _ h => h) (Or.inr ⟨by kernel_rfl, rfl⟩) hS6 ?_
    try simp only [Act.put, List.setIfInBounds_toArray, List.set_cons_zero, List.set_cons_succ]
    refine wpAnyH_take (i := 7) (v := undef) rfl (by kernel_rfl) (by kernel_rfl) (by kernel_rfl) (fun _ _ _ h => h) (Or.inr ⟨by kernel_rfl, rfl⟩) hS6 ?_
    try simp only [Act.put, List.setIfInBounds_toArray, List.set_cons_zero, List.set_cons_succ]
    refine wpAnyH_take (i := 8) (v := undef) rfl (by kernel_rfl) (by kernel_rfl) (by kernel_rfl) (fun _ _ _ h => h) (Or.inr ⟨by kernel_rfl, rfl⟩) hS6 ?_
    try simp only [Act.put, List.setIfInBounds_toArray, List.set_cons_zero, List.set_cons_succ]
    refine wpAnyH_take (i := 9) (v := undef) rfl (by kernel_rfl) (by kernel_rfl) (by kernel_rfl) (fun _ _ _ h => h) (Or.inr ⟨by kernel_rfl, rfl⟩) hS6 ?_
    try simp only [Act.put, List.setIfInBounds_toArray, List.set_cons_zero, List.set_cons_succ]
    refine wpAnyH_take (i := 10) (v := undef) rfl (by kernel_rfl) (by kernel_rfl) (by kernel_rfl) (fun _ _ _ h => h) (Or.inr ⟨by kernel_rfl, rfl⟩) hS6 ?_
    try simp only [Act.put, List.setIfInBounds_toArray, List.set_cons_zero, List.set_cons_succ]
    refine wpAnyH_take (i := 11) (v := ?_) rfl (by kernel_rfl) (by kernel_rfl) (by kernel_rfl) (fun _ _ _ h => h) (Or.inl ⟨by rfl, ?_⟩) hS6 ?_
    rotate_left
    · intro w hSw
      try dsimp only at hSw
      go_simp
      try with_reducible rfl
    try simp only [Act.put, List.setIfInBounds_toArray, List.set_cons_zero, List.set_cons_succ]
    refine wpAnyH_take (i := 12) (v := ?_) rfl (by kernel_rfl) (by kernel_rfl) (by kernel_rfl) (fun _ _ _ h => h) (Or.inl ⟨by rfl, ?_⟩) hS6 ?_
    rotate_left
    · intro w hSw
      try dsimp only at hSw
      go_simp
      try with_reducible rfl
    try simp only [Act.put, List.setIfInBounds_toArray, List.set_cons_zero, List.set_cons_succ]
    refine wpAnyH_take (i := 13) (v := ?_) rfl (by kernel_rfl) (by kernel_rfl) (by kernel_rfl) (fun _ _ _ h => h) (Or.inl ⟨by rfl, ?_⟩) hS6 ?_
    rotate_left
    · intro w hSw
      try dsimp only at hSw
      go_simp
      try with_reducible rfl
    try simp only [Act.put, List.setIfInBounds_toArray, List.set_cons_zero, List.set_cons_succ]
    refine wpAnyH_take (i := 15) (v := ?_) rfl (by kernel_rfl) (by kernel_rfl) (by kernel_rfl) (fun _ _ _ h => h) (Or.inl ⟨by rfl, ?_⟩) hS6 ?_
    rotate_left
    · intro w hSw
      try dsimp only at hSw
      go_simp
      try with_reducible rfl
    try simp only [Act.put, List.setIfInBounds_toArray, List.set_cons_zero, List.set_cons_succ]
    refine wpAnyH_ready (rs := [14, 18]) (by kernel_rfl) (by simp) ?_
    refine AllReadyH.cons rfl (fun K hK => ?_) (AllReadyH.cons rfl (fun K hK => ?_) AllReadyH.nil)
    · go_simp
      go_at_call 86; (with_reducible refine (HAR.out A7 n7 c7 _ (r7.below (Below.refl _ _).drew)).mono ?_); rintro e w7 ⟨v8, rfl, o8, b7⟩; obtain ⟨A8, n8, c8, rfl, r8⟩ := o8.reads_n
      have z7 := z6d.below b7
      have z7a := z7.alloc (.cells #[.bool false, .bool false, .int .i64 0] 124)
      refine hK.out _ _ (TA.neg z7) (fun hHeld => ?_)
      clear hHeld hK K
      try simp only [Act.put, List.setIfInBounds_toArray, List.set_cons_zero, List.set_cons_succ]
      refine wpAnyH_ready (rs := [16, 18]) (by kernel_rfl) (by simp) ?_
      refine AllReadyH.cons rfl (fun K hK => ?_) (AllReadyH.cons rfl (fun K hK => ?_) AllReadyH.nil)
      · go_simp
        go_at_call 89; (with_reducible refine (HCM.out A8 A5 n8 c8 n5 c5 _ r8 z7.s5).mono ?_); rintro e w8 ⟨rfl, d8⟩
        have z8 := z7.below (Drawn.below d8)
        have z8a := z8.alloc (.cells #[.bool false, .bool false, .int .i64 0] 124)
        refine hK.out _ _ (TA.neg z8) (fun hHeld => ?_)
        clear hHeld hK K
        try simp only [Act.put, List.setIfInBounds_toArray, List.set_cons_zero, List.set_cons_succ]
        refine wpAnyH_take (i := 17) (v := ?_) rfl (by kernel_rfl) (by kernel_rfl) (by kernel_rfl) (fun _ _ _ h => h) (Or.inl ⟨by rfl, ?_⟩) (TA.neg z8) ?_
        rotate_left
        · intro w hSw
          try dsimp only at hSw
          go_simp
          try with_reducible rfl
        try simp only [Act.put, List.setIfInBounds_toArray, List.set_cons_zero, List.set_cons_succ]
        refine wpAnyH_ready (rs := [18]) (by kernel_rfl) (by simp) ?_
        refine AllReadyH.cons rfl (fun K hK => ?_) AllReadyH.nil
        go_simp
        refine hK.out _ _ (TA.neg z8a) (fun hHeld => ?_)
        clear hHeld hK K
        try simp only [Act.put, List.setIfInBounds_toArray, List.set_cons_zero, List.set_cons_succ]
        have z8s := z8.alloc (.cells #[.bool g, .bool false, .int .i64 st] 124)
        have B9 := Bk.start w8 124 #[.bool g, .bool false, .int .i64 st]
        refine wpAnyH_ready (rs := [19]) (by kernel_rfl) (by simp) ?_
        refine AllReadyH.cons rfl (fun K hK => ?_) AllReadyH.nil
        go_simp
        refine hK.out _ _ (TA.neg z8s) (fun hHeld => ?_)
        clear hHeld hK K
        try simp only [Act.put, List.setIfInBounds_toArray, List.set_cons_zero, List.set_cons_succ]
        refine wpAnyH_done (by kernel_rfl) ?_ _
        have C9 := three (Bk.cast (cs' := #[.bool g, .bool false, .int .i64 st]) B9 rfl)
        clear B9
        try clear key_more
        try clear z8a z8f B8 q9 c8
        try clear z7 z7a z6d z6a z8
        go_wp2_with (first
          | (go_at_call 90; (with_reducible refine (HUP.out _).mono ?_); rintro e w9 ⟨rfl, b9⟩; have z9 := z8s.below b9)
          )
        have zf := z9.drew
        have kf := zf.neg
        have rN : SI w9.drew .u64 _ 0 c6 (digs U (Q + false.toNat)) := zf.s6
        clear C9
        go_region_held3 (fun w' => w'.cell? ⟨w.heap.size, 1, none⟩ = some (.bool g))
          (first
            | (with_reducible exact kf)
            | (with_reducible exact k12)
            | (with_reducible exact k13)
            | (with_reducible exact f13))
          (first
            | (go_at_call 70; (with_reducible refine (HM3.out _ A 0 c6 n c _ rN zf.su).mono ?_); rintro e w12 ⟨v12, rfl, o12, b12⟩; obtain ⟨A12, n12, c12, rfl, r12⟩ := o12.reads_n; have z12 := zf.below b12; have k12 := z12.neg)
            | (go_at_call 91; (with_reducible refine (HMA.out A12 n12 c12 w12 z12.p r12).mono ?_); rintro e w13 ⟨rfl, b13⟩; have z13 := z12.t.below b13; have k13 := z13.neg; have f13 := z13.far (.int .i64 0) (.bool g') (.string L') (.int .i64 x'); have q13 := z13.res))
        go_wp2
        obtain ⟨y1, y2⟩ := z13.ret (.int .i64 0) (.bool g') (.string L') (.int .i64 x')
        exact bodyPost_ret (res_bk_t rfl _ y1 rfl Tryz.underlying23 rfl (by kernel_rfl)) rfl ⟨rfl, y2⟩
      · go_simp
        refine hK.out _ _ (TA.neg z7a) (fun hHeld => ?_)
        clear hHeld hK K
        try simp only [Act.put, List.setIfInBounds_toArray, List.set_cons_zero, List.set_cons_succ]
        refine wpAnyH_ready (rs := [16]) (by kernel_rfl) (by simp) ?_
        refine AllReadyH.cons rfl (fun K hK => ?_) AllReadyH.nil
        go_simp
        go_at_call 89; (with_reducible refine (HCM.out A8 A5 n8 c8 n5 c5 _ (r8.alloc (.cells #[.bool false, .bool false, .int .i64 0] 124)) z7a.s5).mono ?_); rintro e w8 ⟨rfl, d8⟩
        have z8 := z7a.below (Drawn.below d8)
        refine hK.out _ _ (TA.neg z8) (fun hHeld => ?_)
        clear hHeld hK K
        try simp only [Act.put, List.setIfInBounds_toArray, List.set_cons_zero, List.set_cons_succ]
        refine wpAnyH_take (i := 17) (v := ?_) rfl (by kernel_rfl) (by kernel_rfl) (by kernel_rfl) (fun _ _ _ h => h) (Or.inl ⟨by rfl, ?_⟩) (TA.neg z8) ?_
        rotate_left
        · intro w hSw
          try dsimp only at hSw
          go_simp
          try with_reducible rfl
        try simp only [Act.put, List.setIfInBounds_toArray, List.set_cons_zero, List.set_cons_succ]
        have c8 := on (alloc_below w7 (.cells #[.bool false, .bool false, .int .i64 0] 124)) (Drawn.below d8)
        have B8 : Bk w8 w7.heap.size 124 #[.bool false, .bool false, .int .i64 0] := (Bk.start w7 124 #[.bool false, .bool false, .int .i64 0]).below (Drawn.below d8)
        have z8s : TA w (((w8.setCell ⟨w7.heap.size, 0, none⟩ (.bool g)).setCell ⟨w7.heap.size, 1, none⟩ (.bool false)).setCell ⟨w7.heap.size, 2, none⟩ (.int .i64 st)) g S x A n c u A5 n5 c5 (u * 10 ^ k2) A6 0 c6 Q := z7.below (((c8.setCell (Nat.le_refl _) (.bool g)).setCell (Nat.le_refl _) (.bool false)).setCell (Nat.le_refl _) (.int .i64 st))
        have B9 := ((B8.set 0 (.bool g)).set 1 (.bool false)).set 2 (.int .i64 st)
        have q9 := And.intro (B8.at_ 0 rfl) (And.intro (B8.at_ 1 rfl) (And.intro (B8.at_ 2 rfl) (And.intro (B8.fr 0) (And.intro (B8.fr 1) (B8.fr 2)))))
        refine wpAnyH_ready (rs := [19]) (by kernel_rfl) (by simp) ?_
        refine AllReadyH.cons rfl (fun K hK => ?_) AllReadyH.nil
        go_simp
        refine hK.out _ _ (TA.neg z8s) (fun hHeld => ?_)
        clear hHeld hK K
        try simp only [Act.put, List.setIfInBounds_toArray, List.set_cons_zero, List.set_cons_succ]
        refine wpAnyH_done (by kernel_rfl) ?_ _
        have C9 := three (Bk.cast (cs' := #[.bool g, .bool false, .int .i64 st]) B9 rfl)
        clear B9
        try clear key_more
        try clear z8a z8f B8 q9 c8
        try clear z7 z7a z6d z6a z8
        go_wp2_with (first
          | (go_at_call 90; (with_reducible refine (HUP.out _).mono ?_); rintro e w9 ⟨rfl, b9⟩; have z9 := z8s.below b9)
          )
        have zf := z9.drew
        have kf := zf.neg
        have rN : SI w9.drew .u64 _ 0 c6 (digs U (Q + false.toNat)) := zf.s6
        clear C9
        go_region_held3 (fun w' => w'.cell? ⟨w.heap.size, 1, none⟩ = some (.bool g))
          (first
            | (with_reducible exact kf)
            | (with_reducible exact k12)
            | (with_reducible exact k13)
            | (with_reducible exact f13))
          (first
            | (go_at_call 70; (with_reducible refine (HM3.out _ A 0 c6 n c _ rN zf.su).mono ?_); rintro e w12 ⟨v12, rfl, o12, b12⟩; obtain ⟨A12, n12, c12, rfl, r12⟩ := o12.reads_n; have z12 := zf.below b12; have k12 := z12.neg)
            | (go_at_call 91; (with_reducible refine (HMA.out A12 n12 c12 w12 z12.p r12).mono ?_); rintro e w13 ⟨rfl, b13⟩; have z13 := z12.t.below b13; have k13 := z13.neg; have f13 := z13.far (.int .i64 0) (.bool g') (.string L') (.int .i64 x'); have q13 := z13.res))
        go_wp2
        obtain ⟨y1, y2⟩ := z13.ret (.int .i64 0) (.bool g') (.string L') (.int .i64 x')
        exact bodyPost_ret (res_bk_t rfl _ y1 rfl Tryz.underlying23 rfl (by kernel_rfl)) rfl ⟨rfl, y2⟩
    · go_simp
      refine hK.out _ _ (TA.neg z6a) (fun hHeld => ?_)
      clear hHeld hK K
      try simp only [Act.put, List.setIfInBounds_toArray, List.set_cons_zero, List.set_cons_succ]
      refine wpAnyH_ready (rs := [14]) (by kernel_rfl) (by simp) ?_
      refine AllReadyH.cons rfl (fun K hK => ?_) AllReadyH.nil
      go_simp
      go_at_call 86; (with_reducible refine (HAR.out A7 n7 c7 _ ((r7.alloc (.cells #[.bool false, .bool false, .int .i64 0] 124)).below (Below.refl _ _).drew)).mono ?_); rintro e w7 ⟨v8, rfl, o8, b7⟩; obtain ⟨A8, n8, c8, rfl, r8⟩ := o8.reads_n
      have z7 := z6a.below b7
      have B7 := (Bk.start w6 124 #[.bool false, .bool false, .int .i64 0]).drew.below b7
      have c7 := on ((alloc_below w6 _).drew) b7
      refine hK.out _ _ (TA.neg z7) (fun hHeld => ?_)
      clear hHeld hK K
      try simp only [Act.put, List.setIfInBounds_toArray, List.set_cons_zero, List.set_cons_succ]
      refine wpAnyH_ready (rs := [16]) (by kernel_rfl) (by simp) ?_
      refine AllReadyH.cons rfl (fun K hK => ?_) AllReadyH.nil
      go_simp
      go_at_call 89; (with_reducible refine (HCM.out A8 A5 n8 c8 n5 c5 _ r8 z7.s5).mono ?_); rintro e w8 ⟨rfl, d8⟩
      have z8 := z7.below (Drawn.below d8)
      refine hK.out _ _ (TA.neg z8) (fun hHeld => ?_)
      clear hHeld hK K
      try simp only [Act.put, List.setIfInBounds_toArray, List.set_cons_zero, List.set_cons_succ]
      refine wpAnyH_take (i := 17) (v := ?_) rfl (by kernel_rfl) (by kernel_rfl) (by kernel_rfl) (fun _ _ _ h => h) (Or.inl ⟨by rfl, ?_⟩) (TA.neg z8) ?_
      rotate_left
      · intro w hSw
        try dsimp only at hSw
        go_simp
        try with_reducible rfl
      try simp only [Act.put, List.setIfInBounds_toArray, List.set_cons_zero, List.set_cons_succ]
      have c8 := on c7 (Drawn.below d8)
      have B8 : Bk w8 w6.heap.size 124 #[.bool false, .bool false, .int .i64 0] := B7.below (Drawn.below d8)
      have z8s : TA w (((w8.setCell ⟨w6.heap.size, 0, none⟩ (.bool g)).setCell ⟨w6.heap.size, 1, none⟩ (.bool false)).setCell ⟨w6.heap.size, 2, none⟩ (.int .i64 st)) g S x A n c u A5 n5 c5 (u * 10 ^ k2) A6 0 c6 Q := z6.below (((c8.setCell (Nat.le_refl _) (.bool g)).setCell (Nat.le_refl _) (.bool false)).setCell (Nat.le_refl _) (.int .i64 st))
      have B9 := ((B8.set 0 (.bool g)).set 1 (.bool false)).set 2 (.int .i64 st)
      have q9 := And.intro (B8.at_ 0 rfl) (And.intro (B8.at_ 1 rfl) (And.intro (B8.at_ 2 rfl) (And.intro (B8.fr 0) (And.intro (B8.fr 1) (B8.fr 2)))))
      refine wpAnyH_ready (rs := [19]) (by kernel_rfl) (by simp) ?_
      refine AllReadyH.cons rfl (fun K hK => ?_) AllReadyH.nil
      go_simp
      refine hK.out _ _ (TA.neg z8s) (fun hHeld => ?_)
      clear hHeld hK K
      try simp only [Act.put, List.setIfInBounds_toArray, List.set_cons_zero, List.set_cons_succ]
      refine wpAnyH_done (by kernel_rfl) ?_ _
      have C9 := three (Bk.cast (cs' := #[.bool g, .bool false, .int .i64 st]) B9 rfl)
      clear B9
      try clear key_more
      try clear z8a z8f B8 q9 c8
      try clear z7 z7a z6d z6a z8
      go_wp2_with (first
        | (go_at_call 90; (with_reducible refine (HUP.out _).mono ?_); rintro e w9 ⟨rfl, b9⟩; have z9 := z8s.below b9)
        )
      have zf := z9.drew
      have kf := zf.neg
      have rN : SI w9.drew .u64 _ 0 c6 (digs U (Q + false.toNat)) := zf.s6
      clear C9
      go_region_held3 (fun w' => w'.cell? ⟨w.heap.size, 1, none⟩ = some (.bool g))
        (first
          | (with_reducible exact kf)
          | (with_reducible exact k12)
          | (with_reducible exact k13)
          | (with_reducible exact f13))
        (first
          | (go_at_call 70; (with_reducible refine (HM3.out _ A 0 c6 n c _ rN zf.su).mono ?_); rintro e w12 ⟨v12, rfl, o12, b12⟩; obtain ⟨A12, n12, c12, rfl, r12⟩ := o12.reads_n; have z12 := zf.below b12; have k12 := z12.neg)
          | (go_at_call 91; (with_reducible refine (HMA.out A12 n12 c12 w12 z12.p r12).mono ?_); rintro e w13 ⟨rfl, b13⟩; have z13 := z12.t.below b13; have k13 := z13.neg; have f13 := z13.far (.int .i64 0) (.bool g') (.string L') (.int .i64 x'); have q13 := z13.res))
      go_wp2
      obtain ⟨y1, y2⟩ := z13.ret (.int .i64 0) (.bool g') (.string L') (.int .i64 x')
      exact bodyPost_ret (res_bk_t rfl _ y1 rfl Tryz.underlying23 rfl (by kernel_rfl)) rfl ⟨rfl, y2⟩
  · skip
    go_enter Tryz.func56, Tryz.ntmps56
    go_wp2_with (first
      | (go_at_call 55; (with_reducible refine (HPa.out _).mono ?_); rintro e w1 ⟨A1, n1, c1, rfl, r1, b1⟩; have x1 := HT.out.below b1; have y1 := x1.cells; unfold TC at y1)
      | (go_at_call 69; first
        | ((with_reducible refine (HP1.out w1).mono ?_); rintro e w2 ⟨A2, n2, c2, rfl, r2, b2⟩; have x2 := x1.below b2)
        | ((with_reducible refine (HP2.out w2).mono ?_); rintro e w3 ⟨A3, n3, c3, rfl, r3, b3⟩; have x3 := x2.below b3))
      | (go_at_call 70; first
        | ((with_reducible refine (HM1.out A1 A2 n1 c1 n2 c2 w3 ((r1.below b2).below b3) (r2.below b3)).mono ?_); rintro e w4 ⟨v4, rfl, o4, b4⟩; obtain ⟨A4, n4, c4, rfl, r4⟩ := o4.reads_n; have x4 := x3.below b4)
        | ((with_reducible refine (HM2.out A A3 n c n3 c3 w4 ((((HS.out.below b1).below b2).below b3).below b4) (r3.below b4)).mono ?_); rintro e w5 ⟨v5, rfl, o5, b5⟩; obtain ⟨A5, n5, c5, rfl, r5⟩ := o5.reads_n; have x5 := x4.below b5))
      | (go_at_call 88; (with_reducible refine (HDM.out A4 A5 n4 c4 n5 c5 w5 (r4.below b5) r5).mono ?_); rintro e w6 ⟨v6, v7, rfl, o6, o7, b6⟩; obtain ⟨A6, n6, c6, rfl, r6⟩ := o6.reads_n; obtain ⟨A7, n7, c7, rfl, r7⟩ := o7.reads_n; have h7 : 0 < n7 := (by rw [← r7.len]; exact HRP.out); obtain rfl : n6 = 0 := (by rw [← r6.len, HQ0.out, digs_zero]; rfl); have x6 := x5.below b6))
    have z6 : TA w w6 g S x A n c u A5 n5 c5 (u * 10 ^ k2) A6 0 c6 Q := ⟨x6, ((((((HW.out.below b1).below b2).below b3).below b4).below b5).below b6), ((((((HS.out.below b1).below b2).below b3).below b4).below b5).below b6), r5.below b6, r6⟩
    have z6d := z6.drew
    have z6a := (z6.alloc (.cells #[.bool false, .bool false, .int .i64 0] 124)).drew
    clear y1 HT HPa HP1 HP2 HM1 HM2 HDM HW HS r1 r2 r3 r4 r5 x1 x2 x3 x4 x5 x6 b1 b2 b3 b4 b5 b6 o4 o5 o6 r6
    have hS6 := TA.neg z6d
    refine wp_region_held_drew (S := fun w' => w'.cell? ⟨w.heap.size, 1, none⟩ = some (.bool g)) (by kernel_rfl) hS6 (fun hHeld => ?_)
    clear hHeld
    refine wpAnyH_take (i := 0) (v := ?_) rfl (by kernel_rfl) (by kernel_rfl) (by kernel_rfl) (fun _ _ _ h => h) (Or.inl ⟨by rfl, ?_⟩) hS6 ?_
    rotate_left
    · intro w hSw
      try dsimp only at hSw
      go_simp
      try with_reducible rfl
    try simp only [Act.put, List.setIfInBounds_toArray, List.set_cons_zero, List.set_cons_succ]
    refine wpAnyH_take (i := 1) (v := ?_) rfl (by kernel_rfl) (by kernel_rfl) (by kernel_rfl) (fun _ _ _ h => h) (Or.inl ⟨by rfl, ?_⟩) hS6 ?_
    rotate_left
    · intro w hSw
      try dsimp only at hSw
      go_simp
      try with_reducible rfl
    try simp only [Act.put, List.setIfInBounds_toArray, List.set_cons_zero, List.set_cons_succ]
    refine wpAnyH_take (i := 2) (v := ?_) rfl (by kernel_rfl) (by kernel_rfl) (by kernel_rfl) (fun _ _ _ h => h) (Or.inl ⟨by rfl, ?_⟩) hS6 ?_
    rotate_left
    · intro w hSw
      try dsimp only at hSw
      go_simp
      try with_reducible rfl
    try simp only [Act.put, List.setIfInBounds_toArray, List.set_cons_zero, List.set_cons_succ]
    refine wpAnyH_take (i := 3) (v := ?_) rfl (by kernel_rfl) (by kernel_rfl) (by kernel_rfl) (fun _ _ _ h => h) (Or.inl ⟨by rfl, ?_⟩) hS6 ?_
    rotate_left
    · intro w hSw
      try dsimp only at hSw
      go_simp
      try with_reducible rfl
    try simp only [Act.put, List.setIfInBounds_toArray, List.set_cons_zero, List.set_cons_succ]
    refine wpAnyH_take (i := 4) (v := ?_) rfl (by kernel_rfl) (by kernel_rfl) (by kernel_rfl) (fun _ _ _ h => h) (Or.inl ⟨by rfl, ?_⟩) hS6 ?_
    rotate_left
    · intro w hSw
      try dsimp only at hSw
      go_simp
      try with_reducible rfl
    try simp only [Act.put, List.setIfInBounds_toArray, List.set_cons_zero, List.set_cons_succ]
    refine wpAnyH_take (i := 5) (v := ?_) rfl (by kernel_rfl) (by kernel_rfl) (by kernel_rfl) (fun _ _ _ h => h) (Or.inl ⟨by rfl, ?_⟩) hS6 ?_
    rotate_left
    · intro w hSw
      try dsimp only at hSw
      go_simp
      try with_reducible rfl
    try simp only [Act.put, List.setIfInBounds_toArray, List.set_cons_zero, List.set_cons_succ]
    refine wpAnyH_take (i := 6) (v := undef) rfl (by kernel_rfl) (by kernel_rfl) (by kernel_rfl) (fun _ _ _ h => h) (Or.inr ⟨by kernel_rfl, rfl⟩) hS6 ?_
    try simp only [Act.put, List.setIfInBounds_toArray, List.set_cons_zero, List.set_cons_succ]
    refine wpAnyH_take (i := 7) (v := undef) rfl (by kernel_rfl) (by kernel_rfl) (by kernel_rfl) (fun _ _ _ h => h) (Or.inr ⟨by kernel_rfl, rfl⟩) hS6 ?_
    try simp only [Act.put, List.setIfInBounds_toArray, List.set_cons_zero, List.set_cons_succ]
    refine wpAnyH_take (i := 8) (v := undef) rfl (by kernel_rfl) (by kernel_rfl) (by kernel_rfl) (fun _ _ _ h => h) (Or.inr ⟨by kernel_rfl, rfl⟩) hS6 ?_
    try simp only [Act.put, List.setIfInBounds_toArray, List.set_cons_zero, List.set_cons_succ]
    refine wpAnyH_take (i := 9) (v := undef) rfl (by kernel_rfl) (by kernel_rfl) (by kernel_rfl) (fun _ _ _ h => h) (Or.inr ⟨by kernel_rfl, rfl⟩) hS6 ?_
    try simp only [Act.put, List.setIfInBounds_toArray, List.set_cons_zero, List.set_cons_succ]
    refine wpAnyH_take (i := 10) (v := undef) rfl (by kernel_rfl) (by kernel_rfl) (by kernel_rfl) (fun _ _ _ h => h) (Or.inr ⟨by kernel_rfl, rfl⟩) hS6 ?_
    try simp only [Act.put, List.setIfInBounds_toArray, List.set_cons_zero, List.set_cons_succ]
    refine wpAnyH_take (i := 11) (v := ?_) rfl (by kernel_rfl) (by kernel_rfl) (by kernel_rfl) (fun _ _ _ h => h) (Or.inl ⟨by rfl, ?_⟩) hS6 ?_
    rotate_left
    · intro w hSw
      try dsimp only at hSw
      go_simp
      try with_reducible rfl
    try simp only [Act.put, List.setIfInBounds_toArray, List.set_cons_zero, List.set_cons_succ]
    refine wpAnyH_take (i := 12) (v := ?_) rfl (by kernel_rfl) (by kernel_rfl) (by kernel_rfl) (fun _ _ _ h => h) (Or.inl ⟨by rfl, ?_⟩) hS6 ?_
    rotate_left
    · intro w hSw
      try dsimp only at hSw
      go_simp
      try with_reducible rfl
    try simp only [Act.put, List.setIfInBounds_toArray, List.set_cons_zero, List.set_cons_succ]
    refine wpAnyH_take (i := 13) (v := ?_) rfl (by kernel_rfl) (by kernel_rfl) (by kernel_rfl) (fun _ _ _ h => h) (Or.inl ⟨by rfl, ?_⟩) hS6 ?_
    rotate_left
    · intro w hSw
      try dsimp only at hSw
      go_simp
      try with_reducible rfl
    try simp only [Act.put, List.setIfInBounds_toArray, List.set_cons_zero, List.set_cons_succ]
    refine wpAnyH_take (i := 15) (v := ?_) rfl (by kernel_rfl) (by kernel_rfl) (by kernel_rfl) (fun _ _ _ h => h) (Or.inl ⟨by rfl, ?_⟩) hS6 ?_
    rotate_left
    · intro w hSw
      try dsimp only at hSw
      go_simp
      try with_reducible rfl
    try simp only [Act.put, List.setIfInBounds_toArray, List.set_cons_zero, List.set_cons_succ]
    refine wpAnyH_ready (rs := [14, 18]) (by kernel_rfl) (by simp) ?_
    refine AllReadyH.cons rfl (fun K hK => ?_) (AllReadyH.cons rfl (fun K hK => ?_) AllReadyH.nil)
    · go_simp
      go_at_call 86; (with_reducible refine (HAR.out A7 n7 c7 _ (r7.below (Below.refl _ _).drew)).mono ?_); rintro e w7 ⟨v8, rfl, o8, b7⟩; obtain ⟨A8, n8, c8, rfl, r8⟩ := o8.reads_n
      have z7 := z6d.below b7
      have z7a := z7.alloc (.cells #[.bool false, .bool false, .int .i64 0] 124)
      refine hK.out _ _ (TA.neg z7) (fun hHeld => ?_)
      clear hHeld hK K
      try simp only [Act.put, List.setIfInBounds_toArray, List.set_cons_zero, List.set_cons_succ]
      refine wpAnyH_ready (rs := [16, 18]) (by kernel_rfl) (by simp) ?_
      refine AllReadyH.cons rfl (fun K hK => ?_) (AllReadyH.cons rfl (fun K hK => ?_) AllReadyH.nil)
      · go_simp
        go_at_call 89; (with_reducible refine (HCM.out A8 A5 n8 c8 n5 c5 _ r8 z7.s5).mono ?_); rintro e w8 ⟨rfl, d8⟩
        have z8 := z7.below (Drawn.below d8)
        have z8a := z8.alloc (.cells #[.bool false, .bool false, .int .i64 0] 124)
        refine hK.out _ _ (TA.neg z8) (fun hHeld => ?_)
        clear hHeld hK K
        try simp only [Act.put, List.setIfInBounds_toArray, List.set_cons_zero, List.set_cons_succ]
        refine wpAnyH_take (i := 17) (v := ?_) rfl (by kernel_rfl) (by kernel_rfl) (by kernel_rfl) (fun _ _ _ h => h) (Or.inl ⟨by rfl, ?_⟩) (TA.neg z8) ?_
        rotate_left
        · intro w hSw
          try dsimp only at hSw
          go_simp
          try with_reducible rfl
        try simp only [Act.put, List.setIfInBounds_toArray, List.set_cons_zero, List.set_cons_succ]
        refine wpAnyH_ready (rs := [18]) (by kernel_rfl) (by simp) ?_
        refine AllReadyH.cons rfl (fun K hK => ?_) AllReadyH.nil
        go_simp
        refine hK.out _ _ (TA.neg z8a) (fun hHeld => ?_)
        clear hHeld hK K
        try simp only [Act.put, List.setIfInBounds_toArray, List.set_cons_zero, List.set_cons_succ]
        have z8s := z8.alloc (.cells #[.bool g, .bool false, .int .i64 st] 124)
        have B9 := Bk.start w8 124 #[.bool g, .bool false, .int .i64 st]
        refine wpAnyH_ready (rs := [19]) (by kernel_rfl) (by simp) ?_
        refine AllReadyH.cons rfl (fun K hK => ?_) AllReadyH.nil
        go_simp
        refine hK.out _ _ (TA.neg z8s) (fun hHeld => ?_)
        clear hHeld hK K
        try simp only [Act.put, List.setIfInBounds_toArray, List.set_cons_zero, List.set_cons_succ]
        refine wpAnyH_done (by kernel_rfl) ?_ _
        have C9 := three (Bk.cast (cs' := #[.bool g, .bool false, .int .i64 st]) B9 rfl)
        clear B9
        try clear key_more
        try clear z8a z8f B8 q9 c8
        try clear z7 z7a z6d z6a z8
        go_wp2_with (first
          | (go_at_call 90; (with_reducible refine (HUP.out _).mono ?_); rintro e w9 ⟨rfl, b9⟩; have z9 := z8s.below b9)
          | (go_at_call 71; (with_reducible refine (of_lit1 w9).mono ?_); rintro e w10 ⟨v10, rfl, o10, b10⟩; obtain ⟨A10, n10, c10, rfl, r10⟩ := o10.reads_n; have z10 := z9.below b10)
          | (go_at_call 86; (with_reducible refine (HAQ.out _ A10 0 c6 n10 c10 w10 z10.s6 r10).mono ?_); rintro e w11 ⟨v11, rfl, o11, b11⟩; obtain ⟨A11, n11, c11, rfl, r11⟩ := o11.reads_n; have z11 := z10.below b11)
          )
        have zf := z11.drew
        have kf := zf.neg
        have rN : SI w11.drew .u64 A11 n11 c11 (digs U (Q + true.toNat)) := r11.below (Below.refl _ _).drew
        clear C9
        go_region_held3 (fun w' => w'.cell? ⟨w.heap.size, 1, none⟩ = some (.bool g))
          (first
            | (with_reducible exact kf)
            | (with_reducible exact k12)
            | (with_reducible exact k13)
            | (with_reducible exact f13))
          (first
            | (go_at_call 70; (with_reducible refine (HM3.out A11 A n11 c11 n c _ rN zf.su).mono ?_); rintro e w12 ⟨v12, rfl, o12, b12⟩; obtain ⟨A12, n12, c12, rfl, r12⟩ := o12.reads_n; have z12 := zf.below b12; have k12 := z12.neg)
            | (go_at_call 91; (with_reducible refine (HMA.out A12 n12 c12 w12 z12.p r12).mono ?_); rintro e w13 ⟨rfl, b13⟩; have z13 := z12.t.below b13; have k13 := z13.neg; have f13 := z13.far (.int .i64 0) (.bool g') (.string L') (.int .i64 x'); have q13 := z13.res))
        go_wp2
        obtain ⟨y1, y2⟩ := z13.ret (.int .i64 0) (.bool g') (.string L') (.int .i64 x')
        exact bodyPost_ret (res_bk_t rfl _ y1 rfl Tryz.underlying23 rfl (by kernel_rfl)) rfl ⟨rfl, y2⟩
      · go_simp
        refine hK.out _ _ (TA.neg z7a) (fun hHeld => ?_)
        clear hHeld hK K
        try simp only [Act.put, List.setIfInBounds_toArray, List.set_cons_zero, List.set_cons_succ]
        refine wpAnyH_ready (rs := [16]) (by kernel_rfl) (by simp) ?_
        refine AllReadyH.cons rfl (fun K hK => ?_) AllReadyH.nil
        go_simp
        go_at_call 89; (with_reducible refine (HCM.out A8 A5 n8 c8 n5 c5 _ (r8.alloc (.cells #[.bool false, .bool false, .int .i64 0] 124)) z7a.s5).mono ?_); rintro e w8 ⟨rfl, d8⟩
        have z8 := z7a.below (Drawn.below d8)
        refine hK.out _ _ (TA.neg z8) (fun hHeld => ?_)
        clear hHeld hK K
        try simp only [Act.put, List.setIfInBounds_toArray, List.set_cons_zero, List.set_cons_succ]
        refine wpAnyH_take (i := 17) (v := ?_) rfl (by kernel_rfl) (by kernel_rfl) (by kernel_rfl) (fun _ _ _ h => h) (Or.inl ⟨by rfl, ?_⟩) (TA.neg z8) ?_
        rotate_left
        · intro w hSw
          try dsimp only at hSw
          go_simp
          try with_reducible rfl
        try simp only [Act.put, List.setIfInBounds_toArray, List.set_cons_zero, List.set_cons_succ]
        have c8 := on (alloc_below w7 (.cells #[.bool false, .bool false, .int .i64 0] 124)) (Drawn.below d8)
        have B8 : Bk w8 w7.heap.size 124 #[.bool false, .bool false, .int .i64 0] := (Bk.start w7 124 #[.bool false, .bool false, .int .i64 0]).below (Drawn.below d8)
        have z8s : TA w (((w8.setCell ⟨w7.heap.size, 0, none⟩ (.bool g)).setCell ⟨w7.heap.size, 1, none⟩ (.bool false)).setCell ⟨w7.heap.size, 2, none⟩ (.int .i64 st)) g S x A n c u A5 n5 c5 (u * 10 ^ k2) A6 0 c6 Q := z7.below (((c8.setCell (Nat.le_refl _) (.bool g)).setCell (Nat.le_refl _) (.bool false)).setCell (Nat.le_refl _) (.int .i64 st))
        have B9 := ((B8.set 0 (.bool g)).set 1 (.bool false)).set 2 (.int .i64 st)
        have q9 := And.intro (B8.at_ 0 rfl) (And.intro (B8.at_ 1 rfl) (And.intro (B8.at_ 2 rfl) (And.intro (B8.fr 0) (And.intro (B8.fr 1) (B8.fr 2)))))
        refine wpAnyH_ready (rs := [19]) (by kernel_rfl) (by simp) ?_
        refine AllReadyH.cons rfl (fun K hK => ?_) AllReadyH.nil
        go_simp
        refine hK.out _ _ (TA.neg z8s) (fun hHeld => ?_)
        clear hHeld hK K
        try simp only [Act.put, List.setIfInBounds_toArray, List.set_cons_zero, List.set_cons_succ]
        refine wpAnyH_done (by kernel_rfl) ?_ _
        have C9 := three (Bk.cast (cs' := #[.bool g, .bool false, .int .i64 st]) B9 rfl)
        clear B9
        try clear key_more
        try clear z8a z8f B8 q9 c8
        try clear z7 z7a z6d z6a z8
        go_wp2_with (first
          | (go_at_call 90; (with_reducible refine (HUP.out _).mono ?_); rintro e w9 ⟨rfl, b9⟩; have z9 := z8s.below b9)
          | (go_at_call 71; (with_reducible refine (of_lit1 w9).mono ?_); rintro e w10 ⟨v10, rfl, o10, b10⟩; obtain ⟨A10, n10, c10, rfl, r10⟩ := o10.reads_n; have z10 := z9.below b10)
          | (go_at_call 86; (with_reducible refine (HAQ.out _ A10 0 c6 n10 c10 w10 z10.s6 r10).mono ?_); rintro e w11 ⟨v11, rfl, o11, b11⟩; obtain ⟨A11, n11, c11, rfl, r11⟩ := o11.reads_n; have z11 := z10.below b11)
          )
        have zf := z11.drew
        have kf := zf.neg
        have rN : SI w11.drew .u64 A11 n11 c11 (digs U (Q + true.toNat)) := r11.below (Below.refl _ _).drew
        clear C9
        go_region_held3 (fun w' => w'.cell? ⟨w.heap.size, 1, none⟩ = some (.bool g))
          (first
            | (with_reducible exact kf)
            | (with_reducible exact k12)
            | (with_reducible exact k13)
            | (with_reducible exact f13))
          (first
            | (go_at_call 70; (with_reducible refine (HM3.out A11 A n11 c11 n c _ rN zf.su).mono ?_); rintro e w12 ⟨v12, rfl, o12, b12⟩; obtain ⟨A12, n12, c12, rfl, r12⟩ := o12.reads_n; have z12 := zf.below b12; have k12 := z12.neg)
            | (go_at_call 91; (with_reducible refine (HMA.out A12 n12 c12 w12 z12.p r12).mono ?_); rintro e w13 ⟨rfl, b13⟩; have z13 := z12.t.below b13; have k13 := z13.neg; have f13 := z13.far (.int .i64 0) (.bool g') (.string L') (.int .i64 x'); have q13 := z13.res))
        go_wp2
        obtain ⟨y1, y2⟩ := z13.ret (.int .i64 0) (.bool g') (.string L') (.int .i64 x')
        exact bodyPost_ret (res_bk_t rfl _ y1 rfl Tryz.underlying23 rfl (by kernel_rfl)) rfl ⟨rfl, y2⟩
    · go_simp
      refine hK.out _ _ (TA.neg z6a) (fun hHeld => ?_)
      clear hHeld hK K
      try simp only [Act.put, List.setIfInBounds_toArray, List.set_cons_zero, List.set_cons_succ]
      refine wpAnyH_ready (rs := [14]) (by kernel_rfl) (by simp) ?_
      refine AllReadyH.cons rfl (fun K hK => ?_) AllReadyH.nil
      go_simp
      go_at_call 86; (with_reducible refine (HAR.out A7 n7 c7 _ ((r7.alloc (.cells #[.bool false, .bool false, .int .i64 0] 124)).below (Below.refl _ _).drew)).mono ?_); rintro e w7 ⟨v8, rfl, o8, b7⟩; obtain ⟨A8, n8, c8, rfl, r8⟩ := o8.reads_n
      have z7 := z6a.below b7
      have B7 := (Bk.start w6 124 #[.bool false, .bool false, .int .i64 0]).drew.below b7
      have c7 := on ((alloc_below w6 _).drew) b7
      refine hK.out _ _ (TA.neg z7) (fun hHeld => ?_)
      clear hHeld hK K
      try simp only [Act.put, List.setIfInBounds_toArray, List.set_cons_zero, List.set_cons_succ]
      refine wpAnyH_ready (rs := [16]) (by kernel_rfl) (by simp) ?_
      refine AllReadyH.cons rfl (fun K hK => ?_) AllReadyH.nil
      go_simp
      go_at_call 89; (with_reducible refine (HCM.out A8 A5 n8 c8 n5 c5 _ r8 z7.s5).mono ?_); rintro e w8 ⟨rfl, d8⟩
      have z8 := z7.below (Drawn.below d8)
      refine hK.out _ _ (TA.neg z8) (fun hHeld => ?_)
      clear hHeld hK K
      try simp only [Act.put, List.setIfInBounds_toArray, List.set_cons_zero, List.set_cons_succ]
      refine wpAnyH_take (i := 17) (v := ?_) rfl (by kernel_rfl) (by kernel_rfl) (by kernel_rfl) (fun _ _ _ h => h) (Or.inl ⟨by rfl, ?_⟩) (TA.neg z8) ?_
      rotate_left
      · intro w hSw
        try dsimp only at hSw
        go_simp
        try with_reducible rfl
      try simp only [Act.put, List.setIfInBounds_toArray, List.set_cons_zero, List.set_cons_succ]
      have c8 := on c7 (Drawn.below d8)
      have B8 : Bk w8 w6.heap.size 124 #[.bool false, .bool false, .int .i64 0] := B7.below (Drawn.below d8)
      have z8s : TA w (((w8.setCell ⟨w6.heap.size, 0, none⟩ (.bool g)).setCell ⟨w6.heap.size, 1, none⟩ (.bool false)).setCell ⟨w6.heap.size, 2, none⟩ (.int .i64 st)) g S x A n c u A5 n5 c5 (u * 10 ^ k2) A6 0 c6 Q := z6.below (((c8.setCell (Nat.le_refl _) (.bool g)).setCell (Nat.le_refl _) (.bool false)).setCell (Nat.le_refl _) (.int .i64 st))
      have B9 := ((B8.set 0 (.bool g)).set 1 (.bool false)).set 2 (.int .i64 st)
      have q9 := And.intro (B8.at_ 0 rfl) (And.intro (B8.at_ 1 rfl) (And.intro (B8.at_ 2 rfl) (And.intro (B8.fr 0) (And.intro (B8.fr 1) (B8.fr 2)))))
      refine wpAnyH_ready (rs := [19]) (by kernel_rfl) (by simp) ?_
      refine AllReadyH.cons rfl (fun K hK => ?_) AllReadyH.nil
      go_simp
      refine hK.out _ _ (TA.neg z8s) (fun hHeld => ?_)
      clear hHeld hK K
      try simp only [Act.put, List.setIfInBounds_toArray, List.set_cons_zero, List.set_cons_succ]
      refine wpAnyH_done (by kernel_rfl) ?_ _
      have C9 := three (Bk.cast (cs' := #[.bool g, .bool false, .int .i64 st]) B9 rfl)
      clear B9
      try clear key_more
      try clear z8a z8f B8 q9 c8
      try clear z7 z7a z6d z6a z8
      go_wp2_with (first
        | (go_at_call 90; (with_reducible refine (HUP.out _).mono ?_); rintro e w9 ⟨rfl, b9⟩; have z9 := z8s.below b9)
        | (go_at_call 71; (with_reducible refine (of_lit1 w9).mono ?_); rintro e w10 ⟨v10, rfl, o10, b10⟩; obtain ⟨A10, n10, c10, rfl, r10⟩ := o10.reads_n; have z10 := z9.below b10)
        | (go_at_call 86; (with_reducible refine (HAQ.out _ A10 0 c6 n10 c10 w10 z10.s6 r10).mono ?_); rintro e w11 ⟨v11, rfl, o11, b11⟩; obtain ⟨A11, n11, c11, rfl, r11⟩ := o11.reads_n; have z11 := z10.below b11)
        )
      have zf := z11.drew
      have kf := zf.neg
      have rN : SI w11.drew .u64 A11 n11 c11 (digs U (Q + true.toNat)) := r11.below (Below.refl _ _).drew
      clear C9
      go_region_held3 (fun w' => w'.cell? ⟨w.heap.size, 1, none⟩ = some (.bool g))
        (first
          | (with_reducible exact kf)
          | (with_reducible exact k12)
          | (with_reducible exact k13)
          | (with_reducible exact f13))
        (first
          | (go_at_call 70; (with_reducible refine (HM3.out A11 A n11 c11 n c _ rN zf.su).mono ?_); rintro e w12 ⟨v12, rfl, o12, b12⟩; obtain ⟨A12, n12, c12, rfl, r12⟩ := o12.reads_n; have z12 := zf.below b12; have k12 := z12.neg)
          | (go_at_call 91; (with_reducible refine (HMA.out A12 n12 c12 w12 z12.p r12).mono ?_); rintro e w13 ⟨rfl, b13⟩; have z13 := z12.t.below b13; have k13 := z13.neg; have f13 := z13.far (.int .i64 0) (.bool g') (.string L') (.int .i64 x'); have q13 := z13.res))
      go_wp2
      obtain ⟨y1, y2⟩ := z13.ret (.int .i64 0) (.bool g') (.string L') (.int .i64 x')
      exact bodyPost_ret (res_bk_t rfl _ y1 rfl Tryz.underlying23 rfl (by kernel_rfl)) rfl ⟨rfl, y2⟩
end Go.Proofs.YtfddokfnplehkaaGreatDoor.Dc
