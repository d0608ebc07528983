/- Texts of one layer, joined: Ej, Ek, Eu. -/
import Derived.Test.YtkanddmihmdagaaGreatDoorGL
import Derived.Test.YtkanddmihmdagaaGreatDoorGK
import Derived.Test.YtkanddmihmdagaaGreatDoorGD
set_option linter.unusedVariables false
set_option linter.unusedSimpArgs false
set_option linter.unusedSectionVars false
/- Layer 5: dec.made; dec.at. -/
set_option linter.unusedSimpArgs false
set_option linter.unusedVariables false
namespace Go.Proofs.YtkanddmihmdagaaGreatDoor.Dc
open Go.RowKit Go.Proofs.YtkanddmihmdagaaGreatDoor.Dig Go.Proofs.YtkanddmihmdagaaGreatDoor.W Go.Proofs.YtkanddmihmdagaaGreatDoor.Nat Go.Proofs.YtkanddmihmdagaaGreatDoor.Wh Go.Proofs.YtkanddmihmdagaaGreatDoor.Td Go.Proofs.YtkanddmihmdagaaGreatDoor.Bu Go.Proofs.YtkanddmihmdagaaGreatDoor.Tx Go.Proofs.YtkanddmihmdagaaGreatDoor.Sp Go.Proofs.YtkanddmihmdagaaGreatDoor.Rd

theorem left_calls (l t : List UInt8) (h : Lib.trimLeftB l 48 = t) (w : World) : Calls Tryz.prog 62 #[.string ⟨l.toArray⟩, .string ⟨#[48]⟩] w fun e w' => e = .returned (.string ⟨t.toArray⟩) ∧ w = w' := by
  subst h
  exact (Tryz.strings_TrimLeft_one ⟨l.toArray⟩ 48 (by decide) w).mono fun _ _ ⟨a, b⟩ => ⟨a, b.symm⟩
theorem dd_dig : ∀ (k : Nat) (l : List UInt8), l.length = k → (∀ c ∈ l, isDig c) → dd k (nv 0 l) = l
  | 0, l, h, _ => by
    obtain rfl := List.eq_nil_of_length_eq_zero h
    rfl
  | k + 1, l, h, hd => by
    have hne : l ≠ [] := fun e => by rw [e] at h; cases h
    obtain ⟨r, c, rfl⟩ : ∃ r c, l = r ++ [c] := ⟨l.dropLast, l.getLast hne, (List.dropLast_concat_getLast hne).symm⟩
    have hr : r.length = k := by simpa using h
    have hc : isDig c := hd c (by simp)
    have hc2 := hc
    unfold isDig at hc2
    have e := dd_dig k r hr (fun b hb => hd b (by simp [hb]))
    rw [nv_append, nv_cons, nv_nil]
    have e1 : (nv 0 r * 10 + (c.toNat - 48)) / 10 = nv 0 r := by omega
    have e2 : (nv 0 r * 10 + (c.toNat - 48)) % 10 = c.toNat - 48 := by omega
    rw [dd, e1, e2, e]
    congr 1
    exact congrArg (fun z => [z]) (isDig_db hc)
/-- digits, with noughts at both ends, trimmed -/
theorem trim_dig {l : List UInt8} (h : ∀ c ∈ l, isDig c) : Lib.trimRightB (Lib.trimLeftB l 48) 48 = cd (nv 0 l) ∧ (nv 0 l ≠ 0 → (Lib.trimLeftB l 48).length = (cd (nv 0 l)).length + tz (nv 0 l)) ∧ (Lib.trimLeftB l 48).length ≤ l.length := by
  obtain ⟨t1, t2⟩ := trims (nv_lt h)
  rw [dd_dig _ l rfl h] at t1 t2
  refine ⟨t1, fun h0 => by have := t2 h0; omega, ?_⟩
  unfold Lib.trimLeftB
  exact (List.dropWhile_sublist _).length_le
set_option maxHeartbeats 4000000 in
set_option maxRecDepth 100000 in
theorem dmade_zero (g : Bool) (l : List UInt8) (E : Int) (w : World) (hd : ∀ c ∈ l, isDig c) (hl : l.length ≤ 100000000) (h0 : nv 0 l = 0) :
    Calls Tryz.prog 35 #[.bool g, str l, .int .i64 E] w fun e w' => e = .returned (.tuple #[.agg (dec 0 g [] 0), .int .i64 0]) ∧ Below w.heap.size w w' := by
  have b0 := alloc_below w (.cells #[.int .i64 0, .bool false, .string ⟨#[]⟩, .int .i64 0] 23)
  have HB0 := Lib.hid (Bk.start w 23 #[.int .i64 0, .bool false, .string ⟨#[]⟩, .int .i64 0])
  obtain ⟨t1, _, t3⟩ := trim_dig hd
  rw [h0, cd_zero] at t1
  have HL := Lib.hid (left_calls l _ rfl)
  have HR := Lib.hid (right_calls (Lib.trimLeftB l 48) [] t1 (by omega))
  have HM := Lib.hid (fun w1 => may_zero g ▸ dmay_calls 0 g [] 0 w1 (by decide))
  have HB := Lib.hid b0
  clear b0 t1 t3 h0 hd hl
  unfold dec str at HM ⊢
  go_enter Tryz.func35, Tryz.ntmps35
  go_wp2_with (first
    | (go_at_call 62; (with_reducible refine (HL.out _).mono ?_); rintro e w1 ⟨rfl, rfl⟩)
    | (go_at_call 64; (with_reducible refine (HR.out _).mono ?_); rintro e w2 ⟨rfl, rfl⟩)
    | (go_at_call 14; (with_reducible refine (HM.out _).mono ?_); rintro e w3 ⟨rfl, b3⟩; have Z := ((HB0.out).alloc (.cells #[.int .i64 0, .bool g, .string ⟨#[]⟩, .int .i64 0] 23)).below b3; have q := four ((bk_two w #[.int .i64 0, .bool false, .string ⟨#[]⟩, .int .i64 0] #[.int .i64 0, .bool g, .string ⟨#[]⟩, .int .i64 0] 23 23).2.1.below b3); have z := four Z; have f := frz Z))
  have bl := on (on HB.out (alloc_below _ (.cells #[.int .i64 0, .bool g, .string ⟨#[]⟩, .int .i64 0] 23))) b3
  exact bodyPost_ret (res_bk_t rfl _ (Z.set4 _ _ _ _ rfl) rfl Tryz.underlying23 rfl (by kernel_rfl)) rfl ⟨rfl, below_set4 bl (Nat.le_refl _) _ _ _ _⟩
set_option maxHeartbeats 4000000 in
set_option maxRecDepth 100000 in
theorem dmade_pos (g : Bool) (l : List UInt8) (E : Int) (w : World) (hd : ∀ c ∈ l, isDig c) (hl : l.length ≤ 100000000) (hE : -100000000 ≤ E) (hE2 : E ≤ 100000000) (h0 : nv 0 l ≠ 0) :
    Calls Tryz.prog 35 #[.bool g, str l, .int .i64 E] w fun e w' => e = .returned (.tuple #[.agg (oc g (told g (nv 0 l) E)), .int .i64 (oe (told g (nv 0 l) E))]) ∧ Below w.heap.size w w' := by
  have b0 := alloc_below w (.cells #[.int .i64 0, .bool false, .string ⟨#[]⟩, .int .i64 0] 23)
  have HB0 := Lib.hid (Bk.start w 23 #[.int .i64 0, .bool false, .string ⟨#[]⟩, .int .i64 0])
  obtain ⟨t1, t2, t3⟩ := trim_dig hd
  have t2 := t2 h0
  have HL := Lib.hid (left_calls l _ rfl)
  have HR := Lib.hid (right_calls (Lib.trimLeftB l 48) (cd (nv 0 l)) t1 (by omega))
  have hF := formed_cd h0
  have hM := fun w1 => dmay_calls 0 g (cd (nv 0 l)) (ce (nv 0 l) E) w1 (by omega)
  have hce : ce (nv 0 l) E = E + ((Lib.trimLeftB l 48).length : Int) - ((cd (nv 0 l)).length : Int) := by unfold ce; rw [if_neg h0]; omega
  have hs := size_of (cd (nv 0 l))
  have ht := size_of (Lib.trimLeftB l 48)
  have hlen := hF.len
  rw [may_form hF] at hM
  unfold told
  rw [if_neg h0]
  have HB := Lib.hid b0
  have hw1 : IntKind.i64.wrap (E + ((Lib.trimLeftB l 48).length : Int)) = E + ((Lib.trimLeftB l 48).length : Int) := by rw [IntKind.wrap_i64]; omega
  by_cases hf : fits (cd (nv 0 l)) (ce (nv 0 l) E)
  · rw [if_pos hf]
    rw [decide_eq_true hf] at hM
    clear b0 hf t1 hF hd h0
    unfold oc oe
    unfold dec str at hM ⊢
    rw [hce] at hM ⊢
    rw [← hs, ← ht] at hM ⊢
    rw [← hs] at hlen t2
    rw [← ht] at t2 t3
    have hst : (⟨(cd (nv 0 l)).toArray⟩ : ByteArray).size ≤ (⟨(Lib.trimLeftB l 48).toArray⟩ : ByteArray).size := by omega
    clear t2
    dsimp only
    generalize (⟨(cd (nv 0 l)).toArray⟩ : ByteArray) = S at *
    generalize (⟨(Lib.trimLeftB l 48).toArray⟩ : ByteArray) = T at *
    obtain ⟨e1, e2⟩ := emp hlen
    have HM := Lib.hid hM
    clear hM hce hs ht hw1
    go_enter Tryz.func35, Tryz.ntmps35
    go_wp2_with (first
      | (go_at_call 62; (with_reducible refine (HL.out _).mono ?_); rintro e w1 ⟨rfl, rfl⟩)
      | (go_at_call 64; (with_reducible refine (HR.out _).mono ?_); rintro e w2 ⟨rfl, rfl⟩)
      | (go_at_call 14; (with_reducible refine (HM.out _).mono ?_); rintro e w3 ⟨rfl, b3⟩; have Z := ((HB0.out).alloc (.cells #[.int .i64 0, .bool g, .string S, .int .i64 (E + (T.size : Int) - (S.size : Int))] 23)).below b3; have q := four ((bk_two w #[.int .i64 0, .bool false, .string ⟨#[]⟩, .int .i64 0] #[.int .i64 0, .bool g, .string S, .int .i64 (E + (T.size : Int) - (S.size : Int))] 23 23).2.1.below b3); have z := four Z; have f := frz Z))
    have bl := on (on HB.out (alloc_below _ (.cells #[.int .i64 0, .bool g, .string S, .int .i64 (E + (T.size : Int) - (S.size : Int))] 23))) b3
    exact bodyPost_ret (res_bk_t rfl _ (Z.set4 _ _ _ _ rfl) rfl Tryz.underlying23 rfl (by kernel_rfl)) rfl ⟨rfl, below_set4 bl (Nat.le_refl _) _ _ _ _⟩
  · rw [if_neg hf]
    rw [decide_eq_false hf] at hM
    clear b0 hf t1 hF hd h0
    unfold oc oe
    unfold dec str at hM ⊢
    rw [hce] at hM
    rw [← hs, ← ht] at hM
    rw [← hs] at hlen t2
    rw [← ht] at t2 t3
    have hst : (⟨(cd (nv 0 l)).toArray⟩ : ByteArray).size ≤ (⟨(Lib.trimLeftB l 48).toArray⟩ : ByteArray).size := by omega
    clear t2
    dsimp only
    generalize (⟨(cd (nv 0 l)).toArray⟩ : ByteArray) = S at *
    generalize (⟨(Lib.trimLeftB l 48).toArray⟩ : ByteArray) = T at *
    obtain ⟨e1, e2⟩ := emp hlen
    have HM := Lib.hid hM
    clear hM hce hs ht hw1
    go_enter Tryz.func35, Tryz.ntmps35
    go_wp2_with (first
      | (go_at_call 62; (with_reducible refine (HL.out _).mono ?_); rintro e w1 ⟨rfl, rfl⟩)
      | (go_at_call 64; (with_reducible refine (HR.out _).mono ?_); rintro e w2 ⟨rfl, rfl⟩)
      | (go_at_call 14; (with_reducible refine (HM.out _).mono ?_); rintro e w3 ⟨rfl, b3⟩; have Z := ((HB0.out).alloc (.cells #[.int .i64 0, .bool g, .string S, .int .i64 (E + (T.size : Int) - (S.size : Int))] 23)).below b3; have z := four Z; have f := frz Z))
    have bl := on (on HB.out (alloc_below _ (.cells #[.int .i64 0, .bool g, .string S, .int .i64 (E + (T.size : Int) - (S.size : Int))] 23))) b3
    exact bodyPost_ret (res_bk_t rfl _ (Z.set4 _ _ _ _ rfl) rfl Tryz.underlying23 rfl (by kernel_rfl)) rfl ⟨rfl, below_set4 bl (Nat.le_refl _) _ _ _ _⟩
/-- dec.made at digits with noughts wherever they are -/
theorem dmade_calls (g : Bool) (l : List UInt8) (E : Int) (w : World) (hd : ∀ c ∈ l, isDig c) (hl : l.length ≤ 100000000) (hE : -100000000 ≤ E) (hE2 : E ≤ 100000000) :
    Calls Tryz.prog 35 #[.bool g, str l, .int .i64 E] w (Ans w g (told g (nv 0 l) E)) := by
  by_cases h0 : nv 0 l = 0
  · rw [h0, told_zero]
    exact dmade_zero g l E w hd hl h0
  · exact dmade_pos g l E w hd hl hE hE2 h0
/-- a Dec's box, and the cell of a whole number -/
structure TW (w W : World) (g : Bool) (S : ByteArray) (x : Int) : Prop where
  a : Bk W w.heap.size 23 #[.int .i64 0, .bool g, .string S, .int .i64 x]
  r : Two W (w.heap.size + 1) 64 (.bool false) (.slice none 0 0)
  bl : Below w.heap.size w W
section
variable {w W W' : World} {g : Bool} {S : ByteArray} {x : Int}
theorem TW.start (w : World) (g : Bool) (S : ByteArray) (x : Int) : TW w ((w.alloc (.cells #[.int .i64 0, .bool g, .string S, .int .i64 x] 23)).alloc (.cells #[.bool false, .slice none 0 0] 64)) g S x := by
  have h2 := Two.start (w.alloc (.cells #[.int .i64 0, .bool g, .string S, .int .i64 x] 23)) (.bool false) (.slice none 0 0) 64
  rw [show (w.alloc (.cells #[.int .i64 0, .bool g, .string S, .int .i64 x] 23)).heap.size = w.heap.size + 1 by simp] at h2
  exact ⟨(Bk.start w _ _).alloc _, h2, on (alloc_below w _) (alloc_below _ _)⟩
theorem TW.below (h : TW w W g S x) (hb : Below W.heap.size W W') : TW w W' g S x := ⟨h.a.below hb, h.r.below hb, on h.bl hb⟩
theorem TW.drew (h : TW w W g S x) : TW w W.drew g S x := h.below (Below.refl _ _).drew
theorem TW.neg (h : TW w W g S x) : W.cell? ⟨w.heap.size, 1, none⟩ = some (.bool g) := h.a.at_ 1 rfl
theorem TW.far (h : TW w W g S x) (a b : Value) : ((W.setCell ⟨w.heap.size + 1, 0, none⟩ a).setCell ⟨w.heap.size + 1, 1, none⟩ b).cell? ⟨w.heap.size, 1, none⟩ = some (.bool g) := by
  have hne : ∀ j, (⟨w.heap.size + 1, j, none⟩ : Addr) ≠ (⟨w.heap.size, 1, none⟩ : Addr) := fun j e => by have : w.heap.size + 1 = w.heap.size := congrArg Addr.block e; omega
  rw [World.cell?_setCell_other _ _ _ _ (hne _), World.cell?_setCell_other _ _ _ _ (hne _)]
  exact h.neg
end
set_option maxHeartbeats 8000000 in
set_option maxRecDepth 100000 in
/-- dec.at: what is not zero -/
theorem dat_calls (g : Bool) (l : List UInt8) (x e0 : Int) (w : World) (hF : Formed l) (hf : l.length ≤ 1000) (hx : -5000 ≤ x ∧ x ≤ 5000) (he : -5000 ≤ e0 ∧ e0 ≤ x) (hxe : x - e0 ≤ 8192) :
    Calls Tryz.prog 47 #[.agg (dec 0 g l x), .int .i64 e0] w (GivesW w (sg g (amt l x e0))) := by
  obtain ⟨k1, hk1⟩ : ∃ k1 : Nat, x - e0 = k1 := ⟨(x - e0).toNat, by omega⟩
  have hb1 : k1 ≤ 8192 := by omega
  have hD := (nv_10 hF).mono hf
  have q1 := (Lo.pow k1).mono (show k1 + 1 ≤ 8193 by omega)
  have a1 := hD.mul q1
  have HP1 := Lib.hid (fun w1 => Wh.pow10_calls k1 w1 hb1)
  have HPa := Lib.hid (fun w1 => parse_formed hF (by omega) w1)
  unfold amt
  rw [show (x - e0).toNat = k1 by omega]
  have hlen := hF.len
  unfold dec str
  rw [← size_of l] at hlen
  generalize (⟨l.toArray⟩ : ByteArray) = S at *
  obtain ⟨em1, em2⟩ := emp hlen
  generalize nv 0 l = D at *
  have HT := Lib.hid (TW.start w g S x)
  have HM1 := Lib.hid (fun (A A' : Option Addr) (n c n' c' : Nat) (w1 : World) (h : SI w1 .u64 A n c (digs U D)) (h' : SI w1 .u64 A' n' c' (digs U (10 ^ k1))) => mul_10 A A' n c n' c' D (10 ^ k1) w1 h h' (hD.mono (by omega : _ ≤ 20000)) (q1.mono (by omega)) (by omega))
  have HL := Lib.hid a1.len
  clear a1 q1 hD hF hf
  generalize D * 10 ^ k1 = m at *
  go_enter Tryz.func47, Tryz.ntmps47
  go_wp2_with (first
    | (go_at_call 51; (with_reducible refine (HPa.out _).mono ?_); rintro e w1 ⟨A1, n1, c1, rfl, r1, b1⟩; have x1 := HT.out.below b1; have y1 := four x1.a)
    | (go_at_call 79; ((with_reducible refine (HP1.out w1).mono ?_); rintro e w2 ⟨A2, n2, c2, rfl, r2, b2⟩; have x2 := x1.below b2)))
  have zf := x2.drew
  have kf := zf.neg
  clear y1
  go_region_held3 (fun w' => w'.cell? ⟨w.heap.size, 1, none⟩ = some (.bool g))
    (first
      | (with_reducible exact kf)
      | (with_reducible exact k3)
      | (with_reducible exact k4)
      | (with_reducible exact f4))
    (first
      | (go_at_call 52; (with_reducible refine (HM1.out A1 A2 n1 c1 n2 c2 _ ((r1.below b2).below (Below.refl _ _).drew) (r2.below (Below.refl _ _).drew)).mono ?_); rintro e w3 ⟨v3, rfl, o3, b3⟩; obtain ⟨A3, n3, c3, rfl, r3⟩ := o3.reads_n; have z3 := zf.below b3; have k3 := z3.neg)
      | (go_at_call 76; (with_reducible refine (make_d g A3 n3 c3 m w3 r3 (by have := r3.len; have := HL.out; omega)).mono ?_); rintro e w4 ⟨A4, n4, c4, rfl, r4, f4', b4⟩; have z4 := z3.below b4; have k4 := z4.neg; have f4 := z4.far (.bool (decide (sg g m < 0))) (.slice A4 n4 c4); have q0 := z4.r.c0; have q1 := z4.r.c1; have g0 := z4.r.f0; have g1 := z4.r.f1))
  go_wp2
  obtain ⟨p1, p2, p3⟩ := put_res (a := .bool (decide (sg g m < 0))) (b := .slice A4 n4 c4) z3.bl z3.r (by omega) r4 f4' b4
  exact bodyPost_ret (two_results rfl _ (z4.r.store _ _) rfl) rfl ⟨A4, n4, c4, rfl, p1, p2, p3⟩
end Go.Proofs.YtkanddmihmdagaaGreatDoor.Dc

/- Layer 5: dec.Add of two finite ones. -/
set_option linter.unusedSimpArgs false
set_option linter.unusedVariables false
namespace Go.Proofs.YtkanddmihmdagaaGreatDoor.Dc
open Go.RowKit Go.Proofs.YtkanddmihmdagaaGreatDoor.Dig Go.Proofs.YtkanddmihmdagaaGreatDoor.W Go.Proofs.YtkanddmihmdagaaGreatDoor.Nat Go.Proofs.YtkanddmihmdagaaGreatDoor.Wh Go.Proofs.YtkanddmihmdagaaGreatDoor.Td Go.Proofs.YtkanddmihmdagaaGreatDoor.Bu Go.Proofs.YtkanddmihmdagaaGreatDoor.Tx Go.Proofs.YtkanddmihmdagaaGreatDoor.Sp Go.Proofs.YtkanddmihmdagaaGreatDoor.Rd

theorem wadd_z (z z' : Int) (A A' : Option Addr) (n c n' c' : Nat) (w : World) (h : SI w .u64 A n c (digs U z.natAbs)) (h' : SI w .u64 A' n' c' (digs U z'.natAbs)) (hz : (digs U z.natAbs).length ≤ 100000) (hz' : (digs U z'.natAbs).length ≤ 100000) :
    Calls Tryz.prog 46 #[.agg #[.bool (decide (z < 0)), .slice A n c], .agg #[.bool (decide (z' < 0)), .slice A' n' c']] w (GivesW w (z + z')) := by
  have e := wadd_calls (decide (z < 0)) (decide (z' < 0)) A A' n c n' c' (digs U z.natAbs) (digs U z'.natAbs) w h h' (dl _) (dl _) (by rw [← h.len]; omega) (by rw [← h'.len]; omega)
  rw [val_digs U_two, val_digs U_two, sg_self, sg_self] at e
  exact e
section
variable {w W W' : World} {a0 a1 a2 a3 b0 b1 b2 b3 : Value}
theorem TS.k8 (h : TS w W a0 a1 a2 a3 b0 b1 b2 b3) : W.cell? ⟨w.heap.size, 0, none⟩ = some a0 ∧ W.cell? ⟨w.heap.size, 1, none⟩ = some a1 ∧ W.cell? ⟨w.heap.size, 2, none⟩ = some a2 ∧ W.cell? ⟨w.heap.size, 3, none⟩ = some a3 ∧ W.cell? ⟨w.heap.size + 1, 0, none⟩ = some b0 ∧ W.cell? ⟨w.heap.size + 1, 1, none⟩ = some b1 ∧ W.cell? ⟨w.heap.size + 1, 2, none⟩ = some b2 ∧ W.cell? ⟨w.heap.size + 1, 3, none⟩ = some b3 := h.keep
theorem TS.farC (h : TS w W a0 a1 a2 a3 b0 b1 b2 b3) {p : Addr} (hp : w.heap.size + 1 + 1 < p.block) (v : Value) : TS w (W.setCell p v) a0 a1 a2 a3 b0 b1 b2 b3 :=
  ⟨h.a.far v (by omega), h.b.far v (by omega), h.r.far v (by omega), h.bl.setCell (by omega) v⟩
theorem TS.far2 (h : TS w W a0 a1 a2 a3 b0 b1 b2 b3) {q : Nat} (hp : w.heap.size + 1 + 1 < q) (a b : Value) : TS w ((W.setCell ⟨q, 0, none⟩ a).setCell ⟨q, 1, none⟩ b) a0 a1 a2 a3 b0 b1 b2 b3 :=
  (h.farC (p := (⟨q, 0, none⟩ : Addr)) hp a).farC (p := (⟨q, 1, none⟩ : Addr)) hp b
theorem TS.two (h : TS w W a0 a1 a2 a3 b0 b1 b2 b3) {q : Nat} (hp : w.heap.size + 1 + 1 < q) {u v : Value} (hq : Two W q 64 u v) (a b c d : Value) : ((((W.setCell ⟨w.heap.size + 1 + 1, 0, none⟩ a).setCell ⟨w.heap.size + 1 + 1, 1, none⟩ b).setCell ⟨w.heap.size + 1 + 1, 2, none⟩ c).setCell ⟨w.heap.size + 1 + 1, 3, none⟩ d).cell? ⟨q, 0, none⟩ = some u ∧ ((((W.setCell ⟨w.heap.size + 1 + 1, 0, none⟩ a).setCell ⟨w.heap.size + 1 + 1, 1, none⟩ b).setCell ⟨w.heap.size + 1 + 1, 2, none⟩ c).setCell ⟨w.heap.size + 1 + 1, 3, none⟩ d).cell? ⟨q, 1, none⟩ = some v := by
  have k : ∀ {V : World} (i j : Nat) (y t : Value), V.cell? ⟨q, i, none⟩ = some t → (V.setCell ⟨w.heap.size + 1 + 1, j, none⟩ y).cell? ⟨q, i, none⟩ = some t := fun {V} i j y t hc =>
    (World.cell?_setCell_other V ⟨w.heap.size + 1 + 1, j, none⟩ ⟨q, i, none⟩ y (fun he => by have : w.heap.size + 1 + 1 = q := congrArg Addr.block he; omega)).trans hc
  exact ⟨k _ _ _ _ (k _ _ _ _ (k _ _ _ _ (k _ _ _ _ hq.c0))), k _ _ _ _ (k _ _ _ _ (k _ _ _ _ (k _ _ _ _ hq.c1)))⟩
end
theorem put_far {w2 w3 : World} {q n c : Nat} {A : Option Addr} {D : List Nat} {t : TypeId} {u v : Value} (hs : SI w3 .u64 A n c D) (hf : ∀ b o s, A = some ⟨b, o, s⟩ → w2.heap.size ≤ b) (hB : Two w2 q t u v) (a b : Value) : SI ((w3.setCell ⟨q, 0, none⟩ a).setCell ⟨q, 1, none⟩ b) .u64 A n c D := by
  have h2 := hB.lt
  have far : ∀ b o s, A = some ⟨b, o, s⟩ → b ≠ q := fun b o s e => by have h1 := hf b o s e; omega
  exact si_setFar (si_setFar hs far a) far b
theorem two_fz {w : World} {g : Nat} {t : TypeId} {u v : Value} (h : Two w g t u v) : w.cell? ⟨g, 0, none⟩ = some u ∧ w.cell? ⟨g, 1, none⟩ = some v ∧ w.frozen? ⟨g, 0, none⟩ = false ∧ w.frozen? ⟨g, 1, none⟩ = false := ⟨h.c0, h.c1, h.f0, h.f1⟩
theorem sum_lo {a b K : Nat} (g g' : Bool) (ha : Lo a K) (hb : Lo b K) : Lo (sg g a + sg g' b).natAbs (K + 1) := by
  refine (ha.add hb).le ?_
  unfold sg
  cases g <;> cases g' <;> simp <;> omega
set_option maxHeartbeats 32000000 in
set_option maxRecDepth 100000 in
/-- two that are not zero -/
theorem add_both (g g' : Bool) (l l' : List UInt8) (x x' e0 : Int) (w : World) (hp : Pow w) (hF : Formed l) (hF' : Formed l') (hf : fits l x) (hf' : fits l' x') (he : min x x' = e0) :
    Calls Tryz.prog 28 #[.agg (dec 0 g l x), .agg (dec 0 g' l' x')] w
      (Ans w (decide (sg g (amt l x e0) + sg g' (amt l' x' e0) < 0)) (told (decide (sg g (amt l x e0) + sg g' (amt l' x' e0) < 0)) (sg g (amt l x e0) + sg g' (amt l' x' e0)).natAbs e0)) := by
  have M1 := fun w1 => dmay_calls 0 g l x w1 (by have := hf.1; omega)
  have M2 := fun w1 => dmay_calls 0 g' l' x' w1 (by have := hf'.1; omega)
  rw [may_form hF, decide_eq_true hf] at M1
  rw [may_form hF', decide_eq_true hf'] at M2
  obtain ⟨f1, f2, f3⟩ := hf
  obtain ⟨f1', f2', f3'⟩ := hf'
  have A1 := fun w1 => dat_calls g l x e0 w1 hF f1 (by omega) (by omega) (by omega)
  have A2 := fun w1 => dat_calls g' l' x' e0 w1 hF' f1' (by omega) (by omega) (by omega)
  have L1 : Lo (amt l x e0) 10000 := by
    have q1 := (Lo.pow (x - e0).toNat).mono (show (x - e0).toNat + 1 ≤ 9000 by omega)
    exact ((nv_10 hF).mono f1).mul q1
  have L2 : Lo (amt l' x' e0) 10000 := by
    have q1 := (Lo.pow (x' - e0).toNat).mono (show (x' - e0).toNat + 1 ≤ 9000 by omega)
    exact ((nv_10 hF').mono f1').mul q1
  have L3 := sum_lo g g' L1 L2
  have l1 : (digs U (sg g (amt l x e0)).natAbs).length ≤ 100000 := by rw [sg_abs]; have := L1.len; omega
  have l2 : (digs U (sg g' (amt l' x' e0)).natAbs).length ≤ 100000 := by rw [sg_abs]; have := L2.len; omega
  generalize sg g (amt l x e0) = z1 at *
  generalize sg g' (amt l' x' e0) = z2 at *
  obtain ⟨z3, hz3⟩ : ∃ z3, z1 + z2 = z3 := ⟨_, rfl⟩
  have WA := fun (A A' : Option Addr) (n c n' c' : Nat) (w1 : World) (h : SI w1 .u64 A n c (digs U z1.natAbs)) (h' : SI w1 .u64 A' n' c' (digs U z2.natAbs)) => wadd_z z1 z2 A A' n c n' c' w1 h h' l1 l2
  rw [hz3] at WA L3 ⊢
  have hdl := dec_len_le L3 (by omega)
  have TX := fun (A : Option Addr) (n c : Nat) (w1 : World) (h : SI w1 .u64 A n c (digs U z3.natAbs)) (hp : Pow w1) => text_d A n c z3.natAbs w1 h (by rw [← h.len]; have := L3.len; omega) hp
  have MA := fun w1 => dmade_calls (decide (z3 < 0)) (Lib.decDigits z3.natAbs) e0 w1 (dec_isDig _) (by omega) (by omega) (by omega)
  rw [nv_dec] at MA
  unfold Ans at MA ⊢
  obtain ⟨G, L, X, e4⟩ := oc_four (decide (z3 < 0)) (told (decide (z3 < 0)) z3.natAbs e0)
  rw [e4] at MA ⊢
  generalize oe (told (decide (z3 < 0)) z3.natAbs e0) = er at *
  have hlen := hF.len
  have hlen' := hF'.len
  unfold dec str at M1 M2 A1 A2 ⊢
  unfold str at TX MA
  rw [← size_of l] at hlen
  rw [← size_of l'] at hlen'
  generalize (⟨l.toArray⟩ : ByteArray) = S at *
  generalize (⟨l'.toArray⟩ : ByteArray) = S' at *
  generalize (⟨(Lib.decDigits z3.natAbs).toArray⟩ : ByteArray) = T at *
  obtain ⟨em1, em2⟩ := emp hlen
  obtain ⟨em3, em4⟩ := emp hlen'
  have HM1 := Lib.hid M1
  have HM2 := Lib.hid M2
  have HA1 := Lib.hid A1
  have HA2 := Lib.hid A2
  have HWA := Lib.hid WA
  have HTX := Lib.hid TX
  have HMA := Lib.hid MA
  have T0 := TS.start w (.int .i64 0) (.bool g) (.string S) (.int .i64 x) (.int .i64 0) (.bool g') (.string S') (.int .i64 x')
  have HT := Lib.hid T0
  have HP := Lib.hid hp
  have HW := Lib.hid (hp.below T0.bl)
  clear M1 M2 A1 A2 WA TX MA hz3 L1 L2 L3 l1 l2 hdl e4 hlen hlen' hF hF' f1 f2 f3 f1' f2' f3' T0 hp
  go_enter Tryz.func28, Tryz.ntmps28
  go_wp2_with (first
    | (go_at_call 14; first
      | ((with_reducible refine (HM1.out _).mono ?_); rintro e w1 ⟨rfl, b1⟩; have x1 := HT.out.below b1; have k1 := x1.keep; unfold KS at k1)
      | ((with_reducible refine (HM2.out w1).mono ?_); rintro e V ⟨rfl, b2⟩; have x2 := x1.below b2; have p2 := (HW.out.below b1).below b2; have k2 := x2.keep; unfold KS at k2)))
  clear k1 k2 HM1 HM2 x1 b1 b2
  have z0 := x2.drew
  have za := (x2.alloc (.cells #[.bool false, .slice none 0 0] 64)).drew
  have hlt := x2.r.lt
  go_region_held3 (fun w' => w'.cell? ⟨w.heap.size, 0, none⟩ = some (.int .i64 0) ∧ w'.cell? ⟨w.heap.size, 1, none⟩ = some (.bool g) ∧ w'.cell? ⟨w.heap.size, 2, none⟩ = some (.string S) ∧ w'.cell? ⟨w.heap.size, 3, none⟩ = some (.int .i64 x) ∧ w'.cell? ⟨w.heap.size + 1, 0, none⟩ = some (.int .i64 0) ∧ w'.cell? ⟨w.heap.size + 1, 1, none⟩ = some (.bool g') ∧ w'.cell? ⟨w.heap.size + 1, 2, none⟩ = some (.string S') ∧ w'.cell? ⟨w.heap.size + 1, 3, none⟩ = some (.int .i64 x'))
    (first
      | (with_reducible exact z0.k8)
      | (with_reducible exact za.k8)
      | (with_reducible exact y1.k8)
      | (with_reducible exact y1a.k8)
      | (with_reducible exact y2.k8)
      | (with_reducible exact y2a.k8)
      | (with_reducible exact y3.k8)
      | (with_reducible exact y3a.k8)
      | (with_reducible exact zE.k8))
    (first
      | (go_at_call_of 47 (Value.string S); first
        | ((with_reducible refine (HA1.out V.drew).mono ?_); rintro e w1 ⟨A1, n1, c1, rfl, r1, f1, b1⟩; have y1 := z0.below b1; have y1a := y1.alloc (.cells #[.bool false, .slice none 0 0] 64))
        | ((with_reducible refine (HA1.out (V.alloc (.cells #[.bool false, .slice none 0 0] 64)).drew).mono ?_); rintro e w1 ⟨A1, n1, c1, rfl, r1, f1, b1⟩; have y1 := za.below b1; have tV : True := trivial; have B1 := ((Two.start V (.bool false) (.slice none 0 0) 64).below (Below.refl _ _).drew).below b1)
        | (have tag := B1; (with_reducible refine (HA1.out w1).mono ?_); rintro e w2 ⟨A1, n1, c1, rfl, r1, f1, b2⟩; have y2 := y1.below b2; have s1 := r1; have s2 := r2.below b2; have B2 := B1.below b2; have hq : w.heap.size + 1 + 1 < V.heap.size := hlt)
        | ((with_reducible refine (HA1.out w1).mono ?_); rintro e w2 ⟨A1, n1, c1, rfl, r1, f1, b2⟩; have y2 := y1.below b2; have y2a := y2.alloc (.cells #[.bool false, .slice none 0 0] 64); have s1 := r1; have s2 := r2.below b2)
        | ((with_reducible refine (HA1.out (w1.alloc (.cells #[.bool false, .slice none 0 0] 64))).mono ?_); rintro e w2 ⟨A1, n1, c1, rfl, r1, f1, b2⟩; have y2 := y1a.below b2; have s1 := r1; have s2 := (r2.alloc (.cells #[.bool false, .slice none 0 0] 64)).below b2; have tw1 : True := trivial; have B2 := (Two.start w1 (.bool false) (.slice none 0 0) 64).below b2; have hq : w.heap.size + 1 + 1 < w1.heap.size := y1.r.lt))
      | (go_at_call_of 47 (Value.string S'); first
        | ((with_reducible refine (HA2.out V.drew).mono ?_); rintro e w1 ⟨A2, n2, c2, rfl, r2, f2, b1⟩; have y1 := z0.below b1; have y1a := y1.alloc (.cells #[.bool false, .slice none 0 0] 64))
        | ((with_reducible refine (HA2.out (V.alloc (.cells #[.bool false, .slice none 0 0] 64)).drew).mono ?_); rintro e w1 ⟨A2, n2, c2, rfl, r2, f2, b1⟩; have y1 := za.below b1; have tV : True := trivial; have B1 := ((Two.start V (.bool false) (.slice none 0 0) 64).below (Below.refl _ _).drew).below b1)
        | (have tag := B1; (with_reducible refine (HA2.out w1).mono ?_); rintro e w2 ⟨A2, n2, c2, rfl, r2, f2, b2⟩; have y2 := y1.below b2; have s2 := r2; have s1 := r1.below b2; have B2 := B1.below b2; have hq : w.heap.size + 1 + 1 < V.heap.size := hlt)
        | ((with_reducible refine (HA2.out w1).mono ?_); rintro e w2 ⟨A2, n2, c2, rfl, r2, f2, b2⟩; have y2 := y1.below b2; have y2a := y2.alloc (.cells #[.bool false, .slice none 0 0] 64); have s2 := r2; have s1 := r1.below b2)
        | ((with_reducible refine (HA2.out (w1.alloc (.cells #[.bool false, .slice none 0 0] 64))).mono ?_); rintro e w2 ⟨A2, n2, c2, rfl, r2, f2, b2⟩; have y2 := y1a.below b2; have s2 := r2; have s1 := (r1.alloc (.cells #[.bool false, .slice none 0 0] 64)).below b2; have tw1 : True := trivial; have B2 := (Two.start w1 (.bool false) (.slice none 0 0) 64).below b2; have hq : w.heap.size + 1 + 1 < w1.heap.size := y1.r.lt))
      | (go_at_call 46; first
        | (have tag := B2; (with_reducible refine (HWA.out A1 A2 n1 c1 n2 c2 w2 s1 s2).mono ?_); rintro e w3 ⟨A3, n3, c3, rfl, r3, f3, b3⟩; have y3 := y2.below b3; have B3 := B2.below b3; have hB := B2.lt; have BE := B3.store (.bool (decide (z3 < 0))) (.slice A3 n3 c3); have zE := y3.far2 hq (.bool (decide (z3 < 0))) (.slice A3 n3 c3); have sE := put_far r3 f3 B2 (.bool (decide (z3 < 0))) (.slice A3 n3 c3); have q3 := two_fz B3)
        | ((with_reducible refine (HWA.out A1 A2 n1 c1 n2 c2 w2 s1 s2).mono ?_); rintro e w3 ⟨A3, n3, c3, rfl, r3, f3, b3⟩; have y3 := y2.below b3; have tw3 : True := trivial; have y3a := y3.alloc (.cells #[.bool false, .slice none 0 0] 64); have zE := y3.alloc (.cells #[.bool (decide (z3 < 0)), .slice A3 n3 c3] 64); have BE := Two.start w3 (.bool (decide (z3 < 0))) (.slice A3 n3 c3) 64; have sE := r3.alloc (.cells #[.bool (decide (z3 < 0)), .slice A3 n3 c3] 64); have hq := y3.r.lt)
        | ((with_reducible refine (HWA.out A1 A2 n1 c1 n2 c2 (w2.alloc (.cells #[.bool false, .slice none 0 0] 64)) (s1.alloc (.cells #[.bool false, .slice none 0 0] 64)) (s2.alloc (.cells #[.bool false, .slice none 0 0] 64))).mono ?_); rintro e w3 ⟨A3, n3, c3, rfl, r3, f3, b3⟩; have y3 := y2a.below b3; have tw2 : True := trivial; have B3 := (Two.start w2 (.bool false) (.slice none 0 0) 64).below b3; have hB := (Two.start w2 (.bool false) (.slice none 0 0) 64).lt; have hq : w.heap.size + 1 + 1 < w2.heap.size := y2.r.lt; have BE := B3.store (.bool (decide (z3 < 0))) (.slice A3 n3 c3); have zE := y3.far2 hq (.bool (decide (z3 < 0))) (.slice A3 n3 c3); have sE := put_far r3 f3 (Two.start w2 (.bool false) (.slice none 0 0) 64) (.bool (decide (z3 < 0))) (.slice A3 n3 c3); have q3 := two_fz B3)))
  all_goals
    first
      | (have _ := tV; generalize V.heap.size = G7 at *; generalize ((w3.setCell ⟨G7, 0, none⟩ (.bool (decide (z3 < 0)))).setCell ⟨G7, 1, none⟩ (.slice A3 n3 c3)) = WE at *)
      | (have _ := tw1; generalize w1.heap.size = G7 at *; generalize ((w3.setCell ⟨G7, 0, none⟩ (.bool (decide (z3 < 0)))).setCell ⟨G7, 1, none⟩ (.slice A3 n3 c3)) = WE at *)
      | (have _ := tw2; generalize w2.heap.size = G7 at *; generalize ((w3.setCell ⟨G7, 0, none⟩ (.bool (decide (z3 < 0)))).setCell ⟨G7, 1, none⟩ (.slice A3 n3 c3)) = WE at *)
      | (have _ := tw3; generalize w3.heap.size = G7 at *; generalize (w3.alloc (.cells #[.bool (decide (z3 < 0)), .slice A3 n3 c3] 64)) = WE at *)
    have pE := (HP.out.below zE.bl).below (Below.refl _ _).drew
    have v0 := zE.drew
    have s0 := sE.below (Below.refl _ _).drew
    have D0 := BE.below (Below.refl _ _).drew
    have u0 := And.intro D0.c0 D0.c1
    clear z0 za b1 b2 b3 y1 y2 y3 r1 r2 r3 s1 s2 f1 f2 f3
    go_wp2
    go_region_held3 (fun w' => w'.cell? ⟨G7, 0, none⟩ = some (.bool (decide (z3 < 0))) ∧ w'.cell? ⟨G7, 1, none⟩ = some (.slice A3 n3 c3))
      (first
        | (with_reducible exact u0)
        | (with_reducible exact u4)
        | (with_reducible exact u5)
        | (with_reducible exact u6))
      (first
        | (go_at_call 48; (with_reducible refine (HTX.out A3 n3 c3 _ s0 pE).mono ?_); rintro e w4 ⟨rfl, b4⟩; have v4 := v0.below b4; have D4 := D0.below b4; have u4 := And.intro D4.c0 D4.c1)
        | (go_at_call 35; (with_reducible refine (HMA.out w4).mono ?_); rintro e w5 ⟨rfl, b5⟩; have v5 := v4.below b5; have D5 := D4.below b5; have u5 := And.intro D5.c0 D5.c1; have u6 := v5.two hq D5 (.int .i64 0) (.bool G) (.string L) (.int .i64 X); have q5 := v5.res))
    go_wp2
    obtain ⟨o1, o2⟩ := v5.ret (.int .i64 0) (.bool G) (.string L) (.int .i64 X)
    exact bodyPost_ret (res_bk_t rfl _ o1 rfl Tryz.underlying23 rfl (by kernel_rfl)) rfl ⟨rfl, o2⟩
end Go.Proofs.YtkanddmihmdagaaGreatDoor.Dc

/- Layer 5: dec.Add, on. -/
set_option linter.unusedSimpArgs false
set_option linter.unusedVariables false
namespace Go.Proofs.YtkanddmihmdagaaGreatDoor.Dc
open Go.RowKit Go.Proofs.YtkanddmihmdagaaGreatDoor.Dig Go.Proofs.YtkanddmihmdagaaGreatDoor.W Go.Proofs.YtkanddmihmdagaaGreatDoor.Nat Go.Proofs.YtkanddmihmdagaaGreatDoor.Wh Go.Proofs.YtkanddmihmdagaaGreatDoor.Td Go.Proofs.YtkanddmihmdagaaGreatDoor.Bu Go.Proofs.YtkanddmihmdagaaGreatDoor.Tx Go.Proofs.YtkanddmihmdagaaGreatDoor.Sp Go.Proofs.YtkanddmihmdagaaGreatDoor.Rd
set_option maxHeartbeats 16000000 in
set_option maxRecDepth 100000 in
theorem addc_m1 (c c' : Int) (g g' : Bool) (S S' : ByteArray) (x x' : Int) (w : World)
    (M1 : ∀ w1, Calls Tryz.prog 14 #[.agg #[.int .i64 c, .bool g, .string S, .int .i64 x]] w1 fun e w' => e = .returned (.bool false) ∧ Below w1.heap.size w1 w') :
    Calls Tryz.prog 28 #[.agg #[.int .i64 c, .bool g, .string S, .int .i64 x], .agg #[.int .i64 c', .bool g', .string S', .int .i64 x']] w fun e w' => e = .returned (.tuple #[.agg #[.int .i64 0, .bool false, .string ⟨#[]⟩, .int .i64 0], .int .i64 52]) ∧ Below w.heap.size w w' := by
  have HM1 := Lib.hid M1
  have HT := Lib.hid (TS.start w (.int .i64 c) (.bool g) (.string S) (.int .i64 x) (.int .i64 c') (.bool g') (.string S') (.int .i64 x'))
  clear M1
  go_enter Tryz.func28, Tryz.ntmps28
  go_wp2_with (first
    | (go_at_call 14; ((with_reducible refine (HM1.out _).mono ?_); rintro e w1 ⟨rfl, b1⟩; have x1 := HT.out.below b1; have k1 := x1.k8; have q2 := x1.res)))
  obtain ⟨o1, o2⟩ := x1.ret (.int .i64 0) (.bool false) (.string ⟨#[]⟩) (.int .i64 0)
  exact bodyPost_ret (res_bk_t rfl _ o1 rfl Tryz.underlying23 rfl (by kernel_rfl)) rfl ⟨rfl, o2⟩
set_option maxHeartbeats 16000000 in
set_option maxRecDepth 100000 in
theorem addc_m2 (c c' : Int) (g g' : Bool) (S S' : ByteArray) (x x' : Int) (w : World)
    (M1 : ∀ w1, Calls Tryz.prog 14 #[.agg #[.int .i64 c, .bool g, .string S, .int .i64 x]] w1 fun e w' => e = .returned (.bool true) ∧ Below w1.heap.size w1 w')
    (M2 : ∀ w1, Calls Tryz.prog 14 #[.agg #[.int .i64 c', .bool g', .string S', .int .i64 x']] w1 fun e w' => e = .returned (.bool false) ∧ Below w1.heap.size w1 w') :
    Calls Tryz.prog 28 #[.agg #[.int .i64 c, .bool g, .string S, .int .i64 x], .agg #[.int .i64 c', .bool g', .string S', .int .i64 x']] w fun e w' => e = .returned (.tuple #[.agg #[.int .i64 0, .bool false, .string ⟨#[]⟩, .int .i64 0], .int .i64 52]) ∧ Below w.heap.size w w' := by
  have HM1 := Lib.hid M1
  have HM2 := Lib.hid M2
  have HT := Lib.hid (TS.start w (.int .i64 c) (.bool g) (.string S) (.int .i64 x) (.int .i64 c') (.bool g') (.string S') (.int .i64 x'))
  clear M1 M2
  go_enter Tryz.func28, Tryz.ntmps28
  go_wp2_with (first
    | (go_at_call 14; first
      | ((with_reducible refine (HM1.out _).mono ?_); rintro e w1 ⟨rfl, b1⟩; have x1 := HT.out.below b1; have k1 := x1.k8)
      | ((with_reducible refine (HM2.out w1).mono ?_); rintro e w2 ⟨rfl, b2⟩; have x2 := x1.below b2; have k2 := x2.k8; have q2 := x2.res)))
  obtain ⟨o1, o2⟩ := x2.ret (.int .i64 0) (.bool false) (.string ⟨#[]⟩) (.int .i64 0)
  exact bodyPost_ret (res_bk_t rfl _ o1 rfl Tryz.underlying23 rfl (by kernel_rfl)) rfl ⟨rfl, o2⟩
set_option maxHeartbeats 16000000 in
set_option maxRecDepth 100000 in
theorem addc_n1 (c' : Int) (g g' : Bool) (S S' : ByteArray) (x x' : Int) (w : World)
    (M1 : ∀ w1, Calls Tryz.prog 14 #[.agg #[.int .i64 2, .bool g, .string S, .int .i64 x]] w1 fun e w' => e = .returned (.bool true) ∧ Below w1.heap.size w1 w')
    (M2 : ∀ w1, Calls Tryz.prog 14 #[.agg #[.int .i64 c', .bool g', .string S', .int .i64 x']] w1 fun e w' => e = .returned (.bool true) ∧ Below w1.heap.size w1 w') :
    Calls Tryz.prog 28 #[.agg #[.int .i64 2, .bool g, .string S, .int .i64 x], .agg #[.int .i64 c', .bool g', .string S', .int .i64 x']] w fun e w' => e = .returned (.tuple #[.agg #[.int .i64 2, .bool false, .string ⟨#[]⟩, .int .i64 0], .int .i64 0]) ∧ Below w.heap.size w w' := by
  have HM1 := Lib.hid M1
  have HM2 := Lib.hid M2
  have HT := Lib.hid (TS.start w (.int .i64 2) (.bool g) (.string S) (.int .i64 x) (.int .i64 c') (.bool g') (.string S') (.int .i64 x'))
  clear M1 M2
  go_enter Tryz.func28, Tryz.ntmps28
  go_wp2_with (first
    | (go_at_call 14; first
      | ((with_reducible refine (HM1.out _).mono ?_); rintro e w1 ⟨rfl, b1⟩; have x1 := HT.out.below b1; have k1 := x1.k8)
      | ((with_reducible refine (HM2.out w1).mono ?_); rintro e w2 ⟨rfl, b2⟩; have x2 := x1.below b2; have k2 := x2.k8; have q2 := x2.res)))
  obtain ⟨o1, o2⟩ := x2.ret (.int .i64 2) (.bool false) (.string ⟨#[]⟩) (.int .i64 0)
  exact bodyPost_ret (res_bk_t rfl _ o1 rfl Tryz.underlying23 rfl (by kernel_rfl)) rfl ⟨rfl, o2⟩
set_option maxHeartbeats 16000000 in
set_option maxRecDepth 100000 in
theorem addc_n2 (c : Int) (g g' : Bool) (S S' : ByteArray) (x x' : Int) (w : World) (hc : c = 0 ∨ c = 1)
    (M1 : ∀ w1, Calls Tryz.prog 14 #[.agg #[.int .i64 c, .bool g, .string S, .int .i64 x]] w1 fun e w' => e = .returned (.bool true) ∧ Below w1.heap.size w1 w')
    (M2 : ∀ w1, Calls Tryz.prog 14 #[.agg #[.int .i64 2, .bool g', .string S', .int .i64 x']] w1 fun e w' => e = .returned (.bool true) ∧ Below w1.heap.size w1 w') :
    Calls Tryz.prog 28 #[.agg #[.int .i64 c, .bool g, .string S, .int .i64 x], .agg #[.int .i64 2, .bool g', .string S', .int .i64 x']] w fun e w' => e = .returned (.tuple #[.agg #[.int .i64 2, .bool false, .string ⟨#[]⟩, .int .i64 0], .int .i64 0]) ∧ Below w.heap.size w w' := by
  have HM1 := Lib.hid M1
  have HM2 := Lib.hid M2
  have HT := Lib.hid (TS.start w (.int .i64 c) (.bool g) (.string S) (.int .i64 x) (.int .i64 2) (.bool g') (.string S') (.int .i64 x'))
  clear M1 M2
  rcases hc with rfl | rfl
  · go_enter Tryz.func28, Tryz.ntmps28
    go_wp2_with (first
      | (go_at_call 14; first
        | ((with_reducible refine (HM1.out _).mono ?_); rintro e w1 ⟨rfl, b1⟩; have x1 := HT.out.below b1; have k1 := x1.k8)
        | ((with_reducible refine (HM2.out w1).mono ?_); rintro e w2 ⟨rfl, b2⟩; have x2 := x1.below b2; have k2 := x2.k8; have q2 := x2.res)))
    obtain ⟨o1, o2⟩ := x2.ret (.int .i64 2) (.bool false) (.string ⟨#[]⟩) (.int .i64 0)
    exact bodyPost_ret (res_bk_t rfl _ o1 rfl Tryz.underlying23 rfl (by kernel_rfl)) rfl ⟨rfl, o2⟩
  · go_enter Tryz.func28, Tryz.ntmps28
    go_wp2_with (first
      | (go_at_call 14; first
        | ((with_reducible refine (HM1.out _).mono ?_); rintro e w1 ⟨rfl, b1⟩; have x1 := HT.out.below b1; have k1 := x1.k8)
        | ((with_reducible refine (HM2.out w1).mono ?_); rintro e w2 ⟨rfl, b2⟩; have x2 := x1.below b2; have k2 := x2.k8; have q2 := x2.res)))
    obtain ⟨o1, o2⟩ := x2.ret (.int .i64 2) (.bool false) (.string ⟨#[]⟩) (.int .i64 0)
    exact bodyPost_ret (res_bk_t rfl _ o1 rfl Tryz.underlying23 rfl (by kernel_rfl)) rfl ⟨rfl, o2⟩
set_option maxHeartbeats 16000000 in
set_option maxRecDepth 100000 in
theorem addc_10 (g g' : Bool) (S S' : ByteArray) (x x' : Int) (w : World)
    (M1 : ∀ w1, Calls Tryz.prog 14 #[.agg #[.int .i64 1, .bool g, .string S, .int .i64 x]] w1 fun e w' => e = .returned (.bool true) ∧ Below w1.heap.size w1 w')
    (M2 : ∀ w1, Calls Tryz.prog 14 #[.agg #[.int .i64 0, .bool g', .string S', .int .i64 x']] w1 fun e w' => e = .returned (.bool true) ∧ Below w1.heap.size w1 w') :
    Calls Tryz.prog 28 #[.agg #[.int .i64 1, .bool g, .string S, .int .i64 x], .agg #[.int .i64 0, .bool g', .string S', .int .i64 x']] w fun e w' => e = .returned (.tuple #[.agg #[.int .i64 1, .bool g, .string S, .int .i64 x], .int .i64 0]) ∧ Below w.heap.size w w' := by
  have HM1 := Lib.hid M1
  have HM2 := Lib.hid M2
  have HT := Lib.hid (TS.start w (.int .i64 1) (.bool g) (.string S) (.int .i64 x) (.int .i64 0) (.bool g') (.string S') (.int .i64 x'))
  clear M1 M2
  go_enter Tryz.func28, Tryz.ntmps28
  go_wp2_with (first
    | (go_at_call 14; first
      | ((with_reducible refine (HM1.out _).mono ?_); rintro e w1 ⟨rfl, b1⟩; have x1 := HT.out.below b1; have k1 := x1.k8)
      | ((with_reducible refine (HM2.out w1).mono ?_); rintro e w2 ⟨rfl, b2⟩; have x2 := x1.below b2; have k2 := x2.k8; have q2 := x2.res)))
  obtain ⟨o1, o2⟩ := x2.ret (.int .i64 1) (.bool g) (.string S) (.int .i64 x)
  exact bodyPost_ret (res_bk_t rfl _ o1 rfl Tryz.underlying23 rfl (by kernel_rfl)) rfl ⟨rfl, o2⟩
set_option maxHeartbeats 16000000 in
set_option maxRecDepth 100000 in
theorem addc_01 (g g' : Bool) (S S' : ByteArray) (x x' : Int) (w : World)
    (M1 : ∀ w1, Calls Tryz.prog 14 #[.agg #[.int .i64 0, .bool g, .string S, .int .i64 x]] w1 fun e w' => e = .returned (.bool true) ∧ Below w1.heap.size w1 w')
    (M2 : ∀ w1, Calls Tryz.prog 14 #[.agg #[.int .i64 1, .bool g', .string S', .int .i64 x']] w1 fun e w' => e = .returned (.bool true) ∧ Below w1.heap.size w1 w') :
    Calls Tryz.prog 28 #[.agg #[.int .i64 0, .bool g, .string S, .int .i64 x], .agg #[.int .i64 1, .bool g', .string S', .int .i64 x']] w fun e w' => e = .returned (.tuple #[.agg #[.int .i64 1, .bool g', .string S', .int .i64 x'], .int .i64 0]) ∧ Below w.heap.size w w' := by
  have HM1 := Lib.hid M1
  have HM2 := Lib.hid M2
  have HT := Lib.hid (TS.start w (.int .i64 0) (.bool g) (.string S) (.int .i64 x) (.int .i64 1) (.bool g') (.string S') (.int .i64 x'))
  clear M1 M2
  go_enter Tryz.func28, Tryz.ntmps28
  go_wp2_with (first
    | (go_at_call 14; first
      | ((with_reducible refine (HM1.out _).mono ?_); rintro e w1 ⟨rfl, b1⟩; have x1 := HT.out.below b1; have k1 := x1.k8)
      | ((with_reducible refine (HM2.out w1).mono ?_); rintro e w2 ⟨rfl, b2⟩; have x2 := x1.below b2; have k2 := x2.k8; have q2 := x2.res)))
  obtain ⟨o1, o2⟩ := x2.ret (.int .i64 1) (.bool g') (.string S') (.int .i64 x')
  exact bodyPost_ret (res_bk_t rfl _ o1 rfl Tryz.underlying23 rfl (by kernel_rfl)) rfl ⟨rfl, o2⟩
set_option maxHeartbeats 16000000 in
set_option maxRecDepth 100000 in
theorem addc_11ff (S S' : ByteArray) (x x' : Int) (w : World)
    (M1 : ∀ w1, Calls Tryz.prog 14 #[.agg #[.int .i64 1, .bool false, .string S, .int .i64 x]] w1 fun e w' => e = .returned (.bool true) ∧ Below w1.heap.size w1 w')
    (M2 : ∀ w1, Calls Tryz.prog 14 #[.agg #[.int .i64 1, .bool false, .string S', .int .i64 x']] w1 fun e w' => e = .returned (.bool true) ∧ Below w1.heap.size w1 w') :
    Calls Tryz.prog 28 #[.agg #[.int .i64 1, .bool false, .string S, .int .i64 x], .agg #[.int .i64 1, .bool false, .string S', .int .i64 x']] w fun e w' => e = .returned (.tuple #[.agg #[.int .i64 1, .bool false, .string S, .int .i64 x], .int .i64 0]) ∧ Below w.heap.size w w' := by
  have HM1 := Lib.hid M1
  have HM2 := Lib.hid M2
  have HT := Lib.hid (TS.start w (.int .i64 1) (.bool false) (.string S) (.int .i64 x) (.int .i64 1) (.bool false) (.string S') (.int .i64 x'))
  clear M1 M2
  go_enter Tryz.func28, Tryz.ntmps28
  go_wp2_with (first
    | (go_at_call 14; first
      | ((with_reducible refine (HM1.out _).mono ?_); rintro e w1 ⟨rfl, b1⟩; have x1 := HT.out.below b1; have k1 := x1.k8)
      | ((with_reducible refine (HM2.out w1).mono ?_); rintro e w2 ⟨rfl, b2⟩; have x2 := x1.below b2; have k2 := x2.k8; have q2 := x2.res)))
  obtain ⟨o1, o2⟩ := x2.ret (.int .i64 1) (.bool false) (.string S) (.int .i64 x)
  exact bodyPost_ret (res_bk_t rfl _ o1 rfl Tryz.underlying23 rfl (by kernel_rfl)) rfl ⟨rfl, o2⟩
set_option maxHeartbeats 16000000 in
set_option maxRecDepth 100000 in
theorem addc_11ft (S S' : ByteArray) (x x' : Int) (w : World)
    (M1 : ∀ w1, Calls Tryz.prog 14 #[.agg #[.int .i64 1, .bool false, .string S, .int .i64 x]] w1 fun e w' => e = .returned (.bool true) ∧ Below w1.heap.size w1 w')
    (M2 : ∀ w1, Calls Tryz.prog 14 #[.agg #[.int .i64 1, .bool true, .string S', .int .i64 x']] w1 fun e w' => e = .returned (.bool true) ∧ Below w1.heap.size w1 w') :
    Calls Tryz.prog 28 #[.agg #[.int .i64 1, .bool false, .string S, .int .i64 x], .agg #[.int .i64 1, .bool true, .string S', .int .i64 x']] w fun e w' => e = .returned (.tuple #[.agg #[.int .i64 2, .bool false, .string ⟨#[]⟩, .int .i64 0], .int .i64 0]) ∧ Below w.heap.size w w' := by
  have HM1 := Lib.hid M1
  have HM2 := Lib.hid M2
  have HT := Lib.hid (TS.start w (.int .i64 1) (.bool false) (.string S) (.int .i64 x) (.int .i64 1) (.bool true) (.string S') (.int .i64 x'))
  clear M1 M2
  go_enter Tryz.func28, Tryz.ntmps28
  go_wp2_with (first
    | (go_at_call 14; first
      | ((with_reducible refine (HM1.out _).mono ?_); rintro e w1 ⟨rfl, b1⟩; have x1 := HT.out.below b1; have k1 := x1.k8)
      | ((with_reducible refine (HM2.out w1).mono ?_); rintro e w2 ⟨rfl, b2⟩; have x2 := x1.below b2; have k2 := x2.k8; have q2 := x2.res)))
  obtain ⟨o1, o2⟩ := x2.ret (.int .i64 2) (.bool false) (.string ⟨#[]⟩) (.int .i64 0)
  exact bodyPost_ret (res_bk_t rfl _ o1 rfl Tryz.underlying23 rfl (by kernel_rfl)) rfl ⟨rfl, o2⟩
set_option maxHeartbeats 16000000 in
set_option maxRecDepth 100000 in
theorem addc_11tf (S S' : ByteArray) (x x' : Int) (w : World)
    (M1 : ∀ w1, Calls Tryz.prog 14 #[.agg #[.int .i64 1, .bool true, .string S, .int .i64 x]] w1 fun e w' => e = .returned (.bool true) ∧ Below w1.heap.size w1 w')
    (M2 : ∀ w1, Calls Tryz.prog 14 #[.agg #[.int .i64 1, .bool false, .string S', .int .i64 x']] w1 fun e w' => e = .returned (.bool true) ∧ Below w1.heap.size w1 w') :
    Calls Tryz.prog 28 #[.agg #[.int .i64 1, .bool true, .string S, .int .i64 x], .agg #[.int .i64 1, .bool false, .string S', .int .i64 x']] w fun e w' => e = .returned (.tuple #[.agg #[.int .i64 2, .bool false, .string ⟨#[]⟩, .int .i64 0], .int .i64 0]) ∧ Below w.heap.size w w' := by
  have HM1 := Lib.hid M1
  have HM2 := Lib.hid M2
  have HT := Lib.hid (TS.start w (.int .i64 1) (.bool true) (.string S) (.int .i64 x) (.int .i64 1) (.bool false) (.string S') (.int .i64 x'))
  clear M1 M2
  go_enter Tryz.func28, Tryz.ntmps28
  go_wp2_with (first
    | (go_at_call 14; first
      | ((with_reducible refine (HM1.out _).mono ?_); rintro e w1 ⟨rfl, b1⟩; have x1 := HT.out.below b1; have k1 := x1.k8)
      | ((with_reducible refine (HM2.out w1).mono ?_); rintro e w2 ⟨rfl, b2⟩; have x2 := x1.below b2; have k2 := x2.k8; have q2 := x2.res)))
  obtain ⟨o1, o2⟩ := x2.ret (.int .i64 2) (.bool false) (.string ⟨#[]⟩) (.int .i64 0)
  exact bodyPost_ret (res_bk_t rfl _ o1 rfl Tryz.underlying23 rfl (by kernel_rfl)) rfl ⟨rfl, o2⟩
set_option maxHeartbeats 16000000 in
set_option maxRecDepth 100000 in
theorem addc_11tt (S S' : ByteArray) (x x' : Int) (w : World)
    (M1 : ∀ w1, Calls Tryz.prog 14 #[.agg #[.int .i64 1, .bool true, .string S, .int .i64 x]] w1 fun e w' => e = .returned (.bool true) ∧ Below w1.heap.size w1 w')
    (M2 : ∀ w1, Calls Tryz.prog 14 #[.agg #[.int .i64 1, .bool true, .string S', .int .i64 x']] w1 fun e w' => e = .returned (.bool true) ∧ Below w1.heap.size w1 w') :
    Calls Tryz.prog 28 #[.agg #[.int .i64 1, .bool true, .string S, .int .i64 x], .agg #[.int .i64 1, .bool true, .string S', .int .i64 x']] w fun e w' => e = .returned (.tuple #[.agg #[.int .i64 1, .bool true, .string S, .int .i64 x], .int .i64 0]) ∧ Below w.heap.size w w' := by
  have HM1 := Lib.hid M1
  have HM2 := Lib.hid M2
  have HT := Lib.hid (TS.start w (.int .i64 1) (.bool true) (.string S) (.int .i64 x) (.int .i64 1) (.bool true) (.string S') (.int .i64 x'))
  clear M1 M2
  go_enter Tryz.func28, Tryz.ntmps28
  go_wp2_with (first
    | (go_at_call 14; first
      | ((with_reducible refine (HM1.out _).mono ?_); rintro e w1 ⟨rfl, b1⟩; have x1 := HT.out.below b1; have k1 := x1.k8)
      | ((with_reducible refine (HM2.out w1).mono ?_); rintro e w2 ⟨rfl, b2⟩; have x2 := x1.below b2; have k2 := x2.k8; have q2 := x2.res)))
  obtain ⟨o1, o2⟩ := x2.ret (.int .i64 1) (.bool true) (.string S) (.int .i64 x)
  exact bodyPost_ret (res_bk_t rfl _ o1 rfl Tryz.underlying23 rfl (by kernel_rfl)) rfl ⟨rfl, o2⟩
set_option maxHeartbeats 16000000 in
set_option maxRecDepth 100000 in
theorem addc_zzf (g' : Bool) (S S' : ByteArray) (x x' : Int) (w : World) (e1 : S.toList.isEmpty = true) (e2 : (S.toList == []) = true) (i1 : S'.toList.isEmpty = true) (i2 : (S'.toList == []) = true)
    (M1 : ∀ w1, Calls Tryz.prog 14 #[.agg #[.int .i64 0, .bool false, .string S, .int .i64 x]] w1 fun e w' => e = .returned (.bool true) ∧ Below w1.heap.size w1 w')
    (M2 : ∀ w1, Calls Tryz.prog 14 #[.agg #[.int .i64 0, .bool g', .string S', .int .i64 x']] w1 fun e w' => e = .returned (.bool true) ∧ Below w1.heap.size w1 w') :
    Calls Tryz.prog 28 #[.agg #[.int .i64 0, .bool false, .string S, .int .i64 x], .agg #[.int .i64 0, .bool g', .string S', .int .i64 x']] w fun e w' => e = .returned (.tuple #[.agg #[.int .i64 0, .bool false, .string ⟨#[]⟩, .int .i64 0], .int .i64 0]) ∧ Below w.heap.size w w' := by
  have HM1 := Lib.hid M1
  have HM2 := Lib.hid M2
  have HT := Lib.hid (TS.start w (.int .i64 0) (.bool false) (.string S) (.int .i64 x) (.int .i64 0) (.bool g') (.string S') (.int .i64 x'))
  clear M1 M2
  go_enter Tryz.func28, Tryz.ntmps28
  go_wp2_with (first
    | (go_at_call 14; first
      | ((with_reducible refine (HM1.out _).mono ?_); rintro e w1 ⟨rfl, b1⟩; have x1 := HT.out.below b1; have k1 := x1.k8)
      | ((with_reducible refine (HM2.out w1).mono ?_); rintro e w2 ⟨rfl, b2⟩; have x2 := x1.below b2; have k2 := x2.k8; have q2 := x2.res)))
  obtain ⟨o1, o2⟩ := x2.ret (.int .i64 0) (.bool false) (.string ⟨#[]⟩) (.int .i64 0)
  exact bodyPost_ret (res_bk_t rfl _ o1 rfl Tryz.underlying23 rfl (by kernel_rfl)) rfl ⟨rfl, o2⟩
set_option maxHeartbeats 16000000 in
set_option maxRecDepth 100000 in
theorem addc_zzt (g' : Bool) (S S' : ByteArray) (x x' : Int) (w : World) (e1 : S.toList.isEmpty = true) (e2 : (S.toList == []) = true) (i1 : S'.toList.isEmpty = true) (i2 : (S'.toList == []) = true)
    (M1 : ∀ w1, Calls Tryz.prog 14 #[.agg #[.int .i64 0, .bool true, .string S, .int .i64 x]] w1 fun e w' => e = .returned (.bool true) ∧ Below w1.heap.size w1 w')
    (M2 : ∀ w1, Calls Tryz.prog 14 #[.agg #[.int .i64 0, .bool g', .string S', .int .i64 x']] w1 fun e w' => e = .returned (.bool true) ∧ Below w1.heap.size w1 w') :
    Calls Tryz.prog 28 #[.agg #[.int .i64 0, .bool true, .string S, .int .i64 x], .agg #[.int .i64 0, .bool g', .string S', .int .i64 x']] w fun e w' => e = .returned (.tuple #[.agg #[.int .i64 0, .bool g', .string ⟨#[]⟩, .int .i64 0], .int .i64 0]) ∧ Below w.heap.size w w' := by
  have HM1 := Lib.hid M1
  have HM2 := Lib.hid M2
  have HT := Lib.hid (TS.start w (.int .i64 0) (.bool true) (.string S) (.int .i64 x) (.int .i64 0) (.bool g') (.string S') (.int .i64 x'))
  clear M1 M2
  go_enter Tryz.func28, Tryz.ntmps28
  go_wp2_with (first
    | (go_at_call 14; first
      | ((with_reducible refine (HM1.out _).mono ?_); rintro e w1 ⟨rfl, b1⟩; have x1 := HT.out.below b1; have k1 := x1.k8)
      | ((with_reducible refine (HM2.out w1).mono ?_); rintro e w2 ⟨rfl, b2⟩; have x2 := x1.below b2; have k2 := x2.k8; have q2 := x2.res)))
  obtain ⟨o1, o2⟩ := x2.ret (.int .i64 0) (.bool g') (.string ⟨#[]⟩) (.int .i64 0)
  exact bodyPost_ret (res_bk_t rfl _ o1 rfl Tryz.underlying23 rfl (by kernel_rfl)) rfl ⟨rfl, o2⟩
set_option maxHeartbeats 16000000 in
set_option maxRecDepth 100000 in
theorem addc_zp (g g' : Bool) (S S' : ByteArray) (x x' : Int) (w : World) (e1 : S.toList.isEmpty = true) (e2 : (S.toList == []) = true) (i1 : S'.toList.isEmpty = false) (i2 : (S'.toList == []) = false)
    (M1 : ∀ w1, Calls Tryz.prog 14 #[.agg #[.int .i64 0, .bool g, .string S, .int .i64 x]] w1 fun e w' => e = .returned (.bool true) ∧ Below w1.heap.size w1 w')
    (M2 : ∀ w1, Calls Tryz.prog 14 #[.agg #[.int .i64 0, .bool g', .string S', .int .i64 x']] w1 fun e w' => e = .returned (.bool true) ∧ Below w1.heap.size w1 w') :
    Calls Tryz.prog 28 #[.agg #[.int .i64 0, .bool g, .string S, .int .i64 x], .agg #[.int .i64 0, .bool g', .string S', .int .i64 x']] w fun e w' => e = .returned (.tuple #[.agg #[.int .i64 0, .bool g', .string S', .int .i64 x'], .int .i64 0]) ∧ Below w.heap.size w w' := by
  have HM1 := Lib.hid M1
  have HM2 := Lib.hid M2
  have HT := Lib.hid (TS.start w (.int .i64 0) (.bool g) (.string S) (.int .i64 x) (.int .i64 0) (.bool g') (.string S') (.int .i64 x'))
  clear M1 M2
  go_enter Tryz.func28, Tryz.ntmps28
  go_wp2_with (first
    | (go_at_call 14; first
      | ((with_reducible refine (HM1.out _).mono ?_); rintro e w1 ⟨rfl, b1⟩; have x1 := HT.out.below b1; have k1 := x1.k8)
      | ((with_reducible refine (HM2.out w1).mono ?_); rintro e w2 ⟨rfl, b2⟩; have x2 := x1.below b2; have k2 := x2.k8; have q2 := x2.res)))
  obtain ⟨o1, o2⟩ := x2.ret (.int .i64 0) (.bool g') (.string S') (.int .i64 x')
  exact bodyPost_ret (res_bk_t rfl _ o1 rfl Tryz.underlying23 rfl (by kernel_rfl)) rfl ⟨rfl, o2⟩
set_option maxHeartbeats 16000000 in
set_option maxRecDepth 100000 in
theorem addc_pz (g g' : Bool) (S S' : ByteArray) (x x' : Int) (w : World) (e1 : S.toList.isEmpty = false) (e2 : (S.toList == []) = false) (i1 : S'.toList.isEmpty = true) (i2 : (S'.toList == []) = true)
    (M1 : ∀ w1, Calls Tryz.prog 14 #[.agg #[.int .i64 0, .bool g, .string S, .int .i64 x]] w1 fun e w' => e = .returned (.bool true) ∧ Below w1.heap.size w1 w')
    (M2 : ∀ w1, Calls Tryz.prog 14 #[.agg #[.int .i64 0, .bool g', .string S', .int .i64 x']] w1 fun e w' => e = .returned (.bool true) ∧ Below w1.heap.size w1 w') :
    Calls Tryz.prog 28 #[.agg #[.int .i64 0, .bool g, .string S, .int .i64 x], .agg #[.int .i64 0, .bool g', .string S', .int .i64 x']] w fun e w' => e = .returned (.tuple #[.agg #[.int .i64 0, .bool g, .string S, .int .i64 x], .int .i64 0]) ∧ Below w.heap.size w w' := by
  have HM1 := Lib.hid M1
  have HM2 := Lib.hid M2
  have HT := Lib.hid (TS.start w (.int .i64 0) (.bool g) (.string S) (.int .i64 x) (.int .i64 0) (.bool g') (.string S') (.int .i64 x'))
  clear M1 M2
  go_enter Tryz.func28, Tryz.ntmps28
  go_wp2_with (first
    | (go_at_call 14; first
      | ((with_reducible refine (HM1.out _).mono ?_); rintro e w1 ⟨rfl, b1⟩; have x1 := HT.out.below b1; have k1 := x1.k8)
      | ((with_reducible refine (HM2.out w1).mono ?_); rintro e w2 ⟨rfl, b2⟩; have x2 := x1.below b2; have k2 := x2.k8; have q2 := x2.res)))
  obtain ⟨o1, o2⟩ := x2.ret (.int .i64 0) (.bool g) (.string S) (.int .i64 x)
  exact bodyPost_ret (res_bk_t rfl _ o1 rfl Tryz.underlying23 rfl (by kernel_rfl)) rfl ⟨rfl, o2⟩

/-- what dec.Add answers -/
def addV (c : Int) (g : Bool) (l : List UInt8) (x : Int) (c' : Int) (g' : Bool) (l' : List UInt8) (x' : Int) : Array Value × Int :=
  if mayB c g l x = false ∨ mayB c' g' l' x' = false then (dec 0 false [] 0, 52)
  else if c = 2 ∨ c' = 2 ∨ (c = 1 ∧ c' = 1 ∧ g ≠ g') then (dec 2 false [] 0, 0)
  else if c = 1 ∨ (c' = 0 ∧ l' = [] ∧ l ≠ []) then (dec c g l x, 0)
  else if c' = 1 ∨ (l = [] ∧ l' ≠ []) then (dec c' g' l' x', 0)
  else if l = [] then (dec 0 (g && g') [] 0, 0)
  else (oc (decide (sg g (amt l x (min x x')) + sg g' (amt l' x' (min x x')) < 0)) (told (decide (sg g (amt l x (min x x')) + sg g' (amt l' x' (min x x')) < 0)) (sg g (amt l x (min x x')) + sg g' (amt l' x' (min x x'))).natAbs (min x x')),
    oe (told (decide (sg g (amt l x (min x x')) + sg g' (amt l' x' (min x x')) < 0)) (sg g (amt l x (min x x')) + sg g' (amt l' x' (min x x'))).natAbs (min x x')))
theorem may_cls {c : Int} {g : Bool} {l : List UInt8} {x : Int} (h : mayB c g l x = true) : (c = 0 ∨ c = 1 ∨ c = 2) ∧ (c = 2 → g = false) ∧ (c ≠ 0 → l = []) := by
  rw [mayB_iff] at h
  rcases h with ⟨rfl, _, h3⟩ | ⟨rfl, _, _⟩
  · refine ⟨by omega, fun e => ?_, fun _ => rfl⟩
    rcases h3 with h3 | h3 | h3
    · omega
    · omega
    · exact h3.2
  · exact ⟨.inl rfl, fun e => by omega, fun e => absurd rfl e⟩
theorem add_calls (c : Int) (g : Bool) (l : List UInt8) (x : Int) (c' : Int) (g' : Bool) (l' : List UInt8) (x' : Int) (w : World) (hp : Pow w) (hl : l.length ≤ 9223372036854775807) (hl' : l'.length ≤ 9223372036854775807) :
    Calls Tryz.prog 28 #[.agg (dec c g l x), .agg (dec c' g' l' x')] w fun e w' => e = .returned (.tuple #[.agg (addV c g l x c' g' l' x').1, .int .i64 (addV c g l x c' g' l' x').2]) ∧ Below w.heap.size w w' := by
  have M1 := fun w1 => dmay_calls c g l x w1 hl
  have M2 := fun w1 => dmay_calls c' g' l' x' w1 hl'
  obtain ⟨e1, e2⟩ := emp_iff l
  obtain ⟨i1, i2⟩ := emp_iff l'
  unfold addV
  by_cases m1 : mayB c g l x = false
  · rw [if_pos (.inl m1)]
    rw [m1] at M1
    exact addc_m1 c c' g g' ⟨l.toArray⟩ ⟨l'.toArray⟩ x x' w M1
  have m1 : mayB c g l x = true := by simpa using m1
  rw [m1] at M1
  by_cases m2 : mayB c' g' l' x' = false
  · rw [if_pos (.inr m2)]
    rw [m2] at M2
    exact addc_m2 c c' g g' ⟨l.toArray⟩ ⟨l'.toArray⟩ x x' w M1 M2
  have m2 : mayB c' g' l' x' = true := by simpa using m2
  rw [m2] at M2
  rw [if_neg (by rw [m1, m2]; rintro (h | h) <;> cases h)]
  obtain ⟨k1, _, z1⟩ := may_cls m1
  obtain ⟨k2, _, z2⟩ := may_cls m2
  by_cases h2 : c = 2
  · subst h2
    rw [if_pos (.inl rfl)]
    exact addc_n1 c' g g' ⟨l.toArray⟩ ⟨l'.toArray⟩ x x' w M1 M2
  by_cases h2' : c' = 2
  · subst h2'
    rw [if_pos (.inr (.inl rfl))]
    exact addc_n2 c g g' ⟨l.toArray⟩ ⟨l'.toArray⟩ x x' w (by omega) M1 M2
  by_cases h1 : c = 1
  · subst h1
    by_cases h1' : c' = 1
    · subst h1'
      cases g <;> cases g'
      · exact addc_11ff ⟨l.toArray⟩ ⟨l'.toArray⟩ x x' w M1 M2
      · exact addc_11ft ⟨l.toArray⟩ ⟨l'.toArray⟩ x x' w M1 M2
      · exact addc_11tf ⟨l.toArray⟩ ⟨l'.toArray⟩ x x' w M1 M2
      · exact addc_11tt ⟨l.toArray⟩ ⟨l'.toArray⟩ x x' w M1 M2
    · obtain rfl : c' = 0 := by omega
      rw [if_neg (by omega), if_pos (.inl rfl)]
      exact addc_10 g g' ⟨l.toArray⟩ ⟨l'.toArray⟩ x x' w M1 M2
  obtain rfl : c = 0 := by omega
  by_cases h1' : c' = 1
  · subst h1'
    rw [if_neg (by omega), if_neg (by rintro (h | h) <;> omega), if_pos (.inl rfl)]
    exact addc_01 g g' ⟨l.toArray⟩ ⟨l'.toArray⟩ x x' w M1 M2
  obtain rfl : c' = 0 := by omega
  rw [if_neg (by omega)]
  by_cases hl0 : l = []
  · rw [decide_eq_true hl0] at e1 e2
    rw [if_neg (by rintro (h | h); omega; exact h.2.2 hl0)]
    by_cases hl1 : l' = []
    · rw [decide_eq_true hl1] at i1 i2
      rw [if_neg (by rintro (h | h); omega; exact h.2 hl1), if_pos hl0]
      cases g
      · exact addc_zzf g' ⟨l.toArray⟩ ⟨l'.toArray⟩ x x' w e1 e2 i1 i2 M1 M2
      · exact addc_zzt g' ⟨l.toArray⟩ ⟨l'.toArray⟩ x x' w e1 e2 i1 i2 M1 M2
    · rw [decide_eq_false hl1] at i1 i2
      rw [if_pos (.inr ⟨hl0, hl1⟩)]
      exact addc_zp g g' ⟨l.toArray⟩ ⟨l'.toArray⟩ x x' w e1 e2 i1 i2 M1 M2
  · rw [decide_eq_false hl0] at e1 e2
    by_cases hl1 : l' = []
    · rw [decide_eq_true hl1] at i1 i2
      rw [if_pos (.inr ⟨rfl, hl1, hl0⟩)]
      exact addc_pz g g' ⟨l.toArray⟩ ⟨l'.toArray⟩ x x' w e1 e2 i1 i2 M1 M2
    · rw [if_neg (by rintro (h | h); omega; exact hl1 h.2.1), if_neg (by rintro (h | h); omega; exact hl0 h.1), if_neg hl0]
      obtain ⟨_, hF, hf⟩ := may_str m1 hl0
      obtain ⟨_, hF', hf'⟩ := may_str m2 hl1
      exact add_both g g' l l' x x' _ w hp hF hF' hf hf' rfl
end Go.Proofs.YtkanddmihmdagaaGreatDoor.Dc
