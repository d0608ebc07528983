/- Texts of one layer, joined: Ra, Rb, Rc, Rd, Re, Rf, Rg, Rh, Ri, Rj, Rk. -/
import Derived.Test.YtkanddmihmdagaaGreatDoorGB
import Derived.Laws.BitsLemmas
import Derived.Laws.BitsAllLaws
import Derived.Test.YtkanddmihmdagaaGreatDoorGR
set_option linter.unusedVariables false
set_option linter.unusedSimpArgs false
set_option linter.unusedSectionVars false
/- The document's answer of layer 1 (package quipuref01), digits of sixteen bits: trim, Same. -/
namespace Go.Proofs.YtkanddmihmdagaaGreatDoor.Rf
open Go.RowKit Go.Proofs.YtkanddmihmdagaaGreatDoor.Dig Go.Proofs.YtkanddmihmdagaaGreatDoor.W Go.Proofs.YtkanddmihmdagaaGreatDoor.Nat

/-- What a function hands back, in memory of its own. -/
def GivesF (w : World) (k : IntKind) (l : List Nat) (e : Ending) (w' : World) : Prop := ∃ A n c, e = .returned (.slice A n c) ∧ SI w' k A n c l ∧ (∀ b o s, A = some ⟨b, o, s⟩ → w.heap.size ≤ b) ∧ Below w.heap.size w w'
theorem GivesF.gives {w w' : World} {k : IntKind} {l : List Nat} {e : Ending} (h : GivesF w k l e w') : Gives w k l e w' := by
  obtain ⟨A, n, c, he, hs, _, hb⟩ := h
  exact ⟨A, n, c, he, hs, hb⟩
theorem own_from {w : World} {base n c : Nat} {e : TypeId} {k : IntKind} {A : Option Addr} {l : List Nat} (h : Ow w base e k (.slice A n c) l) : ∀ b o s, A = some ⟨b, o, s⟩ → base ≤ b := by
  intro b o s hA
  subst hA
  rcases h.2 with ⟨h1, _⟩ | ⟨g, cap, cur, hv, hb, _⟩
  · injection h1 with e1; cases e1
  · injection hv with e1
    injection e1 with e1
    injection e1 with e1
    omega
theorem fresh_new (m : Nat) : ∀ b o s, (some ⟨m, 0, none⟩ : Option Addr) = some ⟨b, o, s⟩ → m ≤ b := by
  intro b o s e
  injection e with e
  injection e with e
  omega
/-- The base of the document's digits. -/
def V : Nat := 65536
theorem V_two : 2 ≤ V := by unfold V; omega
theorem V_pos : 0 < V := by unfold V; omega
theorem V_four : V ^ 4 = U := rfl
theorem info32 : (Tryz.prog.info? 129).map (fun i => (i.zero, i.size, i.bytes)) = some (some (.int .u32 0), 1, 4) := by kernel_rfl
theorem trim_calls (A : Option Addr) (n c : Nat) (l : List Nat) (w : World) (h : SI w .u32 A n c l) :
    Calls Tryz.prog 109 #[.slice A n c] w fun e w' => e = .returned (.slice A (trimN l n) c) ∧ w = w' := by
  have hc := Sl.le h
  have hcm := Sl.cap h
  go_enter Tryz.func109, Tryz.ntmps109
  go_wp2
  go_loop [3] (fun t => ∃ m : Nat, m ≤ n ∧ t = .int .i64 (m : Nat) ∧ trimN l m = trimN l n) (fun t => (intOf t).toNat)
  case atStart => exact ⟨n, Nat.le_refl _, rfl, rfl⟩
  case round =>
    obtain ⟨m, hmx, rfl, ht⟩ := hrel
    have HT := Lib.hid ht
    clear ht
    cases m with
    | zero =>
      go_wp2
      go_ret
      exact ⟨by rw [← HT.out]; rfl, rfl⟩
    | succ m =>
      obtain ⟨b, o, rfl, h1⟩ := h.at_ (j := m) (by omega)
      by_cases h0 : rd l m = 0
      · have hb : (((rd l m : Nat) : Int) == 0) = true := by simp [h0]
        have HE := Lib.hid h0
        clear h0
        go_wp2
        go_round
        case rel => exact ⟨m, by omega, by go_num, by rw [← HT.out]; simp [trimN, HE.out]⟩
        case measure => simp [intOf]
      · have hb : (((rd l m : Nat) : Int) == 0) = false := by simp [h0]
        have HE := Lib.hid h0
        clear h0
        go_wp2
        go_ret
        exact ⟨by rw [← HT.out]; simp [trimN, HE.out], rfl⟩
theorem trim_reads {w : World} {A : Option Addr} {n c : Nat} {l : List Nat} (h : SI w .u32 A n c l) (hl : Lt V l) : SI w .u32 A (trimN l n) c (digs V (val V l)) := by
  have hn := h.len
  have := h.take (m := trimN l n) (trimN_le _ _)
  rw [← hn] at this ⊢
  rwa [trim_digs V_two hl] at this
end Go.Proofs.YtkanddmihmdagaaGreatDoor.Rf

/- The document's answer of layer 1, on: In. -/
namespace Go.Proofs.YtkanddmihmdagaaGreatDoor.Rf
open Go.RowKit Go.Proofs.YtkanddmihmdagaaGreatDoor.Dig Go.Proofs.YtkanddmihmdagaaGreatDoor.W Go.Proofs.YtkanddmihmdagaaGreatDoor.Nat

/-- a digit of a number -/
def dk (x k : Nat) : Nat := x / V ^ k % V
theorem dk_lt (x k : Nat) : dk x k < V := Nat.mod_lt _ V_pos
/-- the digits of a limb -/
def d4 (x : Nat) : List Nat := [dk x 0, dk x 1, dk x 2, dk x 3]
theorem d4_len (x : Nat) : (d4 x).length = 4 := rfl
theorem d4_lt (x : Nat) : Lt V (d4 x) := by
  intro y hy
  simp only [d4, List.mem_cons, List.mem_nil_iff, or_false] at hy
  rcases hy with rfl | rfl | rfl | rfl <;> exact dk_lt _ _
theorem d4_val {x : Nat} (h : x < U) : val V (d4 x) = x := by
  have e1 := Nat.mod_add_div x V
  have e2 := Nat.mod_add_div (x / V) V
  have e3 := Nat.mod_add_div (x / V / V) V
  have h3 : x / V / V / V < V := by
    rw [Nat.div_div_eq_div_mul, Nat.div_div_eq_div_mul]
    exact Nat.div_lt_of_lt_mul h
  have e4 : x / V / V / V % V = x / V / V / V := Nat.mod_eq_of_lt h3
  have p2 : x / V ^ 2 = x / V / V := by rw [Nat.div_div_eq_div_mul, Nat.pow_two]
  have p3 : x / V ^ 3 = x / V / V / V := by rw [Nat.div_div_eq_div_mul, Nat.div_div_eq_div_mul]; rfl
  show x / V ^ 0 % V + V * (x / V ^ 1 % V + V * (x / V ^ 2 % V + V * (x / V ^ 3 % V + V * 0))) = x
  rw [Nat.pow_zero, Nat.div_one, Nat.pow_one, p2, p3, e4, Nat.mul_zero, Nat.add_zero, e3, e2, e1]
theorem mask16 {x : Nat} (h : x < U) : Go.bits .and .u64 (x : Int) 65535 = ((x % 65536 : Nat) : Int) := by
  have := bits_and_u64_nat x 65535 h (by omega)
  rw [show ((65535 : Nat) : Int) = 65535 from rfl] at this
  rw [this, show (65535 : Nat) = 2 ^ 16 - 1 from rfl, Nat.and_two_pow_sub_one_eq_mod]
theorem dk_mask {x : Nat} (h : x < U) (k p : Nat) (hp : p = V ^ k) : Go.bits .and .u64 ((x : Int) / (p : Int)) 65535 = (dk x k : Nat) := by
  subst hp
  rw [show ((x : Int) / ((V ^ k : Nat) : Int)) = ((x / V ^ k : Nat) : Int) from rfl, mask16 (Nat.lt_of_le_of_lt (Nat.div_le_self _ _) h)]
  rfl
theorem dk_32 (x k : Nat) : ((dk x k : Nat) : Int) % 4294967296 = (dk x k : Nat) := by
  have := dk_lt x k
  unfold V at this
  omega
def f4 : List Nat → List Nat
  | [] => []
  | x :: r => d4 x ++ f4 r
theorem f4_append : ∀ l r : List Nat, f4 (l ++ r) = f4 l ++ f4 r
  | [], _ => rfl
  | x :: l, r => by simp only [f4, List.cons_append, f4_append l r]; rfl
theorem f4_len : ∀ l : List Nat, (f4 l).length = 4 * l.length
  | [] => rfl
  | x :: l => by rw [f4, List.length_append, f4_len l, d4_len, List.length_cons]; omega
theorem f4_lt : ∀ l : List Nat, Lt V (f4 l)
  | [] => Lt_nil _
  | x :: l => append_lt (d4_lt x) (f4_lt l)
theorem f4_val : ∀ {l : List Nat}, Lt U l → val V (f4 l) = val U l
  | [], _ => rfl
  | x :: l, h => by
    rw [f4, val_append, d4_val (h x (List.mem_cons_self ..)), d4_len, f4_val (fun y hy => h y (List.mem_cons_of_mem _ hy)), V_four]; rfl
theorem f4_next {l : List Nat} {i : Nat} (h : i < l.length) : f4 (l.take (i + 1)) = f4 (l.take i) ++ d4 (rd l i) := by
  rw [take_succ_rd h, f4_append]; simp [f4]
theorem own_empty32 (w : World) (base : Nat) (hb : base ≤ w.heap.size) : Ow (w.alloc (.cells #[] 129)) base 129 .u32 (.slice (some ⟨w.heap.size, 0, none⟩) 0 0) [] :=
  ⟨rfl, .inr ⟨w.heap.size, 0, #[], rfl, hb, heap_alloc_new w _, Nat.le_refl _, by unfold maxLen; omega, rfl, rfl⟩⟩
theorem lit32 (w : World) (x : Nat) : SI (w.alloc (.cells #[.int .u32 (x : Nat)] 129)) .u32 (some ⟨w.heap.size, 0, none⟩) 1 1 [x] :=
  ⟨rfl, Nat.le_refl _, by omega, fun _ => ⟨w.heap.size, 0, rfl, fun j u hu => by
    rw [World.cell?_alloc_new, Nat.zero_add, ← hu]
    rcases j with _ | j <;> rfl⟩⟩
set_option maxHeartbeats 2000000 in
set_option maxRecDepth 100000 in
theorem in_calls (A : Option Addr) (n c : Nat) (l : List Nat) (w : World) (h : SI w .u64 A n c l) (hl : Lt U l) (hn : n ≤ 4398046511104) :
    Calls Tryz.prog 68 #[.slice A n c] w (GivesF w .u32 (digs V (val U l))) := by
  have hlen := h.len
  have HL := Lib.hid hlen
  clear hlen
  go_enter Tryz.func68, Tryz.ntmps68
  go_wp2
  go_loopw [3, 4] (fun v z wr => ∃ i : Nat, z = .int .i64 (i : Nat) ∧ i ≤ n ∧ Ow wr w.heap.size 129 .u32 v (f4 (l.take i)) ∧ Below w.heap.size w wr) (fun _ z _ => n - (intOf z).toNat)
  case atStart => exact ⟨0, rfl, Nat.zero_le _, own_empty32 w _ (Nat.le_refl _), alloc_below _ _⟩
  case round =>
    obtain ⟨i, rfl, hin, ho, hb⟩ := hrel
    by_cases hlt : i < n
    · have hlen4 : (f4 (l.take i)).length ≤ 4 * i := by rw [f4_len, List.length_take]; omega
      have hnext := f4_next (l := l) (i := i) (by rw [HL.out]; exact hlt)
      have hx : rd l i < U := rd_lt hl U_pos i
      obtain ⟨wo, rfl⟩ : ∃ wo, wo = wr := ⟨_, rfl⟩
      have HN := Lib.hid hnext
      clear hnext
      go_wp2
      go_loopw [3, 5] (fun v z wr => ∃ k : Nat, z = .int .i64 (k : Nat) ∧ k ≤ 4 ∧ Ow wr w.heap.size 129 .u32 v (f4 (l.take i) ++ (d4 (rd l i)).take k) ∧ Below w.heap.size w wr) (fun _ z _ => 4 - (intOf z).toNat)
      case atStart => exact ⟨0, rfl, Nat.zero_le _, by rw [List.take_zero, List.append_nil]; exact ho, hb⟩
      case round =>
        obtain ⟨k, rfl, hk, ho4, hb4⟩ := hrel
        obtain ⟨b, o, rfl, h1⟩ := (h.below hb4).at_ hlt
        rcases (show k = 0 ∨ k = 1 ∨ k = 2 ∨ k = 3 ∨ k = 4 by omega) with rfl | rfl | rfl | rfl | rfl
        · have hm : Go.bits .and .u64 ((rd l i : Nat) : Int) 65535 = (dk (rd l i) 0 : Nat) := by have := dk_mask hx 0 1 rfl; simpa using this
          have hq := dk_32 (rd l i) 0
          go_wp2_with (at_builtin; refine wpList_append_nums _ rfl (.tmp 17) (.tmp 27) 56 rfl w.heap.size 129 .u32 4 Tryz.underlying56 info32 _ _ rfl (ho4.alloc _) _ 1 1 [dk (rd l i) 0] rfl (lit32 wr _) (by rw [List.length_append, List.length_take, d4_len]; omega) (by decide) (hb4.alloc hb4.size _).size ?_; intro v4 w4 hown4 hg4)
          go_roundw
          case rel => exact ⟨1, by go_num, by omega, by rw [List.append_assoc] at hown4; exact hown4, (hb4.alloc hb4.size _).grown hg4 (hb4.alloc hb4.size _).size ho4.base_⟩
          case measure => simp [intOf]
        · have hm : Go.bits .and .u64 (((rd l i : Nat) : Int) / 65536) 65535 = (dk (rd l i) 1 : Nat) := dk_mask hx 1 65536 rfl
          have hq := dk_32 (rd l i) 1
          go_wp2_with (at_builtin; refine wpList_append_nums _ rfl (.tmp 17) (.tmp 27) 56 rfl w.heap.size 129 .u32 4 Tryz.underlying56 info32 _ _ rfl (ho4.alloc _) _ 1 1 [dk (rd l i) 1] rfl (lit32 wr _) (by rw [List.length_append, List.length_take, d4_len]; omega) (by decide) (hb4.alloc hb4.size _).size ?_; intro v4 w4 hown4 hg4)
          go_roundw
          case rel => exact ⟨2, by go_num, by omega, by rw [List.append_assoc] at hown4; exact hown4, (hb4.alloc hb4.size _).grown hg4 (hb4.alloc hb4.size _).size ho4.base_⟩
          case measure => simp [intOf]
        · have hm : Go.bits .and .u64 (((rd l i : Nat) : Int) / 4294967296) 65535 = (dk (rd l i) 2 : Nat) := dk_mask hx 2 4294967296 rfl
          have hq := dk_32 (rd l i) 2
          go_wp2_with (at_builtin; refine wpList_append_nums _ rfl (.tmp 17) (.tmp 27) 56 rfl w.heap.size 129 .u32 4 Tryz.underlying56 info32 _ _ rfl (ho4.alloc _) _ 1 1 [dk (rd l i) 2] rfl (lit32 wr _) (by rw [List.length_append, List.length_take, d4_len]; omega) (by decide) (hb4.alloc hb4.size _).size ?_; intro v4 w4 hown4 hg4)
          go_roundw
          case rel => exact ⟨3, by go_num, by omega, by rw [List.append_assoc] at hown4; exact hown4, (hb4.alloc hb4.size _).grown hg4 (hb4.alloc hb4.size _).size ho4.base_⟩
          case measure => simp [intOf]
        · have hm : Go.bits .and .u64 (((rd l i : Nat) : Int) / 281474976710656) 65535 = (dk (rd l i) 3 : Nat) := dk_mask hx 3 281474976710656 rfl
          have hq := dk_32 (rd l i) 3
          go_wp2_with (at_builtin; refine wpList_append_nums _ rfl (.tmp 17) (.tmp 27) 56 rfl w.heap.size 129 .u32 4 Tryz.underlying56 info32 _ _ rfl (ho4.alloc _) _ 1 1 [dk (rd l i) 3] rfl (lit32 wr _) (by rw [List.length_append, List.length_take, d4_len]; omega) (by decide) (hb4.alloc hb4.size _).size ?_; intro v4 w4 hown4 hg4)
          go_roundw
          case rel => exact ⟨4, by go_num, by omega, by rw [List.append_assoc] at hown4; exact hown4, (hb4.alloc hb4.size _).grown hg4 (hb4.alloc hb4.size _).size ho4.base_⟩
          case measure => simp [intOf]
        · have hall : f4 (l.take i) ++ (d4 (rd l i)).take 4 = f4 (l.take (i + 1)) := by rw [HN.out]; rfl
          rw [hall] at ho4
          go_wp2
          go_roundw
          case rel => exact ⟨i + 1, by go_num, by omega, ho4, hb4⟩
          case measure => simp [intOf]; omega
    · have hall : f4 (l.take i) = f4 l := by rw [List.take_of_length_le (by rw [HL.out]; omega)]
      rw [hall] at ho
      obtain ⟨A', c', rfl, hr⟩ := ho.reads
      have hT := trim_calls _ _ _ _ wr hr
      have hread := trim_reads hr (f4_lt l)
      rw [f4_val hl] at hread
      go_wp2_with (go_at_call 109; (with_reducible refine hT.mono ?_); rintro e w' ⟨rfl, rfl⟩)
      go_ret
      exact ⟨_, _, _, rfl, hread, own_from ho, hb⟩
end Go.Proofs.YtkanddmihmdagaaGreatDoor.Rf

/- The document's answer of layer 1, on: Add. -/
namespace Go.Proofs.YtkanddmihmdagaaGreatDoor.Rf
open Go.RowKit Go.Proofs.YtkanddmihmdagaaGreatDoor.Dig Go.Proofs.YtkanddmihmdagaaGreatDoor.W Go.Proofs.YtkanddmihmdagaaGreatDoor.Nat

def ad (x y c : Nat) : Nat := (x + y + c) % V
def ac (x y c : Nat) : Nat := (x + y + c) / V
theorem ad_lt (x y c : Nat) : ad x y c < V := Nat.mod_lt _ V_pos
theorem ac_le {x y c : Nat} (hx : x < 65536) (hy : y < 65536) (hc : c ≤ 1) : ac x y c ≤ 1 := by
  unfold ac V
  omega
theorem mask16_32 {x : Nat} (h : x < 4294967296) : Go.bits .and .u32 (x : Int) 65535 = ((x % 65536 : Nat) : Int) := by
  have := u32_and_nat x 65535 h (by omega)
  rw [show ((65535 : Nat) : Int) = 65535 from rfl] at this
  rw [this, show (65535 : Nat) = 2 ^ 16 - 1 from rfl, Nat.and_two_pow_sub_one_eq_mod]
theorem ad_mask {x y c : Nat} (hx : x < 65536) (hy : y < 65536) (hc : c ≤ 1) : Go.bits .and .u32 ((c : Int) + (x : Int) + (y : Int)) 65535 = (ad x y c : Nat) := by
  rw [show ((c : Int) + (x : Int) + (y : Int)) = ((x + y + c : Nat) : Int) by omega, mask16_32 (by omega)]; rfl
theorem ac_shr (x y c : Nat) : ((c : Int) + (x : Int) + (y : Int)) / 65536 = (ac x y c : Nat) := by
  unfold ac V
  omega
theorem ad_mask1 {x c : Nat} (hx : x < 65536) (hc : c ≤ 1) : Go.bits .and .u32 ((c : Int) + (x : Int)) 65535 = (ad x 0 c : Nat) ∧ Go.bits .and .u32 ((c : Int) + (x : Int)) 65535 = (ad 0 x c : Nat) := by
  have e := ad_mask hx (show 0 < 65536 by omega) hc
  have e' := ad_mask (show 0 < 65536 by omega) hx hc
  rw [Int.natCast_zero] at e e'
  rw [Int.add_zero] at e e'
  exact ⟨e, e'⟩
theorem ac_shr1 (x c : Nat) : ((c : Int) + (x : Int)) / 65536 = (ac x 0 c : Nat) ∧ ((c : Int) + (x : Int)) / 65536 = (ac 0 x c : Nat) := by
  unfold ac V
  omega
/-- what a round of a sum leaves -/
structure AddI (l l' o : List Nat) (i cc : Nat) : Prop where
  len : o.length = i
  lt : Lt V o
  c1 : cc ≤ 1
  vl : val V o + V ^ i * cc = pv V l i + pv V l' i
theorem AddI.start (l l' : List Nat) : AddI l l' [] 0 0 := ⟨rfl, Lt_nil _, by omega, rfl⟩
theorem AddI.round {l l' o : List Nat} {i cc : Nat} (h : AddI l l' o i cc) (hl : Lt V l) (hl' : Lt V l') : AddI l l' (o ++ [ad (rd l i) (rd l' i) cc]) (i + 1) (ac (rd l i) (rd l' i) cc) := by
  refine ⟨by simp [h.len], snoc_lt h.lt (ad_lt _ _ _), ac_le (rd_lt hl V_pos i) (rd_lt hl' V_pos i) h.c1, ?_⟩
  rw [val_snoc, h.len]
  exact add_round h.vl
theorem AddI.done {l l' o : List Nat} {i cc : Nat} (h : AddI l l' o i cc) (hi : l.length ≤ i) (hi' : l'.length ≤ i) : val V (o ++ [cc]) = val V l + val V l' := by
  rw [val_snoc, h.len, h.vl, pv_all V hi, pv_all V hi']
set_option maxHeartbeats 4000000 in
set_option maxRecDepth 100000 in
theorem add_calls (A A' : Option Addr) (n c n' c' : Nat) (l l' : List Nat) (w : World) (h : SI w .u32 A n c l) (h' : SI w .u32 A' n' c' l') (hl : Lt V l) (hl' : Lt V l') (hn : n ≤ 4398046511104) (hn' : n' ≤ 4398046511104) :
    Calls Tryz.prog 113 #[.slice A n c, .slice A' n' c'] w (GivesF w .u32 (digs V (val V l + val V l'))) := by
  have hL := Lib.hid h.len
  have hL' := Lib.hid h'.len
  go_enter Tryz.func113, Tryz.ntmps113
  go_wp2
  go_loopw [5, 6, 7] (fun v y z wr => ∃ (i cc : Nat) (o : List Nat), z = .int .i64 (i : Nat) ∧ y = .int .u32 (cc : Nat) ∧ i ≤ n + n' ∧ AddI l l' o i cc ∧ Ow wr w.heap.size 129 .u32 v o ∧ Below w.heap.size w wr) (fun _ _ z _ => n + n' - (intOf z).toNat)
  case atStart => exact ⟨0, 0, [], rfl, rfl, Nat.zero_le _, AddI.start _ _, own_empty32 w _ (Nat.le_refl _), alloc_below _ _⟩
  case round =>
    obtain ⟨i, cc, o, rfl, rfl, hin, hI, ho, hb⟩ := hrel
    have hcc := hI.c1
    have hol : o.length ≤ i := Nat.le_of_eq hI.len
    have hx : rd l i < 65536 := rd_lt hl V_pos i
    have hy : rd l' i < 65536 := rd_lt hl' V_pos i
    have hR := hI.round hl hl'
    by_cases h1 : i < n <;> by_cases h2 : i < n'
    · obtain ⟨b, o1, rfl, q1⟩ := (h.below hb).at_ h1
      obtain ⟨b', o2, rfl, q2⟩ := (h'.below hb).at_ h2
      have hm := ad_mask hx hy hcc
      have hs := ac_shr (rd l i) (rd l' i) cc
      go_wp2_with (at_builtin; refine wpList_append_nums _ rfl (.tmp 41) (.tmp 44) 56 rfl w.heap.size 129 .u32 4 Tryz.underlying56 info32 _ _ rfl (ho.alloc _) _ 1 1 [ad (rd l i) (rd l' i) cc] rfl (lit32 wr _) (by omega) (by decide) (hb.alloc hb.size _).size ?_; intro v4 w4 hown4 hg4)
      go_roundw
      case rel => exact ⟨i + 1, _, _, by go_num, rfl, by omega, hR, hown4, (hb.alloc hb.size _).grown hg4 (hb.alloc hb.size _).size ho.base_⟩
      case measure => simp [intOf]; omega
    · obtain ⟨b, o1, rfl, q1⟩ := (h.below hb).at_ h1
      have h0 : rd l' i = 0 := rd_ge (by rw [hL'.out]; omega)
      rw [h0] at hR
      have hm := (ad_mask1 hx hcc).1
      have hs := (ac_shr1 (rd l i) cc).1
      clear h0
      go_wp2_with (at_builtin; refine wpList_append_nums _ rfl (.tmp 41) (.tmp 44) 56 rfl w.heap.size 129 .u32 4 Tryz.underlying56 info32 _ _ rfl (ho.alloc _) _ 1 1 [ad (rd l i) 0 cc] rfl (lit32 wr _) (by omega) (by decide) (hb.alloc hb.size _).size ?_; intro v4 w4 hown4 hg4)
      go_roundw
      case rel => exact ⟨i + 1, _, _, by go_num, rfl, by omega, hR, hown4, (hb.alloc hb.size _).grown hg4 (hb.alloc hb.size _).size ho.base_⟩
      case measure => simp [intOf]; omega
    · obtain ⟨b', o2, rfl, q2⟩ := (h'.below hb).at_ h2
      have h0 : rd l i = 0 := rd_ge (by rw [hL.out]; omega)
      rw [h0] at hR
      have hm := (ad_mask1 hy hcc).2
      have hs := (ac_shr1 (rd l' i) cc).2
      clear h0
      go_wp2_with (at_builtin; refine wpList_append_nums _ rfl (.tmp 41) (.tmp 44) 56 rfl w.heap.size 129 .u32 4 Tryz.underlying56 info32 _ _ rfl (ho.alloc _) _ 1 1 [ad 0 (rd l' i) cc] rfl (lit32 wr _) (by omega) (by decide) (hb.alloc hb.size _).size ?_; intro v4 w4 hown4 hg4)
      go_roundw
      case rel => exact ⟨i + 1, _, _, by go_num, rfl, by omega, hR, hown4, (hb.alloc hb.size _).grown hg4 (hb.alloc hb.size _).size ho.base_⟩
      case measure => simp [intOf]; omega
    · have hv := hI.done (by rw [hL.out]; omega) (by rw [hL'.out]; omega)
      have hlt : Lt V (o ++ [cc]) := snoc_lt hI.lt (by unfold V; omega)
      have HV := Lib.hid hv
      clear hv hR
      go_wp2_with (first
        | (at_builtin; refine wpList_append_nums _ rfl (.tmp 48) (.tmp 50) 56 rfl w.heap.size 129 .u32 4 Tryz.underlying56 info32 _ _ rfl (ho.alloc _) _ 1 1 [cc] rfl (lit32 wr _) (by omega) (by decide) (hb.alloc hb.size _).size ?_; intro v4 w4 hown4 hg4; obtain ⟨A4, n4, c4, rfl, hr4⟩ := hown4.reads_n)
        | (go_at_call 109; (with_reducible refine (trim_calls _ _ _ _ _ hr4).mono ?_); rintro e w' ⟨rfl, rfl⟩))
      go_ret
      have hread := trim_reads hr4 hlt
      rw [HV.out] at hread
      exact ⟨_, _, _, rfl, hread, own_from hown4, (hb.alloc hb.size _).grown hg4 (hb.alloc hb.size _).size ho.base_⟩
end Go.Proofs.YtkanddmihmdagaaGreatDoor.Rf

/- The document's answer of layer 1, on: Cmp. -/
namespace Go.Proofs.YtkanddmihmdagaaGreatDoor.Rf
open Go.RowKit Go.Proofs.YtkanddmihmdagaaGreatDoor.Dig Go.Proofs.YtkanddmihmdagaaGreatDoor.W Go.Proofs.YtkanddmihmdagaaGreatDoor.Nat

theorem cmp_lt {a b : Nat} (h : a < b) : cmp a b = -1 := by unfold cmp; rw [if_pos h]
theorem cmp_gt {a b : Nat} (h : b < a) : cmp a b = 1 := by unfold cmp; rw [if_neg (by omega), if_pos h]
set_option maxHeartbeats 2000000 in
set_option maxRecDepth 100000 in
theorem cmp_calls (A A' : Option Addr) (n c n' c' : Nat) (l l' : List Nat) (w : World) (h : SI w .u32 A n c l) (h' : SI w .u32 A' n' c' l') (hl : Lt V l) (hl' : Lt V l') :
    Calls Tryz.prog 129 #[.slice A n c, .slice A' n' c'] w fun e w' => e = .returned (.int .i64 (cmp (val V l) (val V l'))) ∧ Drawn w w' := by
  have ht := trim_reads h hl
  have ht' := trim_reads h' hl'
  have T := trim_calls A n c l w h
  have T' := trim_calls A' n' c' l' w h'
  have hcap := Sl.cap ht
  have hcap' := Sl.cap ht'
  have hle := Sl.le ht
  have hle' := Sl.le ht'
  have hL := ht.len
  have hL' := ht'.len
  generalize trimN l n = m at *
  generalize trimN l' n' = m' at *
  generalize val V l = a at *
  generalize val V l' = a' at *
  clear h h' hl hl'
  by_cases hm : m = m'
  · subst hm
    have HL := Lib.hid hL
    have HL' := Lib.hid hL'
    clear hL hL'
    have hb : ((m : Int) != (m : Int)) = false := by simp
    go_enter Tryz.func129, Tryz.ntmps129
    go_wp2_with (first
      | (go_at_call 109; first | ((with_reducible refine T.mono ?_); rintro e w' ⟨rfl, rfl⟩) | ((with_reducible refine T'.mono ?_); rintro e w' ⟨rfl, rfl⟩)))
    clear T T'
    go_loopw [5] (fun q wr => ∃ (i : Nat) (z : Int), i ≤ m ∧ q = .int .i64 z ∧ Hid (z + 1 = i) ∧ Hid (∀ j, i ≤ j → j < m → rd (digs V a) j = rd (digs V a') j) ∧ Drawn w wr) (fun q _ => (intOf q + 1).toNat)
    case atStart => exact ⟨m, (m : Int) - 1, Nat.le_refl _, rfl, by unfold Hid; omega, fun j h1 h2 => absurd h2 (by omega), Drawn.refl _⟩
    case round =>
      obtain ⟨i, z, him, rfl, HZ, HE, hd⟩ := hrel
      cases i with
      | zero =>
        obtain rfl : z = -1 := by have := HZ.out; omega
        go_wp2
        go_ret
        have e : digs V a = digs V a' := ext_rd (by rw [HL.out, HL'.out]) (fun j hj => HE.out j (Nat.zero_le _) (by rw [HL.out] at hj; exact hj))
        rw [digs_inj V_two e, cmp_self]
        exact ⟨rfl, hd⟩
      | succ i =>
        obtain rfl : z = (i : Int) := by have := HZ.out; omega
        obtain ⟨b, o, rfl, h1⟩ := (ht.below hd.below).at_ (j := i) (by omega)
        obtain ⟨b', o', rfl, h1'⟩ := (ht'.below hd.below).at_ (j := i) (by omega)
        have key := fun hx => cmp_top V_two (digs_lt V_two a) (digs_lt V_two a') (by rw [HL.out, HL'.out]) i (by rw [HL.out]; omega) (fun j h1 h2 => HE.out j (by omega) (by rw [HL.out] at h2; exact h2)) hx
        rw [val_digs V_two, val_digs V_two] at key
        have KEY := Lib.hid key
        clear key
        rcases Nat.lt_trichotomy (rd (digs V a) i) (rd (digs V a') i) with hx | hx | hx
        · have hb1 : decide (rd (digs V a) i < rd (digs V a') i) = true := decide_eq_true hx
          go_wp2
          go_quiet (fail)
          go_wp2
          go_ret
          rw [KEY.out (by omega), cmp_lt hx]
          exact ⟨rfl, hd.drewN _⟩
        · have hb1 : decide (rd (digs V a) i < rd (digs V a') i) = false := decide_eq_false (by omega)
          have hb2 : decide (rd (digs V a') i < rd (digs V a) i) = false := decide_eq_false (by omega)
          have HX := Lib.hid hx
          have n1 : ¬ rd (digs V a) i < rd (digs V a') i := by omega
          have n2 : ¬ rd (digs V a') i < rd (digs V a) i := by omega
          clear hx
          go_wp2
          go_quiet (fail)
          have hd2 := hd.drewN nq
          have g1 : (wr.drewN nq).cell? _ = _ := h1
          have g1' : (wr.drewN nq).cell? _ = _ := h1'
          generalize wr.drewN nq = w2 at hd2 g1 g1' ⊢
          go_wp2
          go_quiet (fail)
          go_wp2
          go_roundw
          case rel =>
            refine ⟨i, (i : Int) - 1, by omega, rfl, by unfold Hid; omega, fun j h1 h2 => ?_, hd2.drewN _⟩
            rcases Nat.eq_or_lt_of_le h1 with e | e
            · subst e; exact HX.out
            · exact HE.out j (by omega) h2
          case measure => simp [intOf]
        · have hb1 : decide (rd (digs V a) i < rd (digs V a') i) = false := decide_eq_false (by omega)
          have n1 : ¬ rd (digs V a) i < rd (digs V a') i := by omega
          have hb2 : decide (rd (digs V a') i < rd (digs V a) i) = true := decide_eq_true hx
          go_wp2
          go_quiet (fail)
          have hd2 := hd.drewN nq
          have g1 : (wr.drewN nq).cell? _ = _ := h1
          have g1' : (wr.drewN nq).cell? _ = _ := h1'
          generalize wr.drewN nq = w2 at hd2 g1 g1' ⊢
          go_wp2
          go_quiet (fail)
          go_wp2
          go_ret
          rw [KEY.out (by omega), cmp_gt hx]
          exact ⟨rfl, hd2.drewN _⟩
  · have e : cmp a a' = cmp m m' := by
      rw [cmp_len V_two (by rw [hL, hL']; exact hm), hL, hL']
    rw [e]
    have hb : ((m : Int) != (m' : Int)) = true := by simp; omega
    clear e hL hL'
    rcases Nat.lt_or_ge m m' with hx | hx
    · have hb1 : decide (m < m') = true := decide_eq_true hx
      clear hm
      go_enter Tryz.func129, Tryz.ntmps129
      go_wp2_with (first
        | (go_at_call 109; first | ((with_reducible refine T.mono ?_); rintro e w' ⟨rfl, rfl⟩) | ((with_reducible refine T'.mono ?_); rintro e w' ⟨rfl, rfl⟩)))
      go_ret
      rw [cmp_lt hx]
      exact ⟨rfl, Drawn.refl _⟩
    · have hb1 : decide (m < m') = false := decide_eq_false (by omega)
      have hx2 : m' < m := by omega
      have n1 : ¬ m < m' := by omega
      clear hm hx
      go_enter Tryz.func129, Tryz.ntmps129
      go_wp2_with (first
        | (go_at_call 109; first | ((with_reducible refine T.mono ?_); rintro e w' ⟨rfl, rfl⟩) | ((with_reducible refine T'.mono ?_); rintro e w' ⟨rfl, rfl⟩)))
      go_ret
      rw [cmp_gt hx2]
      exact ⟨rfl, Drawn.refl _⟩
end Go.Proofs.YtkanddmihmdagaaGreatDoor.Rf

/- The document's answer of layer 1, on: Sub. -/
namespace Go.Proofs.YtkanddmihmdagaaGreatDoor.Rf
open Go.RowKit Go.Proofs.YtkanddmihmdagaaGreatDoor.Dig Go.Proofs.YtkanddmihmdagaaGreatDoor.W Go.Proofs.YtkanddmihmdagaaGreatDoor.Nat

def sd (x y c : Nat) : Nat := (x + V - y - c) % V
def sb (x y c : Nat) : Nat := if x < y + c then 1 else 0
theorem sd_lt (x y c : Nat) : sd x y c < V := Nat.mod_lt _ V_pos
theorem sb_le (x y c : Nat) : sb x y c ≤ 1 := by unfold sb; split <;> omega
theorem sd_mask {x y c : Nat} (hx : x < 65536) (hy : y < 65536) (hc : c ≤ 1) : Go.bits .and .u32 (65536 + (x : Int) - (c : Int) - (y : Int)) 65535 = (sd x y c : Nat) := by
  rw [show (65536 + (x : Int) - (c : Int) - (y : Int)) = ((x + 65536 - y - c : Nat) : Int) by omega, mask16_32 (by omega)]; rfl
theorem sb_shr {x y c : Nat} (hx : x < 65536) (hy : y < 65536) (hc : c ≤ 1) : 1 - (65536 + (x : Int) - (c : Int) - (y : Int)) / 65536 = (sb x y c : Nat) := by
  unfold sb
  split <;> omega
theorem sd_mask0 {x c : Nat} (hx : x < 65536) (hc : c ≤ 1) : Go.bits .and .u32 (65536 + (x : Int) - (c : Int)) 65535 = (sd x 0 c : Nat) := by
  have e := sd_mask hx (show 0 < 65536 by omega) hc
  rw [Int.natCast_zero, Int.sub_zero] at e
  exact e
theorem sb_shr0 {x c : Nat} (hx : x < 65536) (hc : c ≤ 1) : 1 - (65536 + (x : Int) - (c : Int)) / 65536 = (sb x 0 c : Nat) := by
  have e := sb_shr hx (show 0 < 65536 by omega) hc
  rw [Int.natCast_zero, Int.sub_zero] at e
  exact e
structure SubI (l l' o : List Nat) (i br : Nat) : Prop where
  len : o.length = i
  lt : Lt V o
  b1 : br ≤ 1
  vl : val V o + pv V l' i = pv V l i + V ^ i * br
theorem SubI.start (l l' : List Nat) : SubI l l' [] 0 0 := ⟨rfl, Lt_nil _, by omega, rfl⟩
theorem SubI.round {l l' o : List Nat} {i br : Nat} (h : SubI l l' o i br) (hl : Lt V l) (hl' : Lt V l') : SubI l l' (o ++ [sd (rd l i) (rd l' i) br]) (i + 1) (sb (rd l i) (rd l' i) br) := by
  refine ⟨by simp [h.len], snoc_lt h.lt (sd_lt _ _ _), sb_le _ _ _, ?_⟩
  rw [val_snoc, h.len]
  exact sub_round (rd_lt hl V_pos i) (rd_lt hl' V_pos i) h.b1 h.vl
theorem pv_small {l' : List Nat} (hl' : Lt V l') {i : Nat} (h : val V l' < V ^ i) : pv V l' i = val V l' := by
  rcases Nat.lt_or_ge i l'.length with hi | hi
  · have e := val_take_drop V l' i (Nat.le_of_lt hi)
    rw [← pv_take] at e
    rcases Nat.eq_zero_or_pos (val V (l'.drop i)) with h0 | h0
    · rw [h0] at e; omega
    · have : V ^ i * 1 ≤ V ^ i * val V (l'.drop i) := Nat.mul_le_mul_left _ h0
      omega
  · exact pv_all V hi
theorem SubI.done {l l' o : List Nat} {i br : Nat} (h : SubI l l' o i br) (hl : Lt V l) (hl' : Lt V l') (hi : l.length ≤ i) (hle : val V l' ≤ val V l) : val V o = val V l - val V l' := by
  have hv : val V l < V ^ i := by
    have := pv_lt V_pos hl i
    rwa [pv_all V hi] at this
  have hI := h.vl
  rw [pv_all V hi, pv_small hl' (by omega)] at hI
  have ho : val V o < V ^ i := by rw [← h.len]; exact val_lt V_pos h.lt
  exact sub_lin hle ho h.b1 hI
set_option maxHeartbeats 4000000 in
set_option maxRecDepth 100000 in
theorem sub_fresh (A A' : Option Addr) (n c n' c' : Nat) (l l' : List Nat) (w : World) (h : SI w .u32 A n c l) (h' : SI w .u32 A' n' c' l') (hl : Lt V l) (hl' : Lt V l') (hn : n ≤ 4398046511104) (hle : val V l' ≤ val V l) :
    Calls Tryz.prog 130 #[.slice A n c, .slice A' n' c'] w (GivesF w .u32 (digs V (val V l - val V l'))) := by
  have hL := Lib.hid h.len
  have hL' := Lib.hid h'.len
  have hn63 : n' ≤ 9223372036854775807 := Nat.le_trans (Sl.le h') (Sl.cap h')
  go_enter Tryz.func130, Tryz.ntmps130
  go_wp2
  go_loopw [5, 6, 7, 8] (fun v y z _ wr => ∃ (i br : Nat) (o : List Nat), z = .int .i64 (i : Nat) ∧ y = .int .u32 (br : Nat) ∧ i ≤ n ∧ SubI l l' o i br ∧ Ow wr w.heap.size 129 .u32 v o ∧ Below w.heap.size w wr) (fun _ _ z _ _ => n - (intOf z).toNat)
  case atStart => exact ⟨0, 0, [], rfl, rfl, Nat.zero_le _, SubI.start _ _, own_empty32 w _ (Nat.le_refl _), alloc_below _ _⟩
  case round =>
    obtain ⟨i, br, o, rfl, rfl, hin, hI, ho, hb⟩ := hrel
    have hbr := hI.b1
    have hol : o.length ≤ i := Nat.le_of_eq hI.len
    have hx : rd l i < 65536 := rd_lt hl V_pos i
    have hy : rd l' i < 65536 := rd_lt hl' V_pos i
    have hR := hI.round hl hl'
    by_cases h1 : i < n
    · by_cases h2 : i < n'
      · obtain ⟨b, o1, rfl, q1⟩ := (h.below hb).at_ h1
        obtain ⟨b', o2, rfl, q2⟩ := (h'.below hb).at_ h2
        have hm := sd_mask hx hy hbr
        have hs := sb_shr hx hy hbr
        go_wp2_with (at_builtin; refine wpList_append_nums _ rfl (.tmp 33) (.tmp 36) 56 rfl w.heap.size 129 .u32 4 Tryz.underlying56 info32 _ _ rfl (ho.alloc _) _ 1 1 [sd (rd l i) (rd l' i) br] rfl (lit32 wr _) (by omega) (by decide) (hb.alloc hb.size _).size ?_; intro v4 w4 hown4 hg4)
        go_roundw
        case rel => exact ⟨i + 1, _, _, by go_num, rfl, by omega, hR, hown4, (hb.alloc hb.size _).grown hg4 (hb.alloc hb.size _).size ho.base_⟩
        case measure => simp [intOf]; omega
      · obtain ⟨b, o1, rfl, q1⟩ := (h.below hb).at_ h1
        have h0 : rd l' i = 0 := rd_ge (by rw [hL'.out]; omega)
        rw [h0] at hR
        have hm := sd_mask0 hx hbr
        have hs := sb_shr0 hx hbr
        clear h0
        go_wp2_with (at_builtin; refine wpList_append_nums _ rfl (.tmp 33) (.tmp 36) 56 rfl w.heap.size 129 .u32 4 Tryz.underlying56 info32 _ _ rfl (ho.alloc _) _ 1 1 [sd (rd l i) 0 br] rfl (lit32 wr _) (by omega) (by decide) (hb.alloc hb.size _).size ?_; intro v4 w4 hown4 hg4)
        go_roundw
        case rel => exact ⟨i + 1, _, _, by go_num, rfl, by omega, hR, hown4, (hb.alloc hb.size _).grown hg4 (hb.alloc hb.size _).size ho.base_⟩
        case measure => simp [intOf]; omega
    · have hv := hI.done hl hl' (by rw [hL.out]; omega) hle
      have hlt := hI.lt
      have HV := Lib.hid hv
      obtain ⟨A4, n4, c4, rfl, hr4⟩ := ho.reads_n
      have HO := own_from ho
      have hread := trim_reads hr4 hlt
      rw [HV.out] at hread
      have HR := Lib.hid hread
      clear hv hR hread
      go_wp2_with (go_at_call 109; (with_reducible refine (trim_calls _ _ _ _ _ hr4).mono ?_); rintro e w' ⟨rfl, rfl⟩)
      go_ret
      exact ⟨_, _, _, rfl, HR.out, HO, hb⟩
theorem sub_calls (A A' : Option Addr) (n c n' c' : Nat) (l l' : List Nat) (w : World) (h : SI w .u32 A n c l) (h' : SI w .u32 A' n' c' l') (hl : Lt V l) (hl' : Lt V l') (hn : n ≤ 4398046511104) (hle : val V l' ≤ val V l) :
    Calls Tryz.prog 130 #[.slice A n c, .slice A' n' c'] w (Gives w .u32 (digs V (val V l - val V l'))) :=
  (sub_fresh A A' n c n' c' l l' w h h' hl hl' hn hle).mono fun _ _ h => h.gives
end Go.Proofs.YtkanddmihmdagaaGreatDoor.Rf

/- The document's answer of layer 1, on: Mul. -/
namespace Go.Proofs.YtkanddmihmdagaaGreatDoor.Rf
open Go.RowKit Go.Proofs.YtkanddmihmdagaaGreatDoor.Dig Go.Proofs.YtkanddmihmdagaaGreatDoor.W Go.Proofs.YtkanddmihmdagaaGreatDoor.Nat

def mx (x y c o : Nat) : Nat := (o + x * y + c) % V
def my (x y c o : Nat) : Nat := (o + x * y + c) / V
theorem mx_lt (x y c o : Nat) : mx x y c o < V := Nat.mod_lt _ V_pos
theorem mxy_bound {x y c o : Nat} (hx : x < V) (hy : y < V) (hc : c < V) (ho : o < V) : o + x * y + c < 4294967296 := by
  have h : x * y ≤ 65535 * 65535 := Nat.mul_le_mul (by unfold V at hx; omega) (by unfold V at hy; omega)
  unfold V at hc ho
  omega
theorem mul_step {x y c o : Nat} (hx : x < V) (hy : y < V) (hc : c < V) (ho : o < V) : mx x y c o + V * my x y c o = x * y + c + o ∧ my x y c o < V := by
  have hb := mxy_bound hx hy hc ho
  unfold mx my
  refine ⟨by rw [Nat.mod_add_div]; omega, ?_⟩
  exact Nat.div_lt_of_lt_mul hb
/-- what holds of the row behind some limbs of a -/
structure MulO (l l' out : List Nat) (N j : Nat) : Prop where
  len : out.length = N
  lt : Lt V out
  val : val V out = pv V l j * val V l'
  top : ∀ p, j + l'.length ≤ p → rd out p = 0
/-- and behind some limbs of b, too -/
structure MulI (l l' out : List Nat) (N j k cy : Nat) : Prop where
  len : out.length = N
  lt : Lt V out
  cyl : cy < V
  val : val V out + V ^ (j + k) * cy = pv V l j * val V l' + V ^ j * (rd l j * pv V l' k)
  top : ∀ p, j + l'.length ≤ p → rd out p = 0
theorem MulO.start (l l' : List Nat) (N : Nat) : MulO l l' (List.replicate N 0) N 0 :=
  ⟨List.length_replicate, replicate_lt V_pos N, by rw [val_replicate_zero]; simp [pv], fun p _ => rd_replicate N p⟩
theorem MulO.enter {l l' out : List Nat} {N j : Nat} (h : MulO l l' out N j) : MulI l l' out N j 0 0 :=
  ⟨h.len, h.lt, V_pos, by rw [h.val]; simp [pv], h.top⟩
theorem MulI.round {l l' out : List Nat} {N j k cy : Nat} (h : MulI l l' out N j k cy) (hl : Lt V l) (hl' : Lt V l') (hk : k < l'.length) (hN : j + l'.length ≤ N) :
    MulI l l' (out.set (j + k) (mx (rd l j) (rd l' k) cy (rd out (j + k)))) N j (k + 1) (my (rd l j) (rd l' k) cy (rd out (j + k))) := by
  have hs := mul_step (rd_lt hl V_pos j) (rd_lt hl' V_pos k) h.cyl (rd_lt h.lt V_pos (j + k))
  have hlen : j + k < out.length := by rw [h.len]; omega
  refine ⟨by rw [List.length_set, h.len], set_lt h.lt (mx_lt _ _ _ _), hs.2, ?_, fun p hp => ?_⟩
  · have hv := val_set V hlen (mx (rd l j) (rd l' k) cy (rd out (j + k)))
    have := mul_val (Y := V) h.val (Nat.pow_add V j k) hv hs.1
    rw [← Nat.add_assoc j k 1, Nat.pow_succ V (j + k), pv]
    exact this
  · rw [rd_set hlen, if_neg (by omega)]
    exact h.top p hp
theorem MulI.leave {l l' out : List Nat} {N j cy : Nat} (h : MulI l l' out N j l'.length cy) (hN : j + l'.length < N) : MulO l l' (out.set (j + l'.length) cy) N (j + 1) := by
  have hlen : j + l'.length < out.length := by rw [h.len]; omega
  refine ⟨by rw [List.length_set, h.len], set_lt h.lt h.cyl, ?_, fun p hp => ?_⟩
  · have hv := val_set V hlen cy
    rw [h.top _ (Nat.le_refl _), Nat.mul_zero, Nat.add_zero, h.val, pv_all V (Nat.le_refl _)] at hv
    rw [hv, pv, Nat.add_mul, Nat.mul_assoc]
  · rw [rd_set hlen, if_neg (by omega)]
    exact h.top p (by omega)

theorem below_drewN' {B : Nat} {a w : World} (h : Below B a w) (n : Nat) : Below B a (w.drewN n) := ⟨h.os, h.tape, h.output, h.size, h.block⟩
def sm (x y c o : Nat) : Nat := o + x * y + c
theorem sm_wrap {x y c o : Nat} (hx : x < V) (hy : y < V) (hc : c < V) (ho : o < V) : IntKind.u64.wrap (IntKind.u64.wrap ((o : Int) + IntKind.u64.wrap ((x : Int) * (y : Int))) + (c : Int)) = (sm x y c o : Nat) := by
  have hb := mxy_bound hx hy hc ho
  have e1 : IntKind.u64.wrap ((x : Int) * (y : Int)) = ((x * y : Nat) : Int) := by rw [← Int.natCast_mul, IntKind.wrap_u64]; omega
  rw [e1]
  have e2 : IntKind.u64.wrap ((o : Int) + ((x * y : Nat) : Int)) = ((o + x * y : Nat) : Int) := by rw [IntKind.wrap_u64]; omega
  rw [e2]
  unfold sm
  rw [IntKind.wrap_u64]
  omega
theorem sm_mask {x y c o : Nat} (hx : x < V) (hy : y < V) (hc : c < V) (ho : o < V) : Go.bits .and .u64 ((sm x y c o : Nat) : Int) 65535 = (mx x y c o : Nat) :=
  mask16 (by have := mxy_bound hx hy hc ho; unfold sm U; omega)
theorem sm_shr (x y c o : Nat) : ((sm x y c o : Nat) : Int) / 65536 = (my x y c o : Nat) := by
  unfold sm my V
  omega
theorem v_32 {z : Nat} (h : z < V) : (z : Int) % 4294967296 = (z : Int) := by
  unfold V at h
  omega
theorem rdV {l : List Nat} (h : Lt V l) (i : Nat) : rd l i < 65536 := rd_lt h V_pos i
set_option maxHeartbeats 4000000 in
set_option maxRecDepth 100000 in
theorem mul_calls (A A' : Option Addr) (n c n' c' : Nat) (l l' : List Nat) (w : World) (h : SI w .u32 A n c l) (h' : SI w .u32 A' n' c' l') (hl : Lt V l) (hl' : Lt V l') (hn : n ≤ 4398046511104) (hn' : n' ≤ 4398046511104) :
    Calls Tryz.prog 96 #[.slice A n c, .slice A' n' c'] w (GivesF w .u32 (digs V (val V l * val V l'))) := by
  have hL := Lib.hid h.len
  have hL' := Lib.hid h'.len
  go_enter Tryz.func96, Tryz.ntmps96
  go_wp2_with (first
    | (at_make; refine wpList_make_nums _ rfl (.tmp 14) (.tmp 14) 56 rfl w.heap.size 129 .u32 4 Tryz.underlying56 info32 .i64 .i64 _ _ (n + n') rfl rfl (by simp) (by simp) (by omega) (by omega) (Nat.le_refl _) ?_; intro w1 hown1 hg1))
  have hb1 := grown_below hg1
  go_loopw [6, 7, 8, 9] (fun z _ _ _ wr => ∃ (j : Nat) (out : List Nat), z = .int .i64 (j : Nat) ∧ j ≤ n ∧ MulO l l' out (n + n') j ∧ Ow wr w.heap.size 129 .u32 (.slice (some ⟨w.heap.size, 0, none⟩) (n + n') (n + n')) out ∧ Below w.heap.size w wr) (fun z _ _ _ _ => n - (intOf z).toNat)
  case atStart => exact ⟨0, _, rfl, Nat.zero_le _, MulO.start l l' _, hown1, hb1⟩
  case round =>
    obtain ⟨j, out, rfl, hj, hM, hown, hb⟩ := hrel
    clear hown1 hg1 hb1
    by_cases hlt : j < n
    · obtain ⟨b, o, rfl, h1⟩ := (h.below hb).at_ hlt
      go_wp2
      obtain ⟨wo, rfl⟩ : ∃ wo : World, wo = wr := ⟨_, rfl⟩
      go_loopw [7, 8, 9] (fun cv z _ wr => ∃ (k cy : Nat) (out : List Nat), z = .int .i64 (k : Nat) ∧ cv = .int .u32 (cy : Nat) ∧ k ≤ n' ∧ MulI l l' out (n + n') j k cy ∧ Ow wr w.heap.size 129 .u32 (.slice (some ⟨w.heap.size, 0, none⟩) (n + n') (n + n')) out ∧ Below w.heap.size w wr) (fun _ z _ _ => n' - (intOf z).toNat)
      case atStart => exact ⟨0, 0, out, rfl, rfl, Nat.zero_le _, hM.enter, hown, hb⟩
      case round =>
        clear hown h1 hM hb
        obtain ⟨k, cy, out, rfl, rfl, hk, hM, hown, hb⟩ := hrel
        by_cases hlt' : k < n'
        · obtain ⟨b', o', rfl, h2⟩ := (h'.below hb).at_ hlt'
          obtain ⟨b0, o0, e0, h1⟩ := (h.below hb).at_ hlt
          injection e0 with e0
          injection e0 with e1 e2
          subst e1; subst e2
          have hc := hown.cellAt (j := j + k) (by omega)
          have hf := hown.frozenAt (j + k)
          have hround := hM.round hl hl' (by rw [hL'.out]; exact hlt') (by rw [hL'.out]; omega)
          have g1 : rd l j < V := rdV hl j
          have g2 : rd l' k < V := rdV hl' k
          have g3 : rd out (j + k) < V := rdV hM.lt (j + k)
          have g4 : cy < V := hM.cyl
          have hX := sm_wrap g1 g2 g4 g3
          have hA := sm_mask g1 g2 g4 g3
          have hD := sm_shr (rd l j) (rd l' k) cy (rd out (j + k))
          have hq1 := v_32 (mx_lt (rd l j) (rd l' k) cy (rd out (j + k)))
          have hq2 := v_32 (mul_step g1 g2 g4 g3).2
          have n1 : rd l j < 65536 := g1
          have n2 : rd l' k < 65536 := g2
          have n3 : rd out (j + k) < 65536 := g3
          have n4 : cy < 65536 := g4
          clear g1 g2 g3 g4
          go_wp2
          go_quiet (fail)
          have hown2 := hown.drewN nq
          have hb2 := below_drewN' hb nq
          generalize wr.drewN nq = w2 at hown2 hb2 ⊢
          have hc2 := hown2.cellAt (j := j + k) (by omega)
          have hf2 := hown2.frozenAt (j + k)
          clear hc hf
          go_wp2
          go_roundw
          case rel => exact ⟨k + 1, _, _, by go_num, rfl, by omega, hround, hown2.store _ _, hb2.setCell (by simp) _⟩
          case measure => simp [intOf]; omega
        · obtain rfl : k = n' := by omega
          have hM' : MulI l l' out (n + k) j l'.length cy := by rw [hL'.out]; exact hM
          have hleave := hM'.leave (by rw [hL'.out]; omega)
          rw [hL'.out] at hleave
          have hc := hown.cellAt (j := j + k) (by omega)
          have hf := hown.frozenAt (j + k)
          go_wp2
          go_roundw
          case rel => exact ⟨j + 1, _, by go_num, by omega, hleave, hown.store _ _, hb.setCell (by simp) _⟩
          case measure => simp [intOf]; omega
    · obtain rfl : j = n := by omega
      obtain ⟨Ao, co, hv, hro⟩ := hown.reads
      injection hv with hA hl0 hc0
      subst hA; subst hc0
      rw [← hl0] at hro
      have hfin : val V out = val V l * val V l' := by rw [hM.val, pv_all V (by rw [hL.out]; exact Nat.le_refl _)]
      have hread := trim_reads hro hM.lt
      rw [hfin] at hread
      have HR := Lib.hid hread
      clear hfin hl0 hread
      go_wp2_with (go_at_call 109; (with_reducible refine (trim_calls _ _ _ _ _ hro).mono ?_); rintro e w' ⟨rfl, rfl⟩)
      go_ret
      exact ⟨_, _, _, rfl, HR.out, own_from hown, hb⟩
end Go.Proofs.YtkanddmihmdagaaGreatDoor.Rf

/- The document's answer of layer 1, on: Shl. -/
namespace Go.Proofs.YtkanddmihmdagaaGreatDoor.Rf
open Go.RowKit Go.Proofs.YtkanddmihmdagaaGreatDoor.Dig Go.Proofs.YtkanddmihmdagaaGreatDoor.W Go.Proofs.YtkanddmihmdagaaGreatDoor.Nat

/-- a digit shifted up, with what came from below; its low and its high part -/
def st (x s cy : Nat) : Nat := 2 ^ s * x + cy
def sl (x s cy : Nat) : Nat := st x s cy % V
def sh (x s cy : Nat) : Nat := st x s cy / V
theorem sl_lt (x s cy : Nat) : sl x s cy < V := Nat.mod_lt _ V_pos
theorem pow15 {s : Nat} (hs : s ≤ 15) : 2 ^ s ≤ 32768 := Nat.pow_le_pow_right (n := 2) (by omega) hs
theorem st_bound {x s cy : Nat} (hs : s ≤ 15) (hx : x < V) (hc : cy < 2 ^ s) : st x s cy < 2 ^ s * V := by
  unfold st
  have : 2 ^ s * (x + 1) ≤ 2 ^ s * V := Nat.mul_le_mul_left _ hx
  rw [Nat.mul_add] at this
  omega
theorem st_32 {x s cy : Nat} (hs : s ≤ 15) (hx : x < V) (hc : cy < 2 ^ s) : st x s cy < 4294967296 := by
  have h1 := st_bound hs hx hc
  have h2 : 2 ^ s * V ≤ 32768 * V := Nat.mul_le_mul_right _ (pow15 hs)
  unfold V at h1 h2
  unfold V at *
  omega
theorem sh_lt {x s cy : Nat} (hs : s ≤ 15) (hx : x < V) (hc : cy < 2 ^ s) : sh x s cy < 2 ^ s :=
  Nat.div_lt_of_lt_mul (by rw [Nat.mul_comm]; exact st_bound hs hx hc)
theorem st_wrap {x s cy : Nat} (hs : s ≤ 15) (hx : x < V) (hc : cy < 2 ^ s) : IntKind.u32.wrap ((x : Int) * 2 ^ s) = ((2 ^ s * x : Nat) : Int) := by
  have h := st_32 hs hx hc
  unfold st at h
  rw [show (x : Int) * 2 ^ s = ((2 ^ s * x : Nat) : Int) by rw [Int.natCast_mul, Int.mul_comm]; norm_cast, IntKind.wrap_u32']
  generalize 2 ^ s * x = z at h ⊢
  omega
theorem st_or {x s cy : Nat} (hs : s ≤ 15) (hx : x < V) (hc : cy < 2 ^ s) : Go.bits .or .u32 ((x : Int) * 2 ^ s % 4294967296) (cy : Int) = (st x s cy : Nat) := by
  have h := st_32 hs hx hc
  rw [← IntKind.wrap_u32', st_wrap hs hx hc]
  unfold st at h ⊢
  rw [u32_or_nat _ _ (by omega) (by omega), Nat.two_pow_add_eq_or_of_lt hc]
theorem st_mask {x s cy : Nat} (hs : s ≤ 15) (hx : x < V) (hc : cy < 2 ^ s) : Go.bits .and .u32 ((st x s cy : Nat) : Int) 65535 = (sl x s cy : Nat) := mask16_32 (st_32 hs hx hc)
theorem st_shr (x s cy : Nat) : ((st x s cy : Nat) : Int) / 65536 = (sh x s cy : Nat) := by
  unfold sh V
  omega
structure ShlI (D o : List Nat) (q s i cy : Nat) : Prop where
  len : o.length = q + i
  lt : Lt V o
  cl : cy < 2 ^ s
  vl : val V o + V ^ (q + i) * cy = V ^ q * (2 ^ s * pv V D i)
theorem ShlI.start (D : List Nat) (q s : Nat) : ShlI D (List.replicate q 0) q s 0 0 :=
  ⟨List.length_replicate, replicate_lt V_pos q, Nat.pow_pos (by omega), by rw [val_replicate_zero]; simp [pv]⟩
theorem ShlI.round {D o : List Nat} {q s i cy : Nat} (h : ShlI D o q s i cy) (hs : s ≤ 15) (hD : Lt V D) : ShlI D (o ++ [sl (rd D i) s cy]) q s (i + 1) (sh (rd D i) s cy) := by
  have hx : rd D i < V := rd_lt hD V_pos i
  refine ⟨by simp [h.len]; omega, snoc_lt h.lt (sl_lt _ _ _), sh_lt hs hx h.cl, ?_⟩
  have e : sl (rd D i) s cy + V * sh (rd D i) s cy = 2 ^ s * rd D i + cy := Nat.mod_add_div _ _
  rw [val_snoc, h.len, ← Nat.add_assoc q i 1, Nat.pow_succ V (q + i), Nat.mul_assoc, Nat.add_assoc, ← Nat.mul_add, e, Nat.mul_add, pv, Nat.mul_add, Nat.mul_add]
  have e2 : V ^ (q + i) * (2 ^ s * rd D i) = V ^ q * (2 ^ s * (V ^ i * rd D i)) := by
    rw [Nat.pow_add, Nat.mul_assoc]
    congr 1
    rw [← Nat.mul_assoc, Nat.mul_comm (V ^ i), Nat.mul_assoc]
  rw [e2, ← h.vl]
  omega
theorem V_pow : V = 2 ^ 16 := rfl
theorem ShlI.done {D o : List Nat} {k i cy : Nat} (h : ShlI D o (k / 16) (k % 16) i cy) (hi : D.length ≤ i) : val V (o ++ [cy]) = val V D * 2 ^ k := by
  rw [val_snoc, h.len, h.vl, pv_all V hi, ← Nat.mul_assoc, Nat.mul_comm]
  congr 1
  rw [V_pow, ← Nat.pow_mul, ← Nat.pow_add, Nat.div_add_mod]
end Go.Proofs.YtkanddmihmdagaaGreatDoor.Rf

/- The document's answer of layer 1, on: DivMod, bit by bit. -/
namespace Go.Proofs.YtkanddmihmdagaaGreatDoor.Rf
open Go.RowKit Go.Proofs.YtkanddmihmdagaaGreatDoor.Dig Go.Proofs.YtkanddmihmdagaaGreatDoor.W Go.Proofs.YtkanddmihmdagaaGreatDoor.Nat

theorem rd_val {B : Nat} (hB : 0 < B) : ∀ {xs : List Nat}, (∀ x ∈ xs, x < B) → ∀ i, rd xs i = val B xs / B ^ i % B
  | [], _, i => by rw [val_nil, Nat.zero_div, Nat.zero_mod]; rfl
  | x :: r, h, 0 => by
    rw [rd_cons_zero, Nat.pow_zero, Nat.div_one, val_cons, Nat.add_mul_mod_self_left, Nat.mod_eq_of_lt (h x (List.mem_cons_self ..))]
  | x :: r, h, i + 1 => by
    rw [rd_cons_succ, rd_val hB (fun y hy => h y (List.mem_cons_of_mem _ hy)) i, val_cons, Nat.pow_succ, Nat.mul_comm (B ^ i) B, ← Nat.div_div_eq_div_mul, Nat.add_mul_div_left _ _ hB, Nat.div_eq_of_lt (h x (List.mem_cons_self ..)), Nat.zero_add]
theorem V_split {s : Nat} (hs : s ≤ 15) : V = 2 ^ s * (2 * 2 ^ (15 - s)) := by
  rw [V_pow, ← Nat.pow_succ', ← Nat.pow_add]; congr 1; omega
theorem pow_at (i : Nat) : V ^ (i / 16) * 2 ^ (i % 16) = 2 ^ i := by
  rw [V_pow, ← Nat.pow_mul, ← Nat.pow_add, Nat.div_add_mod]
/-- the bit of a number -/
def bt (N i : Nat) : Nat := N / 2 ^ i % 2
theorem bit_at {l : List Nat} (hl : Lt V l) (i : Nat) : rd l (i / 16) / 2 ^ (i % 16) % 2 = bt (val V l) i := by
  have hs : i % 16 ≤ 15 := by omega
  unfold bt
  rw [rd_val V_pos hl, V_split hs, Nat.mod_mul_right_div_self, Nat.mod_mod_of_dvd _ ⟨_, rfl⟩, ← V_split hs, Nat.div_div_eq_div_mul, pow_at]
structure DivB (N B n : Nat) (Q : List Nat) (i r : Nat) : Prop where
  len : Q.length = n
  lt : Lt V Q
  rr : r = N / 2 ^ i % B
  vl : val V Q = N / 2 ^ i / B * 2 ^ i
theorem DivB.start {N n : Nat} (B : Nat) (h : N < V ^ n) : DivB N B n (List.replicate n 0) (16 * n) 0 := by
  have e : N / 2 ^ (16 * n) = 0 := Nat.div_eq_of_lt (by rw [Nat.pow_mul]; exact h)
  exact ⟨List.length_replicate, replicate_lt V_pos n, by rw [e, Nat.zero_mod], by rw [e, Nat.zero_div, Nat.zero_mul, val_replicate_zero]⟩
theorem tw (q i : Nat) : q * 2 ^ (i + 1) = 2 * q * 2 ^ i := by rw [Nat.pow_succ, Nat.mul_comm (2 ^ i) 2, ← Nat.mul_assoc, Nat.mul_comm q 2]
theorem half_step (N i : Nat) : N / 2 ^ i = 2 * (N / 2 ^ (i + 1)) + bt N i := by
  unfold bt
  rw [Nat.pow_succ, ← Nat.div_div_eq_div_mul]
  omega
theorem DivB.no {N B n i r : Nat} {Q : List Nat} (h : DivB N B n Q (i + 1) r) (hr : 2 * r + bt N i < B) : DivB N B n Q i (2 * r + bt N i) := by
  have hB : 0 < B := by omega
  have e : N / 2 ^ i = 2 * r + bt N i + B * (2 * (N / 2 ^ (i + 1) / B)) := by
    have h1 := Nat.mod_add_div (N / 2 ^ (i + 1)) B
    rw [← h.rr] at h1
    have h2 : B * (2 * (N / 2 ^ (i + 1) / B)) = 2 * (B * (N / 2 ^ (i + 1) / B)) := by rw [Nat.mul_left_comm]
    rw [half_step, h2]
    omega
  refine ⟨h.len, h.lt, ?_, ?_⟩
  · rw [e, Nat.add_mul_mod_self_left, Nat.mod_eq_of_lt hr]
  · rw [e, Nat.add_mul_div_left _ _ hB, Nat.div_eq_of_lt hr, Nat.zero_add, h.vl, tw]
theorem bit_free {N B n i r : Nat} {Q : List Nat} (h : DivB N B n Q (i + 1) r) : rd Q (i / 16) % 2 ^ (i % 16 + 1) = 0 := by
  have hs : i % 16 ≤ 15 := by omega
  have hd : 2 ^ (i % 16 + 1) ∣ V := ⟨2 ^ (15 - i % 16), by rw [← Nat.pow_add, V_pow]; congr 1; omega⟩
  rw [rd_val V_pos h.lt, Nat.mod_mod_of_dvd _ hd, h.vl]
  have e : N / 2 ^ (i + 1) / B * 2 ^ (i + 1) = V ^ (i / 16) * (N / 2 ^ (i + 1) / B * 2 ^ (i % 16 + 1)) := by
    rw [Nat.pow_succ, ← pow_at i, Nat.mul_assoc (V ^ (i / 16)), ← Nat.pow_succ, Nat.mul_left_comm]
  rw [e, Nat.mul_div_cancel_left _ (Nat.pow_pos V_pos), Nat.mul_mod_left]
theorem DivB.yes {N B n i r : Nat} {Q : List Nat} (h : DivB N B n Q (i + 1) r) (hr : B ≤ 2 * r + bt N i) (hB : 0 < B) (hi : i / 16 < n) : DivB N B n (Q.set (i / 16) (rd Q (i / 16) + 2 ^ (i % 16))) i (2 * r + bt N i - B) := by
  have hrB : r < B := by rw [h.rr]; exact Nat.mod_lt _ hB
  have hb : bt N i ≤ 1 := by unfold bt; omega
  have e : N / 2 ^ i = (2 * r + bt N i - B) + B * (2 * (N / 2 ^ (i + 1) / B) + 1) := by
    have h1 := Nat.mod_add_div (N / 2 ^ (i + 1)) B
    rw [← h.rr] at h1
    have h2 : B * (2 * (N / 2 ^ (i + 1) / B) + 1) = 2 * (B * (N / 2 ^ (i + 1) / B)) + B := by rw [Nat.mul_add, Nat.mul_one, Nat.mul_left_comm]
    rw [half_step, h2]
    omega
  have hlt : 2 * r + bt N i - B < B := by omega
  have hs : i % 16 ≤ 15 := by omega
  have hx : rd Q (i / 16) < V := rd_lt h.lt V_pos _
  have hfree := bit_free h
  have hnew : rd Q (i / 16) + 2 ^ (i % 16) < V := by
    have hsp := V_split hs
    have hd := Nat.div_add_mod (rd Q (i / 16)) (2 ^ (i % 16 + 1))
    rw [hfree, Nat.add_zero, Nat.pow_succ] at hd
    have hp := Nat.pow_pos (n := i % 16) (show 0 < 2 by omega)
    have : rd Q (i / 16) / (2 ^ (i % 16) * 2) < 2 ^ (15 - i % 16) := by
      refine Nat.div_lt_of_lt_mul ?_
      rw [Nat.mul_assoc, ← hsp]; exact hx
    have h3 : 2 ^ (i % 16) * 2 * (rd Q (i / 16) / (2 ^ (i % 16) * 2) + 1) ≤ 2 ^ (i % 16) * 2 * 2 ^ (15 - i % 16) := Nat.mul_le_mul_left _ this
    rw [Nat.mul_assoc (2 ^ (i % 16)) 2 (2 ^ (15 - i % 16)), ← hsp, Nat.mul_add, hd] at h3
    omega
  refine ⟨by rw [List.length_set, h.len], set_lt h.lt hnew, ?_, ?_⟩
  · rw [e, Nat.add_mul_mod_self_left, Nat.mod_eq_of_lt hlt]
  · have hv := val_set V (xs := Q) (i := i / 16) (by rw [h.len]; exact hi) (rd Q (i / 16) + 2 ^ (i % 16))
    rw [Nat.mul_add (V ^ (i / 16)), pow_at] at hv
    rw [e, Nat.add_mul_div_left _ _ hB, Nat.div_eq_of_lt hlt, Nat.zero_add, Nat.add_mul, Nat.one_mul]
    have h4 : val V Q = 2 * (N / 2 ^ (i + 1) / B) * 2 ^ i := by
      rw [h.vl, tw]
    rw [← h4]
    omega
theorem DivB.done {N B n r : Nat} {Q : List Nat} (h : DivB N B n Q 0 r) : val V Q = N / B ∧ r = N % B := by
  have h1 := h.vl
  have h2 := h.rr
  rw [Nat.pow_zero, Nat.div_one] at h1 h2
  rw [Nat.mul_one] at h1
  exact ⟨h1, h2⟩
theorem bit_or {x s : Nat} (hs : s ≤ 15) (hx : x < V) (h : x % 2 ^ (s + 1) = 0) : x ||| 2 ^ s = x + 2 ^ s := by
  have e := Nat.div_add_mod x (2 ^ (s + 1))
  rw [h, Nat.add_zero] at e
  have := Nat.two_pow_add_eq_or_of_lt (i := s + 1) (b := 2 ^ s) (by rw [Nat.pow_succ]; have := Nat.pow_pos (n := s) (show 0 < 2 by omega); omega) (x / 2 ^ (s + 1))
  rw [e] at this
  exact this.symm
theorem add1 (A A' : Option Addr) (n c c' r : Nat) (w : World) (h : SI w .u32 A n c (digs V r)) (h' : SI w .u32 A' 1 c' [1]) (hn : n ≤ 4398046511104) :
    Calls Tryz.prog 113 #[.slice A n c, .slice A' 1 c'] w (GivesF w .u32 (digs V (r + 1))) := by
  have e := add_calls A A' n c 1 c' (digs V r) [1] w h h' (digs_lt V_two r) (by intro x hx; simp at hx; subst hx; decide) hn (by omega)
  rw [val_digs V_two] at e
  exact e
theorem cmpd (A A' : Option Addr) (n c n' c' r : Nat) (l' : List Nat) (z : Int) (w : World) (h : SI w .u32 A n c (digs V r)) (h' : SI w .u32 A' n' c' l') (hl' : Lt V l') (hz : Hid (cmp r (val V l') = z)) :
    Calls Tryz.prog 129 #[.slice A n c, .slice A' n' c'] w fun e w' => e = .returned (.int .i64 z) ∧ Drawn w w' := by
  have e := cmp_calls A A' n c n' c' (digs V r) l' w h h' (digs_lt V_two r) hl'
  rw [val_digs V_two, hz.out] at e
  exact e
theorem subd (A A' : Option Addr) (n c n' c' r : Nat) (l' : List Nat) (w : World) (h : SI w .u32 A n c (digs V r)) (h' : SI w .u32 A' n' c' l') (hl' : Lt V l') (hn : n ≤ 4398046511104) (hle : val V l' ≤ r) :
    Calls Tryz.prog 130 #[.slice A n c, .slice A' n' c'] w (GivesF w .u32 (digs V (r - val V l'))) := by
  have e := sub_fresh A A' n c n' c' (digs V r) l' w h h' (digs_lt V_two r) hl' hn (by rw [val_digs V_two]; exact hle)
  rw [val_digs V_two] at e
  exact e
/-- the row of the remainder is short -/
theorem rest_len {w : World} {A : Option Addr} {n c r m : Nat} (h : SI w .u32 A n c (digs V r)) (hr : r < V ^ m) : n ≤ m := by
  rw [← h.len]
  exact (digs_length_le V_two r m).2 hr
theorem bit_int (x s : Nat) : ((x : Int) / 2 ^ s) = ((x / 2 ^ s : Nat) : Int) := by norm_cast
theorem bit_and {x s b : Nat} (hx : x < V) (hb : x / 2 ^ s % 2 = b) : Go.bits .and .u32 ((x : Int) / 2 ^ s) 1 = (b : Nat) := by
  have h1 : x / 2 ^ s < 4294967296 := Nat.lt_of_le_of_lt (Nat.div_le_self _ _) (by unfold V at hx; omega)
  rw [bit_int]
  have := u32_and_nat (x / 2 ^ s) 1 h1 (by omega)
  rw [show ((1 : Nat) : Int) = 1 from rfl] at this
  rw [this, show (1 : Nat) = 2 ^ 1 - 1 from rfl, Nat.and_two_pow_sub_one_eq_mod, Nat.pow_one, hb]
theorem lit32_one (w : World) : SI (w.alloc (.cells #[.int .u32 1] 129)) .u32 (some ⟨w.heap.size, 0, none⟩) 1 1 [1] := lit32 w 1
def xo (x s : Nat) : Nat := x + 2 ^ s
theorem or_bit {x s : Nat} (hs : s ≤ 15) (hx : x < V) (h : x % 2 ^ (s + 1) = 0) : Go.bits .or .u32 (x : Int) (2 ^ s % 4294967296) = (xo x s : Nat) := by
  have hp := pow15 hs
  have h1 := u32_or_nat x (2 ^ s) (by unfold V at hx; omega) (by omega)
  rw [bit_or hs hx h] at h1
  rw [show ((2 : Int) ^ s % 4294967296) = ((2 ^ s : Nat) : Int) by
    rw [show ((2 : Int) ^ s) = ((2 ^ s : Nat) : Int) by norm_cast]
    generalize 2 ^ s = y at hp ⊢
    omega]
  exact h1
theorem si_setFar {w : World} {k : IntKind} {A : Option Addr} {n c g j : Nat} {l : List Nat} (h : SI w k A n c l) (hA : ∀ b o s, A = some ⟨b, o, s⟩ → b ≠ g) (u : Value) : SI (w.setCell ⟨g, j, none⟩ u) k A n c l :=
  ⟨h.1, h.2, h.3, fun hn => by
    obtain ⟨b, o, e, hc⟩ := h.4 hn
    exact ⟨b, o, e, fun i v hv => (World.cell?_setCell_other w ⟨g, j, none⟩ ⟨b, o + i, none⟩ u (fun he => hA b o none e (congrArg Addr.block he).symm)).trans (hc i v hv)⟩⟩
end Go.Proofs.YtkanddmihmdagaaGreatDoor.Rf

/- The document's answer of layer 1, on: DivMod, the walk. -/
namespace Go.Proofs.YtkanddmihmdagaaGreatDoor.Rf
open Go.RowKit Go.Proofs.YtkanddmihmdagaaGreatDoor.Dig Go.Proofs.YtkanddmihmdagaaGreatDoor.W Go.Proofs.YtkanddmihmdagaaGreatDoor.Nat

def GivesQR (w : World) (l l' : List Nat) (e : Ending) (w' : World) : Prop :=
  ∃ A n c A' n' c', e = .returned (.tuple #[.slice A n c, .slice A' n' c']) ∧ SI w' .u32 A n c l ∧ SI w' .u32 A' n' c' l' ∧ (∀ b o s, A = some ⟨b, o, s⟩ → w.heap.size ≤ b) ∧ (∀ b o s, A' = some ⟨b, o, s⟩ → w.heap.size ≤ b) ∧ Below w.heap.size w w'
theorem below_own {w wr : World} {base : Nat} {e : TypeId} {k : IntKind} {v : Value} {l : List Nat} (h : Ow wr base e k v l) {w' : World} (hb : Below wr.heap.size wr w') : Ow w' base e k v l := h.below hb
end Go.Proofs.YtkanddmihmdagaaGreatDoor.Rf

/- The document's answer of layer 1, on: Small, Out. -/
namespace Go.Proofs.YtkanddmihmdagaaGreatDoor.Rf
open Go.RowKit Go.Proofs.YtkanddmihmdagaaGreatDoor.Dig Go.Proofs.YtkanddmihmdagaaGreatDoor.W Go.Proofs.YtkanddmihmdagaaGreatDoor.Nat

def lo16 (x : Nat) : Nat := x % V
def hi16 (x : Nat) : Nat := x / V
theorem lit32_two (w : World) (x y : Nat) : SI (w.alloc (.cells #[.int .u32 (x : Nat), .int .u32 (y : Nat)] 129)) .u32 (some ⟨w.heap.size, 0, none⟩) 2 2 [x, y] :=
  ⟨rfl, Nat.le_refl _, by omega, fun _ => ⟨w.heap.size, 0, rfl, fun j u hu => by
    rw [World.cell?_alloc_new, Nat.zero_add, ← hu]
    rcases j with _ | _ | j <;> rfl⟩⟩
theorem small_calls (x : Nat) (w : World) (hx : x < 4294967296) :
    Calls Tryz.prog 149 #[.int .i64 (x : Nat)] w (GivesF w .u32 (digs V x)) := by
  have ha : Go.bits .and .u32 (x : Int) 65535 = (lo16 x : Nat) := mask16_32 hx
  have hb : (x : Int) / 65536 = (hi16 x : Nat) := by unfold hi16 V; omega
  have hl : Lt V [lo16 x, hi16 x] := by
    intro y hy
    simp only [List.mem_cons, List.mem_nil_iff, or_false] at hy
    rcases hy with rfl | rfl
    · exact Nat.mod_lt _ V_pos
    · exact Nat.div_lt_of_lt_mul hx
  have hv : val V [lo16 x, hi16 x] = x := by
    show lo16 x + V * (hi16 x + V * 0) = x
    rw [Nat.mul_zero, Nat.add_zero]
    exact Nat.mod_add_div x V
  have hr := fun w => trim_reads (lit32_two w (lo16 x) (hi16 x)) hl
  rw [hv] at hr
  have HR := Lib.hid hr
  clear hr hv
  go_enter Tryz.func149, Tryz.ntmps149
  go_wp2_with (go_at_call 109; (with_reducible refine (trim_calls _ _ _ _ _ (lit32_two w (lo16 x) (hi16 x))).mono ?_); rintro e w' ⟨rfl, rfl⟩)
  go_ret
  exact ⟨_, _, _, rfl, HR.out w, fresh_new _, alloc_below _ _⟩
/-- a limb out of its digits -/
def pk (L : List Nat) (j : Nat) : Nat := rd L (4 * j) + V * rd L (4 * j + 1) + V ^ 2 * rd L (4 * j + 2) + V ^ 3 * rd L (4 * j + 3)
def pks (L : List Nat) (m : Nat) : List Nat := (List.range m).map (pk L)
theorem pks_len (L : List Nat) (m : Nat) : (pks L m).length = m := by simp [pks]
theorem pks_succ (L : List Nat) (m : Nat) : pks L (m + 1) = pks L m ++ [pk L m] := by unfold pks; rw [List.range_succ, List.map_append]; rfl
theorem pk_lt {L : List Nat} (h : Lt V L) (j : Nat) : pk L j < U := by
  have a := rd_lt h V_pos (4 * j)
  have b := rd_lt h V_pos (4 * j + 1)
  have c := rd_lt h V_pos (4 * j + 2)
  have d := rd_lt h V_pos (4 * j + 3)
  unfold pk U
  unfold V at *
  omega
theorem pks_lt {L : List Nat} (h : Lt V L) (m : Nat) : Lt U (pks L m) := by
  intro x hx
  unfold pks at hx
  obtain ⟨j, _, rfl⟩ := List.mem_map.1 hx
  exact pk_lt h j
theorem pks_val (L : List Nat) : ∀ m, val U (pks L m) = pv V L (4 * m)
  | 0 => rfl
  | m + 1 => by
    rw [pks_succ, val_snoc, pks_len, pks_val L m, show 4 * (m + 1) = 4 * m + 1 + 1 + 1 + 1 by omega]
    simp only [pv]
    rw [← V_four, ← Nat.pow_mul]
    unfold pk
    simp only [Nat.mul_add, Nat.pow_succ, Nat.pow_zero, Nat.one_mul, Nat.mul_assoc, Nat.add_assoc]
theorem pks_rd (L : List Nat) (m j : Nat) (h : j < m) : rd (pks L m) j = pk L j := by
  unfold rd pks
  rw [List.getD_eq_getElem?_getD, List.getElem?_map, List.getElem?_range h]; rfl
/-- all limbs of a number's digits -/
theorem pks_all {N : Nat} : pks (digs V N) (((digs V N).length + 3) / 4) = digs U N := by
  have hv : val U (pks (digs V N) (((digs V N).length + 3) / 4)) = N := by
    rw [pks_val, pv_all V (by omega), val_digs V_two]
  have := digs_val U_two (xs := pks (digs V N) (((digs V N).length + 3) / 4)) (pks_lt (digs_lt V_two N) _) (fun h => by
    rw [pks_len] at h ⊢
    rw [pks_rd _ _ _ (by omega)]
    have ht := digs_top V_two (n := N) (by omega)
    unfold pk
    generalize hm : (digs V N).length = m at *
    have hp : 0 < V := V_pos
    have hp2 : 0 < V ^ 2 := Nat.pow_pos V_pos
    have hp3 : 0 < V ^ 3 := Nat.pow_pos V_pos
    rcases (show m - 1 = 4 * ((m + 3) / 4 - 1) ∨ m - 1 = 4 * ((m + 3) / 4 - 1) + 1 ∨ m - 1 = 4 * ((m + 3) / 4 - 1) + 2 ∨ m - 1 = 4 * ((m + 3) / 4 - 1) + 3 by omega) with e | e | e | e <;> rw [e] at ht
    · omega
    · have := Nat.mul_pos hp (Nat.pos_of_ne_zero ht); omega
    · have := Nat.mul_pos hp2 (Nat.pos_of_ne_zero ht); omega
    · have := Nat.mul_pos hp3 (Nat.pos_of_ne_zero ht); omega)
  rw [hv] at this
  exact this.symm
end Go.Proofs.YtkanddmihmdagaaGreatDoor.Rf

/- The document's answer of layer 1, on: Out, the walk. -/
namespace Go.Proofs.YtkanddmihmdagaaGreatDoor.Rf
open Go.RowKit Go.Proofs.YtkanddmihmdagaaGreatDoor.Dig Go.Proofs.YtkanddmihmdagaaGreatDoor.W Go.Proofs.YtkanddmihmdagaaGreatDoor.Nat

theorem rd_take_ge {D : List Nat} {i j : Nat} (h : i ≤ j) : rd (D.take i) j = 0 := rd_ge (by rw [List.length_take]; omega)
theorem pk_ext {L L' : List Nat} {j : Nat} (h : ∀ t, t < 4 → rd L (4 * j + t) = rd L' (4 * j + t)) : pk L j = pk L' j := by
  unfold pk
  have h0 := h 0 (by omega)
  rw [Nat.add_zero] at h0
  rw [h0, h 1 (by omega), h 2 (by omega), h 3 (by omega)]
theorem pks_ext {L L' : List Nat} {m : Nat} (h : ∀ j, j < 4 * m → rd L j = rd L' j) : pks L m = pks L' m := by
  unfold pks
  refine List.map_congr_left fun j hj => ?_
  have := List.mem_range.1 hj
  exact pk_ext fun t ht => h _ (by omega)
theorem own_some {w : World} {base : Nat} {e : TypeId} {k : IntKind} {v : Value} {l : List Nat} (h : Ow w base e k v l) (hl : 0 < l.length) : ∃ g c, v = .slice (some ⟨g, 0, none⟩) l.length c ∧ base ≤ g ∧ g < w.heap.size := by
  rcases h.2 with ⟨_, h0⟩ | ⟨g, cap, cur, rfl, hb, hh, _⟩
  · omega
  · exact ⟨g, cap, rfl, hb, (Array.getElem?_eq_some_iff.1 hh).1⟩
/-- the limb that is being filled -/
theorem pk_part (D : List Nat) (j : Nat) : pk (D.take (4 * j)) j = 0 ∧ pk (D.take (4 * j + 1)) j = rd D (4 * j) ∧ pk (D.take (4 * j + 2)) j = rd D (4 * j) + V * rd D (4 * j + 1) ∧
    pk (D.take (4 * j + 3)) j = rd D (4 * j) + V * rd D (4 * j + 1) + V ^ 2 * rd D (4 * j + 2) ∧ pk (D.take (4 * j + 4)) j = rd D (4 * j) + V * rd D (4 * j + 1) + V ^ 2 * rd D (4 * j + 2) + V ^ 3 * rd D (4 * j + 3) := by
  unfold pk
  refine ⟨?_, ?_, ?_, ?_, ?_⟩
  · rw [rd_take_ge (by omega), rd_take_ge (by omega), rd_take_ge (by omega), rd_take_ge (by omega)]; simp only [Nat.mul_zero, Nat.add_zero]
  · rw [rd_take (by omega), rd_take_ge (by omega), rd_take_ge (by omega), rd_take_ge (by omega)]; simp only [Nat.mul_zero, Nat.add_zero]
  · rw [rd_take (by omega), rd_take (by omega), rd_take_ge (by omega), rd_take_ge (by omega)]; simp only [Nat.mul_zero, Nat.add_zero]
  · rw [rd_take (by omega), rd_take (by omega), rd_take (by omega), rd_take_ge (by omega)]; simp only [Nat.mul_zero, Nat.add_zero]
  · rw [rd_take (by omega), rd_take (by omega), rd_take (by omega), rd_take (by omega)]
/-- one round, where the limb stands already -/
theorem pks_set {D : List Nat} {i : Nat} : (pks (D.take i) (i / 4 + 1)).set (i / 4) (pk (D.take (i + 1)) (i / 4)) = pks (D.take (i + 1)) ((i + 1 + 3) / 4) := by
  rw [show (i + 1 + 3) / 4 = i / 4 + 1 by omega, pks_succ, pks_succ, pks_ext (L := D.take i) (L' := D.take (i + 1)) (m := i / 4) (fun j hj => by rw [rd_take (by omega), rd_take (by omega)])]
  rw [List.set_append_right _ _ (by rw [pks_len]; exact Nat.le_refl _), pks_len, Nat.sub_self]
  rfl
theorem pks_new {D : List Nat} {j : Nat} : pks (D.take (4 * j)) ((4 * j + 3) / 4) ++ [0] = pks (D.take (4 * j)) (4 * j / 4 + 1) := by
  rw [show (4 * j + 3) / 4 = j by omega, show 4 * j / 4 = j by omega, pks_succ, (pk_part D j).1]
theorem or_part {x d t : Nat} (hx : x < V ^ t) (hd : d < V) (ht : t ≤ 3) : Go.bits .or .u64 (x : Int) ((d * V ^ t : Nat) : Int) = (x + V ^ t * d : Nat) := by
  have h3 : V ^ t * V ≤ U := by
    rw [← V_four, ← Nat.pow_succ]
    exact Nat.pow_le_pow_right V_pos (by omega)
  have h1 : V ^ t * d + x < U := by
    have : V ^ t * (d + 1) ≤ V ^ t * V := Nat.mul_le_mul_left _ hd
    rw [Nat.mul_add, Nat.mul_one] at this
    omega
  have hor : x ||| d * V ^ t = x + V ^ t * d := by
    have hx' : x < 2 ^ (16 * t) := by rw [Nat.pow_mul]; exact hx
    have e := Nat.two_pow_add_eq_or_of_lt hx' d
    rw [show 2 ^ (16 * t) = V ^ t by rw [Nat.pow_mul]; rfl] at e
    rw [Nat.mul_comm d, Nat.add_comm x, e]
    exact Nat.or_comm _ _
  have := bits_or_u64_nat x (d * V ^ t) (by unfold U at h1; omega) (by rw [Nat.mul_comm]; unfold U at h1; omega)
  rw [hor] at this
  exact this
theorem part_step {D : List Nat} (hD : Lt V D) (j t : Nat) (ht : t ≤ 3) : pk (D.take (4 * j + t)) j < V ^ t ∧ pk (D.take (4 * j + t + 1)) j = pk (D.take (4 * j + t)) j + V ^ t * rd D (4 * j + t) := by
  obtain ⟨p0, p1, p2, p3, p4⟩ := pk_part D j
  have a := rd_lt hD V_pos (4 * j)
  have b := rd_lt hD V_pos (4 * j + 1)
  have c := rd_lt hD V_pos (4 * j + 2)
  rcases (show t = 0 ∨ t = 1 ∨ t = 2 ∨ t = 3 by omega) with rfl | rfl | rfl | rfl
  · rw [Nat.add_zero, p0, p1]; exact ⟨by decide, by rw [Nat.pow_zero, Nat.one_mul, Nat.zero_add]⟩
  · rw [p1, show 4 * j + 1 + 1 = 4 * j + 2 from rfl, p2, Nat.pow_one]; exact ⟨a, rfl⟩
  · rw [p2, show 4 * j + 2 + 1 = 4 * j + 3 from rfl, p3]
    refine ⟨?_, rfl⟩
    unfold V at *
    omega
  · rw [p3, show 4 * j + 3 + 1 = 4 * j + 4 from rfl, p4]
    refine ⟨?_, rfl⟩
    unfold V at *
    omega
theorem or_round {D : List Nat} (hD : Lt V D) {i j t p : Nat} (hi : i = 4 * j + t) (ht : t ≤ 3) (hp : p = V ^ t) : Go.bits .or .u64 ((rd (pks (D.take i) (j + 1)) j : Nat) : Int) (((rd D i : Nat) : Int) * ((p : Nat) : Int)) = (pk (D.take (i + 1)) j : Nat) := by
  subst hi; subst hp
  obtain ⟨h1, h2⟩ := part_step hD j t ht
  rw [pks_rd _ _ _ (by omega), h2, ← Int.natCast_mul]
  exact or_part h1 (rd_lt hD V_pos _) ht
end Go.Proofs.YtkanddmihmdagaaGreatDoor.Rf
