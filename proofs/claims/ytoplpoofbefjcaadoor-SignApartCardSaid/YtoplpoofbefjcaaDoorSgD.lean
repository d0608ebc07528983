/- Layer 19, on: Concat of two, ahead, Affixes. -/
import Derived.Test.YtoplpoofbefjcaaDoorSgC
namespace Go.Proofs.YtoplpoofbefjcaaDoor.Sg
open Go.RowKit Go.Proofs.YtoplpoofbefjcaaDoor.Dig Go.Proofs.YtoplpoofbefjcaaDoor.W

set_option maxHeartbeats 800000 in
theorem concat_calls (g n1 c1 n2 c2 : Nat) (A1 A2 : Option Addr) (l1 l2 : List Tok) (w : World) (h1 : ST w A1 n1 c1 l1) (h2 : ST w A2 n2 c2 l2) (hn : (n1 + n2) * 32 ≤ 140737488355328)
    (g0 : w.cell? ⟨g, 0, none⟩ = some (.slice A1 n1 c1)) (g1 : w.cell? ⟨g, 1, none⟩ = some (.slice A2 n2 c2)) :
    Calls Tryd.prog 32 #[.slice (some ⟨g, 0, none⟩) 2 2] w fun e w' => (∃ v, e = .returned v ∧ OT w' w.heap.size v (l1 ++ l2)) ∧ Below w.heap.size w w' := by
  have HG := grow_calls (n1 + n2) w hn
  rw [Int.natCast_add] at HG
  have e1 := h1.len
  have e2 := h2.len
  have H1 := Lib.hid h1
  have H2 := Lib.hid h2
  clear h1 h2
  go_enter Tryd.func32, Tryd.ntmps32
  go_wp2
  go_loop [3, 5, 11] (fun s _ z => (z = .int .i64 0 ∧ s = .int .i64 0) ∨ (z = .int .i64 1 ∧ s = .int .i64 (n1 : Nat)) ∨ (z = .int .i64 2 ∧ s = .int .i64 ((n1 + n2 : Nat) : Int))) (fun _ _ z => 2 - (intOf z).toNat)
  case atStart => exact .inl ⟨rfl, rfl⟩
  case round =>
    rcases hrel with ⟨rfl, rfl⟩ | ⟨rfl, rfl⟩ | ⟨rfl, rfl⟩
    · clear HG
      go_wp2
      go_round
      case rel => exact .inr (.inl ⟨by go_num, by go_num⟩)
      case measure => simp [intOf]
    · clear HG
      have hx : ¬ ((n1 : Int) + (n2 : Int) < 0) := by omega
      go_wp2
      go_round
      case rel => exact .inr (.inr ⟨by go_num, by go_num⟩)
      case measure => simp [intOf]
    · go_wp2_with (first
        | (go_at_call 35; (with_reducible refine HG.mono ?_); rintro e w2 ⟨⟨v2, rfl, ho2⟩, hb2⟩))
      have q0 := (hb2.cell (World.block_lt_of_cell? w _ g0)).trans g0
      have q1 := (hb2.cell (World.block_lt_of_cell? w _ g1)).trans g1
      clear HG
      go_loopw [6, 8, 27] (fun v _ z wr => ((z = .int .i64 0 ∧ OT wr w.heap.size v []) ∨ (z = .int .i64 1 ∧ OT wr w.heap.size v l1) ∨ (z = .int .i64 2 ∧ OT wr w.heap.size v (l1 ++ l2))) ∧ Below w.heap.size w wr) (fun _ _ z _ => 2 - (intOf z).toNat)
      case atStart => exact ⟨.inl ⟨rfl, ho2⟩, hb2⟩
      case round =>
        clear ho2 q0 q1 hb2
        obtain ⟨hrel, hb⟩ := hrel
        have q0 := (hb.cell (World.block_lt_of_cell? w _ g0)).trans g0
        have q1 := (hb.cell (World.block_lt_of_cell? w _ g1)).trans g1
        rcases hrel with ⟨rfl, ho⟩ | ⟨rfl, ho⟩ | ⟨rfl, ho⟩
        · have hs := H1.out.below hb
          go_wp2_with (at_builtin; refine wpList_append_toks _ rfl (.tmp 31) (.tmp 32) rfl w.heap.size _ [] rfl ho _ n1 c1 l1 rfl hs (by simp; omega) hb.size ?_; intro v4 w4 hown4 hg4; have hb4 : Below w.heap.size w w4 := hb.grown hg4 hb.size (OT.base_ ho))
          go_roundw
          case rel => exact ⟨.inr (.inl ⟨by go_num, hown4⟩), hb4⟩
          case measure => simp [intOf]
        · have hs := H2.out.below hb
          go_wp2_with (at_builtin; refine wpList_append_toks _ rfl (.tmp 31) (.tmp 32) rfl w.heap.size _ l1 rfl ho _ n2 c2 l2 rfl hs (by rw [e1]; omega) hb.size ?_; intro v4 w4 hown4 hg4; have hb4 : Below w.heap.size w w4 := hb.grown hg4 hb.size (OT.base_ ho))
          go_roundw
          case rel => exact ⟨.inr (.inr ⟨by go_num, hown4⟩), hb4⟩
          case measure => simp [intOf]
        · go_wp2
          go_ret
          exact ⟨⟨_, rfl, ho⟩, hb⟩

def tok (k : Int) : Tok := ⟨k, 0, ⟨#[]⟩⟩
theorem ahead_calls (k : Int) (n c : Nat) (A : Option Addr) (l : List Tok) (w : World) (h : ST w A n c l) (hn : (1 + n) * 32 ≤ 140737488355328) :
    Calls Tryd.prog 22 #[.int .i64 k, .slice A n c] w fun e w' => (∃ v, e = .returned v ∧ OT w' w.heap.size v (tok k :: l)) ∧ Below w.heap.size w w' := by
  obtain ⟨w1, hw1⟩ : ∃ w1, w1 = w.alloc (.cells #[.int .i64 k, .int .i64 0, .string ⟨#[]⟩] 35) := ⟨_, rfl⟩
  have hs1 : w1.heap.size = w.heap.size + 1 := by subst hw1; simp
  obtain ⟨w2, hw2⟩ : ∃ w2, w2 = w1.alloc (.cells #[.slice (some ⟨w.heap.size, 0, none⟩) 1 1, .slice A n c] 22) := ⟨_, rfl⟩
  have hb1 : Below w.heap.size w w1 := by subst hw1; exact (Below.refl _ _).alloc (Nat.le_refl _) _
  have hb2 : Below w.heap.size w w2 := by rw [hw2]; exact hb1.alloc (by omega) _
  have hk : ∀ j u, (toks [tok k])[j]? = some u → w2.cell? ⟨w.heap.size, 0 + j, none⟩ = some u := by
    intro j u hu
    rw [hw2, World.cell?_alloc_past _ _ _ (by omega), hw1, World.cell?_alloc_new, Nat.zero_add]
    rw [← hu]
    rcases j with _ | _ | _ | j <;> rfl
  have h1 : ST w2 (some ⟨w.heap.size, 0, none⟩) 1 1 [tok k] := ⟨rfl, Nat.le_refl _, by omega, fun _ => ⟨_, _, rfl, hk⟩⟩
  have g0 : w2.cell? ⟨w1.heap.size, 0, none⟩ = some (.slice (some ⟨w.heap.size, 0, none⟩) 1 1) := by rw [hw2]; exact World.cell?_alloc_new w1 _ _ 0
  have g1 : w2.cell? ⟨w1.heap.size, 1, none⟩ = some (.slice A n c) := by rw [hw2]; exact World.cell?_alloc_new w1 _ _ 1
  have H := concat_calls w1.heap.size 1 1 n c _ A [tok k] l w2 h1 (h.below hb2) hn g0 g1
  rw [hw2, hs1, hw1] at H
  have hz : w.heap.size ≤ w2.heap.size := hb2.size
  rw [hw2, hw1] at hb2 hz
  have HZ := Lib.hid hz
  clear hw1 hw2 hs1 hb1 hk h1 g0 g1 h hz
  go_enter Tryd.func22, Tryd.ntmps22
  go_wp2_with (first
    | (go_at_call 32; (with_reducible refine H.mono ?_); rintro e w' ⟨⟨v, rfl, ho⟩, hb⟩))
  go_ret
  exact ⟨⟨_, rfl, ho.lower HZ.out⟩, hb2.trans (hb.mono HZ.out)⟩
end Go.Proofs.YtoplpoofbefjcaaDoor.Sg
