/- Layer 19, on: the pieces by the document. -/
import Derived.Test.YtoplpoofbefjcaaDoorSgG
namespace Go.Proofs.YtoplpoofbefjcaaDoor.Sg
open Go.RowKit Go.Proofs.YtoplpoofbefjcaaDoor.Dig Go.Proofs.YtoplpoofbefjcaaDoor.W

theorem OP.lower {w : World} {base base' : Nat} {v : Value} {l : List Pc} (h : OP w base v l) (hb : base' ≤ base) : OP w base' v l := by
  obtain ⟨h1, h2⟩ := h
  refine ⟨h1, ?_⟩
  rcases h2 with h2 | ⟨g, cap, cur, hv, hg, r⟩
  · exact .inl h2
  · exact .inr ⟨g, cap, cur, hv, by omega, r⟩
theorem below1 (w : World) (a : Obj) : Below w.heap.size w (w.alloc a) := (Below.refl _ _).alloc (Nat.le_refl _) a
theorem OP.row0 (w : World) (base : Nat) (hb : base ≤ w.heap.size) : OP (w.alloc (.cells #[] 59)) base (.slice (some ⟨w.heap.size, 0, none⟩) 0 0) [] :=
  ⟨rfl, .inr ⟨w.heap.size, 0, #[], rfl, hb, heap_new _ _, Nat.le_refl _, by simp, rfl, rfl⟩⟩
set_option maxHeartbeats 1600000 in
set_option maxRecDepth 100000 in
theorem rpieces_calls (A : Option Addr) (n c : Nat) (l : List Tok) (d0 d1 d2 d3 d4 d5 d6 d7 d8 d9 dc gr : Value) (s : Sy) (ex inf nan ap ra : Value) (coin : ByteArray) (w : World) (h : ST w A n c l) (hn : n * 32 ≤ 140737488355328) :
    Calls Tryd.prog 16 #[.slice A n c, symV d0 d1 d2 d3 d4 d5 d6 d7 d8 d9 dc gr s ex inf nan ap ra, .string coin] w fun e w' => (∃ v, e = .returned v ∧ OP w' w.heap.size v (pieces s coin l)) ∧ Below w.heap.size w w' := by
  have hY : Ys w (w.alloc (symC d0 d1 d2 d3 d4 d5 d6 d7 d8 d9 dc gr s ex inf nan ap ra)) w.heap.size s :=
    ⟨World.cell?_alloc_new w _ _ 12, World.cell?_alloc_new w _ _ 13, World.cell?_alloc_new w _ _ 14, World.cell?_alloc_new w _ _ 15, by simp, (Below.refl _ _).alloc (Nat.le_refl _) _⟩
  have hn63 : n ≤ 9223372036854775807 := by omega
  obtain ⟨g, hg⟩ : ∃ g, w.heap.size = g := ⟨_, rfl⟩
  have HT := Lib.hid h
  clear h
  unfold symC at hY
  unfold symV
  go_enter Tryd.func16, Tryd.ntmps16
  go_wp2
  go_loopw [7, 9, 10, 8] (fun v _ _ z wr => ∃ (i : Nat), z = .int .i64 (i : Nat) ∧ i ≤ n ∧ OP wr (g + 1) v (pieces s coin (l.take i)) ∧ Ys w wr g s) (fun _ _ _ z _ => n - (intOf z).toNat)
  case atStart =>
    have hz : (w.alloc (.cells #[d0, d1, d2, d3, d4, d5, d6, d7, d8, d9, dc, gr, .string s.minus, .string s.plus, .string s.percent, .string s.permille, ex, inf, nan, ap, ra] 40)).heap.size = w.heap.size + 1 := by simp
    refine ⟨0, rfl, Nat.zero_le _, ?_, ?_⟩
    · have := OP.row0 (w.alloc (.cells #[d0, d1, d2, d3, d4, d5, d6, d7, d8, d9, dc, gr, .string s.minus, .string s.plus, .string s.percent, .string s.permille, ex, inf, nan, ap, ra] 40)) (g + 1) (by rw [hz, hg]; omega)
      rw [hz, hg] at this
      exact this
    · rw [← hg]
      exact hY.more ((Below.refl _ _).alloc (by rw [hz]; omega) _)
  case round =>
    clear hY
    obtain ⟨i, rfl, hin, ho, hY⟩ := hrel
    by_cases hlt : i < n
    · obtain ⟨b, o, t, rfl, ht, k1, k2, k3⟩ := (HT.out.below (by rw [hg]; exact hY.bl)).at_ hlt
      have q12 := hY.c12
      have q13 := hY.c13
      have q14 := hY.c14
      have q15 := hY.c15
      have qz := hY.sz
      have hlen : (pieces s coin (l.take i)).length ≤ i := by
        unfold pieces
        refine Nat.le_trans (List.length_filter_le _ _) ?_
        rw [List.length_map, List.length_take]
        exact Nat.min_le_left _ _
      have hnext := pieces_next (s := s) (coin := coin) ht
      have HL := Lib.hid hlen
      have HN := Lib.hid hnext
      clear hnext hlen
      by_cases hk : (¬ t.kind = 0 ∧ ¬ t.kind = 1 ∧ ¬ t.kind = 2 ∧ ¬ t.kind = 3 ∧ ¬ t.kind = 4 ∧ ¬ t.kind = 5)
      · obtain ⟨e0, e1, e2, e3, e4, e5⟩ := hk
        have hp : piece s coin t = ⟨⟨#[]⟩, 0⟩ := by unfold piece; rw [if_neg e0, if_neg e1, if_neg e2, if_neg e3, if_neg e4, if_neg e5]
        have hq : pieces s coin (l.take (i + 1)) = pieces s coin (l.take i) := by rw [HN.out, hp, full_not rfl]; simp
        have HQ := Lib.hid hq
        have HP := Lib.hid hp
        clear hp hq
        go_wp2
        go_roundw
        case rel => exact ⟨i + 1, by go_num, by omega, by rw [HQ.out]; exact ho, hY⟩
        case measure => simp [intOf]; omega
      · obtain ⟨X, f, hp, hkk⟩ : ∃ X f, piece s coin t = ⟨X, f⟩ ∧ ((t.kind = 0 ∧ X = t.text ∧ f = 0) ∨ (t.kind = 1 ∧ X = s.minus ∧ f = 1) ∨ (t.kind = 2 ∧ X = s.plus ∧ f = 1) ∨ (t.kind = 3 ∧ X = s.percent ∧ f = 9) ∨ (t.kind = 4 ∧ X = s.permille ∧ f = 10) ∨ (t.kind = 5 ∧ X = coin ∧ f = 11)) := by
          unfold piece
          rcases (show t.kind = 0 ∨ t.kind = 1 ∨ t.kind = 2 ∨ t.kind = 3 ∨ t.kind = 4 ∨ t.kind = 5 by omega) with e | e | e | e | e | e <;> rw [e] <;> simp
        have HP := Lib.hid hp
        clear hp hk
        by_cases hx : X = ⟨#[]⟩
        · have HQ : Hid (pieces s coin (l.take (i + 1)) = pieces s coin (l.take i)) := by
            have : pieces s coin (l.take (i + 1)) = pieces s coin (l.take i) := by rw [HN.out, HP.out, full_not hx]; simp
            exact this
          rcases hkk with ⟨e, rfl, rfl⟩ | ⟨e, rfl, rfl⟩ | ⟨e, rfl, rfl⟩ | ⟨e, rfl, rfl⟩ | ⟨e, rfl, rfl⟩ | ⟨e, rfl, rfl⟩
          all_goals
            go_wp2
            go_roundw
            case rel => exact ⟨i + 1, by go_num, by omega, by rw [HQ.out]; exact ho, hY⟩
            case measure => simp [intOf]; omega
        · have hxe : X.toList.isEmpty = false := by
            rw [← decide_eq_emptyBytes]
            exact decide_eq_false hx
          have HQ : Hid (pieces s coin (l.take (i + 1)) = pieces s coin (l.take i) ++ [⟨X, f⟩]) := by
            have : pieces s coin (l.take (i + 1)) = pieces s coin (l.take i) ++ [⟨X, f⟩] := by rw [HN.out, HP.out, full_yes hx]; simp
            exact this
          rcases hkk with ⟨e, rfl, rfl⟩ | ⟨e, rfl, rfl⟩ | ⟨e, rfl, rfl⟩ | ⟨e, rfl, rfl⟩ | ⟨e, rfl, rfl⟩ | ⟨e, rfl, rfl⟩
          all_goals
            have hl := HL.out
            go_wp2_with (at_builtin; refine wpList_append_pcs _ rfl (.tmp 51) (.tmp 55) rfl (g + 1) _ _ rfl (ho.below (below1 wr _)) _ 1 1 [⟨_, _⟩] rfl (lit_pc wr _ _) (by omega) (Nat.le_trans qz (below1 wr _).size) ?_; intro v4 w4 hown4 hg4)
            go_roundw
            case rel => exact ⟨i + 1, by go_num, by omega, by rw [HQ.out]; exact hown4, (hY.more ((below1 _ _).mono qz)).more (grown_above hg4 ho qz (below1 _ _).size)⟩
            case measure => simp [intOf]; omega
    · have hall : l.take i = l := List.take_of_length_le (by rw [ST.len HT.out]; omega)
      rw [hall] at ho
      go_wp2
      go_ret
      exact ⟨⟨_, rfl, ho.lower (by omega)⟩, by rw [hg]; exact hY.bl⟩
end Go.Proofs.YtoplpoofbefjcaaDoor.Sg
