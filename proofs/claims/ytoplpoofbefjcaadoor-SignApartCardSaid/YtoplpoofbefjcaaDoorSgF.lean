/- Layer 19, on: pieces. -/
import Derived.Test.YtoplpoofbefjcaaDoorSgE
import Derived.Laws.Closers25
namespace Go.Proofs.YtoplpoofbefjcaaDoor.Sg
open Go.RowKit Go.Proofs.YtoplpoofbefjcaaDoor.Dig Go.Proofs.YtoplpoofbefjcaaDoor.W

/-- a piece -/
structure Pc where
  text : ByteArray
  field : Int
def pcs : List Pc → List Value
  | [] => []
  | t :: r => .string t.text :: .int .i64 t.field :: pcs r
theorem pcs_length : ∀ l : List Pc, (pcs l).length = l.length * 2
  | [] => rfl
  | t :: r => by simp only [pcs, List.length_cons, pcs_length r]; omega
theorem pcs_append : ∀ l r : List Pc, pcs (l ++ r) = pcs l ++ pcs r
  | [], _ => rfl
  | t :: l, r => by simp only [pcs, List.cons_append, pcs_append l r]
theorem pcs_one : ∀ (l : List Pc), ∀ u ∈ pcs l, u.oneCell' = true
  | [], _, h => by cases h
  | t :: r, u, h => by
    simp only [pcs, List.mem_cons] at h
    rcases h with rfl | rfl | h
    · rfl
    · rfl
    · exact pcs_one r u h
theorem infoPc : (Tryd.prog.info? 59).map (fun i => (i.zero, i.size, i.bytes)) = some (some (.agg #[(.string ⟨#[]⟩), (.int .i64 0)]), 2, 24) := by kernel_rfl
def OP (w : World) (base : Nat) (v : Value) (l : List Pc) : Prop := w.ownsRow base 59 2 v l.length (pcs l)
theorem OP.nil (w : World) (base : Nat) : OP w base (.slice none 0 0) [] := ⟨rfl, .inl ⟨rfl, rfl⟩⟩
theorem OP.below {w w' : World} {base : Nat} {v : Value} {l : List Pc} (h : OP w base v l) (hb : Below w.heap.size w w') : OP w' base v l :=
  World.ownsRow.kept h ⟨hb.os, hb.tape, hb.output, hb.size, fun i hi _ => hb.block i hi⟩ (by cases v.ownBlock <;> simp : v.ownBlock = none ∨ v.ownBlock ≠ none)
theorem OP.base_ {w : World} {base : Nat} {v : Value} {l : List Pc} (h : OP w base v l) (g : Nat) (hg : v.ownBlock = some g) : base ≤ g := by
  rcases h.2 with ⟨rfl, _⟩ | ⟨g', cap, cur, rfl, hb, hh, _⟩
  · simp [Value.ownBlock] at hg
  · have : g' = g := by simpa [Value.ownBlock] using hg
    omega
theorem wpList_append_pcs (w : World) {ops : Array Oper} {rest : List Oper} {o : Oper} {a : Act} {Q : Exit → Act → World → Prop} (hgd : o.guard = none) (s x : Operand)
    (ho : o.op = .call { callee := .builtin .append, args := #[s, x], argTypes := #[42, 42] })
    (base : Nat) (v : Value) (l : List Pc) (hs : a.eval s = v) (hown : OP w base v l)
    (A : Option Addr) (m c : Nat) (l' : List Pc) (hx : a.eval x = .slice A m c) (hr : Sl w 2 A m c (pcs l'))
    (hbytes : (l.length + m) * 24 ≤ 140737488355328) (hbase : base ≤ w.heap.size)
    (h : ∀ v' w', OP w' base v' (l ++ l') → w.grownBy w' v.ownBlock → wpList Tryd.prog ops Q rest (a.put o.dst v') w') : wpList Tryd.prog ops Q (o :: rest) a w := by
  obtain ⟨i0, hi0, hz0, hz1, hz2⟩ := info_parts infoPc
  have hm : l'.length = m := by have := Sl.len hr; rw [pcs_length] at this; omega
  refine wpList_plain hgd fun _ hK => wp_append_sl w s x 42 ho base 59 i0 _ 2 24 (by rfl) hi0 hz0 hz1 hz2 rfl (by omega) v _ _ hs hown A m c _ hx hr ?_ ?_ hbytes hbase fun v' w' h2 h3 _ => hK _ _ (h v' w' ?_ h3)
  · exact pcs_one l'
  · unfold maxLen; omega
  · unfold OP
    rw [List.length_append, hm, pcs_append]
    exact h2
/-- a slice of pieces in a block of the call's own -/
def RP (w : World) (base : Nat) (v : Value) (l : List Pc) : Prop :=
  ∃ A c, v = .slice A l.length c ∧ Sl w 2 A l.length c (pcs l) ∧ ∀ b o s, A = some ⟨b, o, s⟩ → base ≤ b ∧ o = 0 ∧ s = none
theorem RP.lower {w : World} {base base' : Nat} {v : Value} {l : List Pc} (h : RP w base v l) (hb : base' ≤ base) : RP w base' v l := by
  obtain ⟨A, c, rfl, hs, hA⟩ := h
  exact ⟨A, c, rfl, hs, fun b o s e => ⟨Nat.le_trans hb (hA b o s e).1, (hA b o s e).2⟩⟩
theorem clip_pcs (v : Value) (base : Nat) (l : List Pc) (w : World) (h : OP w base v l) :
    Calls Tryd.prog 28 #[v] w fun e w' => (∃ v, e = .returned v ∧ RP w' base v l) ∧ w = w' := by
  rcases h.2 with ⟨rfl, h0⟩ | ⟨g, cap, cur, rfl, hb, hh, h1, h2, h3, h4⟩
  · obtain rfl := List.length_eq_zero_iff.1 h0
    go_enter Tryd.func28, Tryd.ntmps28
    go_wp2
    go_ret
    exact ⟨⟨_, rfl, none, 0, rfl, ⟨rfl, Nat.le_refl _, by omega, fun h => absurd h (by simp)⟩, fun b o s e => by cases e⟩, rfl⟩
  · have hs : Sl w 2 (some ⟨g, 0, none⟩) l.length l.length (pcs l) := ⟨pcs_length l, Nat.le_refl _, by unfold maxLen at h2; omega, fun _ => ⟨g, 0, rfl, fun j u hu => by
      have := h.cells (g := g) rfl j u hu
      rwa [add_at] at this⟩⟩
    have h63 : cap ≤ 9223372036854775807 := h2
    have HS := Lib.hid hs
    clear h hh h3 h4 h2 hs
    go_enter Tryd.func28, Tryd.ntmps28
    go_wp2
    go_ret
    exact ⟨⟨_, rfl, _, _, rfl, HS.out, fun b o s e => by injection e with e; injection e with e1 e2 e3; subst e1; exact ⟨hb, e2.symm, e3.symm⟩⟩, rfl⟩
theorem step_append_pcs (w : World) {ops : Array Oper} {o : Oper} {a : Act} {K : Act → World → Prop} {Q : Exit → Act → World → Prop} {E : Prop} (hgd : o.guard = none) (s x : Operand)
    (ho : o.op = .call { callee := .builtin .append, args := #[s, x], argTypes := #[42, 42] })
    (base : Nat) (v : Value) (l : List Pc) (hs : a.eval s = v) (hown : OP w base v l)
    (A : Option Addr) (m c : Nat) (l' : List Pc) (hx : a.eval x = .slice A m c) (hr : Sl w 2 A m c (pcs l'))
    (hbytes : (l.length + m) * 24 ≤ 140737488355328) (hbase : base ≤ w.heap.size)
    (h : ∀ v' w', OP w' base v' (l ++ l') → w.grownBy w' v.ownBlock → K (a.put o.dst v') w') : if Region.wanted o (yielded ops a.tmps) = true then Oper.wp Tryd.prog o a w K Q else E := by
  have hw : Region.wanted o (yielded ops a.tmps) = true := by simp [Region.wanted, hgd]
  rw [if_pos hw]
  obtain ⟨i0, hi0, hz0, hz1, hz2⟩ := info_parts infoPc
  have hm : l'.length = m := by have := Sl.len hr; rw [pcs_length] at this; omega
  refine wp_append_sl w s x 42 ho base 59 i0 _ 2 24 (by rfl) hi0 hz0 hz1 hz2 rfl (by omega) v _ _ hs hown A m c _ hx hr ?_ ?_ hbytes hbase fun v' w' h2 h3 _ => h v' w' ?_ h3
  · exact pcs_one l'
  · unfold maxLen; omega
  · unfold OP
    rw [List.length_append, hm, pcs_append]
    exact h2
theorem OP.reads {w : World} {base : Nat} {v : Value} {l : List Pc} (h : OP w base v l) : ∃ A n c, v = .slice A n c := by
  rcases h.2 with ⟨rfl, _⟩ | ⟨g', cap, cur, rfl, _⟩
  · exact ⟨_, _, _, rfl⟩
  · exact ⟨_, _, _, rfl⟩
/-- the piece lies at p -/
def Pk (w : World) (p : Nat) (x : ByteArray) (f : Int) : Prop := w.cell? ⟨p, 0, none⟩ = some (.string x) ∧ w.cell? ⟨p, 1, none⟩ = some (.int .i64 f)
theorem Pk.start (w : World) (o : Obj) (x : ByteArray) (f : Int) (t : TypeId) : Pk ((w.alloc o).alloc (.cells #[.string x, .int .i64 f] t)) (w.heap.size + 1) x f := by
  have hz : (w.alloc o).heap.size = w.heap.size + 1 := by simp
  unfold Pk
  rw [← hz]
  exact ⟨World.cell?_alloc_new _ _ _ 0, World.cell?_alloc_new _ _ _ 1⟩
theorem Pk.below {w w' : World} {p : Nat} {x : ByteArray} {f : Int} (h : Pk w p x f) (hb : Below w.heap.size w w') : Pk w' p x f :=
  ⟨(hb.cell (World.block_lt_of_cell? w _ h.1)).trans h.1, (hb.cell (World.block_lt_of_cell? w _ h.2)).trans h.2⟩
theorem Pk.grown {w w' : World} {p : Nat} {x : ByteArray} {f : Int} {row : Option Nat} (h : Pk w p x f) (hg : w.grownBy w' row) (hr : some p ≠ row) : Pk w' p x f :=
  ⟨hg.cell h.1 hr, hg.cell h.2 hr⟩
/-- symbols: the texts that count here -/
structure Sy where
  minus : ByteArray
  plus : ByteArray
  percent : ByteArray
  permille : ByteArray
def symV (d0 d1 d2 d3 d4 d5 d6 d7 d8 d9 dc gr : Value) (s : Sy) (ex inf nan ap ra : Value) : Value :=
  .agg #[d0, d1, d2, d3, d4, d5, d6, d7, d8, d9, dc, gr, .string s.minus, .string s.plus, .string s.percent, .string s.permille, ex, inf, nan, ap, ra]
def symC (d0 d1 d2 d3 d4 d5 d6 d7 d8 d9 dc gr : Value) (s : Sy) (ex inf nan ap ra : Value) : Obj :=
  .cells #[d0, d1, d2, d3, d4, d5, d6, d7, d8, d9, dc, gr, .string s.minus, .string s.plus, .string s.percent, .string s.permille, ex, inf, nan, ap, ra] 40
/-- how one token is written -/
def piece (s : Sy) (coin : ByteArray) (t : Tok) : Pc :=
  if t.kind = 0 then ⟨t.text, 0⟩ else if t.kind = 1 then ⟨s.minus, 1⟩ else if t.kind = 2 then ⟨s.plus, 1⟩ else if t.kind = 3 then ⟨s.percent, 9⟩ else if t.kind = 4 then ⟨s.permille, 10⟩ else if t.kind = 5 then ⟨coin, 11⟩ else ⟨⟨#[]⟩, 0⟩
def full (p : Pc) : Bool := !(p.text.data.toList.isEmpty)
def pieces (s : Sy) (coin : ByteArray) (l : List Tok) : List Pc := (l.map (piece s coin)).filter full
/-- the symbols lie at g -/
structure Ys (w0 w : World) (g : Nat) (s : Sy) : Prop where
  c12 : w.cell? ⟨g, 12, none⟩ = some (.string s.minus)
  c13 : w.cell? ⟨g, 13, none⟩ = some (.string s.plus)
  c14 : w.cell? ⟨g, 14, none⟩ = some (.string s.percent)
  c15 : w.cell? ⟨g, 15, none⟩ = some (.string s.permille)
  sz : g < w.heap.size
  bl : Below g w0 w
theorem Ys.more {w0 w w' : World} {g : Nat} {s : Sy} (h : Ys w0 w g s) (hb : Below (g + 1) w w') : Ys w0 w' g s :=
  ⟨(hb.cell (Nat.lt_succ_self g)).trans h.c12, (hb.cell (Nat.lt_succ_self g)).trans h.c13, (hb.cell (Nat.lt_succ_self g)).trans h.c14, (hb.cell (Nat.lt_succ_self g)).trans h.c15, Nat.lt_of_lt_of_le h.sz hb.size, h.bl.trans (hb.mono (Nat.le_succ g))⟩
theorem pieces_next {s : Sy} {coin : ByteArray} {l : List Tok} {i : Nat} {t : Tok} (h : l[i]? = some t) : pieces s coin (l.take (i + 1)) = pieces s coin (l.take i) ++ (if full (piece s coin t) then [piece s coin t] else []) := by
  unfold pieces
  rw [List.take_add_one, h, List.map_append, List.filter_append]
  simp only [Option.toList_some, List.map_cons, List.map_nil, List.filter_cons, List.filter_nil]
theorem full_not {x : ByteArray} {f : Int} (h : x = ⟨#[]⟩) : full ⟨x, f⟩ = false := by subst h; rfl
theorem full_yes {x : ByteArray} {f : Int} (h : ¬ x = ⟨#[]⟩) : full ⟨x, f⟩ = true := by
  unfold full
  rcases x with ⟨⟨_ | ⟨a, r⟩⟩⟩
  · exact absurd rfl h
  · rfl
theorem grown_above {w w0 w' : World} {v : Value} {g : Nat} {l : List Pc} (hg : w.grownBy w' v.ownBlock) (h : OP w0 (g + 1) v l) (hs : g < w0.heap.size) (hz : w0.heap.size ≤ w.heap.size) : Below (g + 1) w w' :=
  (Below.refl _ _).grown hg (Nat.le_trans hs hz) (OP.base_ h)
theorem lit_pc (w : World) (x : ByteArray) (f : Int) : Sl (w.alloc (.cells #[.string x, .int .i64 f] 59)) 2 (some ⟨w.heap.size, 0, none⟩) 1 1 (pcs [⟨x, f⟩]) := by
  refine ⟨rfl, Nat.le_refl _, by omega, fun _ => ⟨_, _, rfl, fun j u hu => ?_⟩⟩
  rw [World.cell?_alloc_new, Nat.zero_add]
  rw [← hu]
  rcases j with _ | _ | j <;> rfl
theorem lit_pc3 (w : World) (a b : Obj) (x : ByteArray) (f : Int) : Sl (((w.alloc a).alloc b).alloc (.cells #[.string x, .int .i64 f] 59)) 2 (some ⟨w.heap.size + 1 + 1, 0, none⟩) 1 1 (pcs [⟨x, f⟩]) := by
  have hz : ((w.alloc a).alloc b).heap.size = w.heap.size + 1 + 1 := by simp
  rw [← hz]
  exact lit_pc _ x f
theorem below2 (w : World) (a b : Obj) : Below w.heap.size w ((w.alloc a).alloc b) := ((Below.refl _ _).alloc (Nat.le_refl _) a).alloc (by simp) b
theorem below3 (w : World) (a b c : Obj) : Below w.heap.size w (((w.alloc a).alloc b).alloc c) := (below2 w a b).alloc (by simp; omega) c
set_option maxHeartbeats 1600000 in
set_option maxRecDepth 100000 in
theorem pieces_calls (A : Option Addr) (n c : Nat) (l : List Tok) (d0 d1 d2 d3 d4 d5 d6 d7 d8 d9 dc gr : Value) (s : Sy) (ex inf nan ap ra : Value) (coin : ByteArray) (w : World) (h : ST w A n c l) (hn : n * 32 ≤ 140737488355328) :
    Calls Tryd.prog 15 #[.slice A n c, symV d0 d1 d2 d3 d4 d5 d6 d7 d8 d9 dc gr s ex inf nan ap ra, .string coin] w fun e w' => (∃ v, e = .returned v ∧ RP w' w.heap.size v (pieces s coin l)) ∧ Below w.heap.size w w' := by
  have hY : Ys w (w.alloc (symC d0 d1 d2 d3 d4 d5 d6 d7 d8 d9 dc gr s ex inf nan ap ra)) w.heap.size s :=
    ⟨World.cell?_alloc_new w _ _ 12, World.cell?_alloc_new w _ _ 13, World.cell?_alloc_new w _ _ 14, World.cell?_alloc_new w _ _ 15, by simp, (Below.refl _ _).alloc (Nat.le_refl _) _⟩
  have hn63 : n ≤ 9223372036854775807 := by omega
  obtain ⟨g, hg⟩ : ∃ g, w.heap.size = g := ⟨_, rfl⟩
  have HT := Lib.hid h
  clear h
  unfold symC at hY
  unfold symV
  go_enter Tryd.func15, Tryd.ntmps15
  go_wp2
  go_loopw [7, 9, 10, 13] (fun v _ _ z wr => ∃ (i : Nat), z = .int .i64 (i : Nat) ∧ i ≤ n ∧ OP wr (g + 1) v (pieces s coin (l.take i)) ∧ Ys w wr g s) (fun _ _ _ z _ => n - (intOf z).toNat)
  case atStart => exact ⟨0, rfl, Nat.zero_le _, OP.nil _ _, hg ▸ hY⟩
  case round =>
    clear hY
    obtain ⟨i, rfl, hin, ho, hY⟩ := hrel
    by_cases hlt : i < n
    · obtain ⟨b, o, t, rfl, ht, k1, k2, k3⟩ := (HT.out.below (by rw [hg]; exact hY.bl)).at_ hlt
      have q12 := hY.c12
      have q13 := hY.c13
      have q14 := hY.c14
      have q15 := hY.c15
      have qz := hY.sz
      have hlen : (pieces s coin (l.take i)).length ≤ i := by
        unfold pieces
        refine Nat.le_trans (List.length_filter_le _ _) ?_
        rw [List.length_map, List.length_take]
        exact Nat.min_le_left _ _
      have hnext := pieces_next (s := s) (coin := coin) ht
      have HL := Lib.hid hlen
      have HN := Lib.hid hnext
      clear hnext hlen
      by_cases hk : (¬ t.kind = 0 ∧ ¬ t.kind = 1 ∧ ¬ t.kind = 2 ∧ ¬ t.kind = 3 ∧ ¬ t.kind = 4 ∧ ¬ t.kind = 5)
      · obtain ⟨e0, e1, e2, e3, e4, e5⟩ := hk
        have hp : piece s coin t = ⟨⟨#[]⟩, 0⟩ := by unfold piece; rw [if_neg e0, if_neg e1, if_neg e2, if_neg e3, if_neg e4, if_neg e5]
        have hq : pieces s coin (l.take (i + 1)) = pieces s coin (l.take i) := by rw [HN.out, hp, full_not rfl]; simp
        have HQ := Lib.hid hq
        have HP := Lib.hid hp
        clear hp hq
        go_wp2
        go_roundw
        case rel => exact ⟨i + 1, by go_num, by omega, by rw [HQ.out]; exact ho.below (below2 _ _ _), hY.more ((below2 _ _ _).mono qz)⟩
        case measure => simp [intOf]; omega
      · obtain ⟨X, f, hp, hkk⟩ : ∃ X f, piece s coin t = ⟨X, f⟩ ∧ ((t.kind = 0 ∧ X = t.text ∧ f = 0) ∨ (t.kind = 1 ∧ X = s.minus ∧ f = 1) ∨ (t.kind = 2 ∧ X = s.plus ∧ f = 1) ∨ (t.kind = 3 ∧ X = s.percent ∧ f = 9) ∨ (t.kind = 4 ∧ X = s.permille ∧ f = 10) ∨ (t.kind = 5 ∧ X = coin ∧ f = 11)) := by
          unfold piece
          rcases (show t.kind = 0 ∨ t.kind = 1 ∨ t.kind = 2 ∨ t.kind = 3 ∨ t.kind = 4 ∨ t.kind = 5 by omega) with e | e | e | e | e | e <;> rw [e] <;> simp
        have HP := Lib.hid hp
        clear hp hk
        by_cases hx : X = ⟨#[]⟩
        · have HQ : Hid (pieces s coin (l.take (i + 1)) = pieces s coin (l.take i)) := by
            have : pieces s coin (l.take (i + 1)) = pieces s coin (l.take i) := by rw [HN.out, HP.out, full_not hx]; simp
            exact this
          rcases hkk with ⟨e, rfl, rfl⟩ | ⟨e, rfl, rfl⟩ | ⟨e, rfl, rfl⟩ | ⟨e, rfl, rfl⟩ | ⟨e, rfl, rfl⟩ | ⟨e, rfl, rfl⟩
          all_goals
            go_wp2
            go_roundw
            case rel => exact ⟨i + 1, by go_num, by omega, by rw [HQ.out]; exact ho.below (below2 _ _ _), hY.more ((below2 _ _ _).mono qz)⟩
            case measure => simp [intOf]; omega
        · have hxe : X.toList.isEmpty = false := by
            rw [← decide_eq_emptyBytes]
            exact decide_eq_false hx
          have HQ : Hid (pieces s coin (l.take (i + 1)) = pieces s coin (l.take i) ++ [⟨X, f⟩]) := by
            have : pieces s coin (l.take (i + 1)) = pieces s coin (l.take i) ++ [⟨X, f⟩] := by rw [HN.out, HP.out, full_yes hx]; simp
            exact this
          rcases hkk with ⟨e, rfl, rfl⟩ | ⟨e, rfl, rfl⟩ | ⟨e, rfl, rfl⟩ | ⟨e, rfl, rfl⟩ | ⟨e, rfl, rfl⟩ | ⟨e, rfl, rfl⟩
          all_goals
            have hl := HL.out
            go_wp2_with (at_builtin; refine wpList_append_pcs _ rfl (.tmp 51) (.tmp 53) rfl (g + 1) _ _ rfl (ho.below (below3 wr _ _ _)) _ 1 1 [⟨_, _⟩] rfl (lit_pc3 wr _ _ _ _) (by omega) (Nat.le_trans qz (below3 wr _ _ _).size) ?_; intro v4 w4 hown4 hg4)
            go_roundw
            case rel => exact ⟨i + 1, by go_num, by omega, by rw [HQ.out]; exact hown4, (hY.more ((below3 _ _ _ _).mono qz)).more (grown_above hg4 ho qz (below3 _ _ _ _).size)⟩
            case measure => simp [intOf]; omega
    · have hall : l.take i = l := List.take_of_length_le (by rw [ST.len HT.out]; omega)
      rw [hall] at ho
      have hC := clip_pcs _ (g + 1) _ wr ho
      go_wp2_with (first
        | (go_at_call 28; (with_reducible refine hC.mono ?_); rintro e w' ⟨⟨v7, rfl, r7⟩, rfl⟩))
      go_ret
      exact ⟨⟨_, rfl, r7.lower (by omega)⟩, by rw [hg]; exact hY.bl⟩
end Go.Proofs.YtoplpoofbefjcaaDoor.Sg
