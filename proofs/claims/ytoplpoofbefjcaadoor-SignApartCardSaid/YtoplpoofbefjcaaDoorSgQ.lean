/- Layer 19, on: SignApart, the walk. -/
import Derived.Test.YtoplpoofbefjcaaDoorSgG
namespace Go.Proofs.YtoplpoofbefjcaaDoor.Sg
open Go.RowKit Go.Proofs.YtoplpoofbefjcaaDoor.Dig Go.Proofs.YtoplpoofbefjcaaDoor.W

def patA (P S : Value) (r : Rest) (hn : Bool) (P' S' : Value) (r' : Rest) : Array Value := #[P, S, .int .i64 r.im, .int .i64 r.fm, .int .i64 r.fx, .int .i64 r.pr, .int .i64 r.se, .int .i64 r.em, .bool r.ep, .string r.pad, .int .i64 r.pa, .int .i64 r.wd, .bool hn, P', S', .int .i64 r'.im, .int .i64 r'.fm, .int .i64 r'.fx, .int .i64 r'.pr, .int .i64 r'.se, .int .i64 r'.em, .bool r'.ep, .string r'.pad, .int .i64 r'.pa, .int .i64 r'.wd]
def noRest : Rest := ⟨0, 0, 0, 0, 0, 0, false, ⟨#[]⟩, 0, 0⟩
/-- a block that holds one value of several cells, by its pointer -/
def rowV (w : World) (v : Value) : Array Value := match v with
  | .pointer (some a) => (match w.heap[a.block]? with | some (.cells cs _ _) => cs | _ => #[])
  | _ => #[]
def RowV (w : World) (v : Value) (t : TypeId) (n : Nat) : Prop := ∃ g cs, v = .pointer (some ⟨g, 0, none⟩) ∧ w.heap[g]? = some (.cells cs t (0, 0)) ∧ cs.size = n
theorem RowV.mk {w : World} {g : Nat} {t : TypeId} {cs : Array Value} (h : w.heap[g]? = some (.cells cs t (0, 0))) : RowV w (.pointer (some ⟨g, 0, none⟩)) t cs.size := ⟨g, cs, rfl, h, rfl⟩
theorem rowV_eq {w : World} {g : Nat} {t : TypeId} {cs : Array Value} {fr : Nat × Nat} (h : w.heap[g]? = some (.cells cs t fr)) : rowV w (.pointer (some ⟨g, 0, none⟩)) = cs := by simp [rowV, h]
theorem exec_load_pat {w : World} {ev : Operand → Value} {x : Operand} {dst : Option Tmp} {ty : TypeId} {pos : String} {after : Array Edge} {guard : Option (Nat × Bool)} (h : RowV w (ev x) 26 25) :
    (execOp ev ⟨dst, .load 26 x, ty, pos, after, guard⟩).run Tryd.prog w = .ok (.value (.agg (rowV w (ev x)))) w := by
  obtain ⟨g, cs, hx, hg, hs⟩ := h
  rw [hx, rowV_eq hg]
  unfold execOp
  simp only [hx, Instr.loadAt, Instr.sureAddr, Sem.run_bind, Sem.run_pure, Result.andThen_ok, run_loadVar_row w g _ _ cs _ _ hg Tryd.underlying26 rfl (by rw [hs]; kernel_rfl)]
/-- what an affix without the half for numbers below 0 gives: tokens that can be read -/
def AffR (w : World) (l l' : List Tok) (e : Ending) (w' : World) : Prop :=
  ∃ A n c A' n' c', e = .returned (.tuple #[.slice A n c, .slice A' n' c', .int .i64 0]) ∧ ST w' A n c l ∧ ST w' A' n' c' l' ∧ Below w.heap.size w w'
/-- the pattern at g, whole -/
structure PatAt (w : World) (g n c n' c' : Nat) (A A' : Option Addr) (r : Rest) (l l' : List Tok) : Prop where
  hp : w.heap[g]? = some (.cells (patA (.slice A n c) (.slice A' n' c') r false (.slice none 0 0) (.slice none 0 0) noRest) 26 (0, 0))
  st : ST w A n c l
  st' : ST w A' n' c' l'
  sz : (1 + n) * 32 ≤ 140737488355328
  sz' : (1 + n') * 32 ≤ 140737488355328
theorem PatAt.below {w w' : World} {g n c n' c' : Nat} {A A' : Option Addr} {r : Rest} {l l' : List Tok} (h : PatAt w g n c n' c' A A' r l l') (hb : Below w.heap.size w w') : PatAt w' g n c n' c' A A' r l l' :=
  ⟨(hb.block _ (Array.getElem?_eq_some_iff.1 h.hp).1).trans h.hp, h.st.below hb, h.st'.below hb, h.sz, h.sz'⟩
theorem PatAt.row {w : World} {g n c n' c' : Nat} {A A' : Option Addr} {r : Rest} {l l' : List Tok} (h : PatAt w g n c n' c' A A' r l l') : RowV w (.pointer (some ⟨g, 0, none⟩)) 26 25 := RowV.mk h.hp
theorem PatAt.call {w : World} {g n c n' c' : Nat} {A A' : Option Addr} {r : Rest} {l l' : List Tok} (h : PatAt w g n c n' c' A A' r l l') (d k : Int) (hd : d = -1 ∧ k = 1 ∨ d = 1 ∧ k = 2) :
    Calls Tryd.prog 8 #[.agg (rowV w (.pointer (some ⟨g, 0, none⟩))), .int .i64 d] w (AffR w (tok k :: l) l') := by
  rw [rowV_eq h.hp]
  refine (affixes_ahead d k A A' none none n c n' c' 0 0 0 0 l l' [] [] r noRest w h.st h.st' (ST.nil_ _) (ST.nil_ _) h.sz h.sz' hd).mono ?_
  rintro e w' ⟨⟨v, v', rfl, ⟨A1, c1, rfl, s1, _⟩, ⟨A2, c2, rfl, s2, _⟩⟩, hb⟩
  exact ⟨_, _, _, _, _, _, rfl, s1, s2, hb⟩
theorem PatAt.call0 {w : World} {g n c n' c' : Nat} {A A' : Option Addr} {r : Rest} {l l' : List Tok} (h : PatAt w g n c n' c' A A' r l l') :
    Calls Tryd.prog 8 #[.agg (rowV w (.pointer (some ⟨g, 0, none⟩))), .int .i64 0] w (AffR w l l') := by
  rw [rowV_eq h.hp]
  refine (affixes_zero A A' none none n c n' c' 0 0 0 0 l l' [] [] r noRest false w h.st h.st' (ST.nil_ _) (ST.nil_ _) h.sz h.sz').mono ?_
  rintro e w' ⟨⟨v, v', rfl, ⟨A1, c1, rfl, s1, _⟩, ⟨A2, c2, rfl, s2, _⟩⟩, hb⟩
  exact ⟨_, _, _, _, _, _, rfl, s1, s2, hb⟩
/-- a token's slice without its first one -/
theorem ST.tail_ {w : World} {A : Option Addr} {n c : Nat} {t : Tok} {l : List Tok} (h : ST w A n c (t :: l)) : ∃ b o, A = some ⟨b, o, none⟩ ∧ n = l.length + 1 ∧ w.cell? ⟨b, o, none⟩ = some (.int .i64 t.kind) ∧
    ST w (if c = 1 then some ⟨b, o, none⟩ else some ⟨b, o + 3, none⟩) l.length (c - 1) l := by
  have hn := h.len
  obtain ⟨b, o, e, hc⟩ := Sl.get h (by rw [← hn]; exact Nat.succ_pos _)
  have hle := Sl.le h
  have hcap := Sl.cap h
  rw [← hn, List.length_cons] at hle
  refine ⟨b, o, e, hn.symm, hc 0 _ rfl, ⟨toks_length l, by omega, by omega, fun hl => ?_⟩⟩
  rw [if_neg (by omega)]
  refine ⟨b, o + 3, rfl, fun j u hu => ?_⟩
  rw [Nat.add_assoc]
  refine hc (3 + j) u ?_
  rw [Nat.add_comm 3 j]
  exact hu
def aggCells : Value → Array Value
  | .agg cs => cs
  | _ => #[]
def AggOk (v : Value) (n : Nat) : Prop := ∃ cs, v = .agg cs ∧ cs.size = n ∧ cs.all (·.oneCell') = true
theorem setRow_new (w : World) (Z cs : Array Value) (t : TypeId) : (w.alloc (.cells Z t)).setRow w.heap.size cs = w.alloc (.cells cs t) := by
  have e : (w.heap.push (.cells Z t)).modify w.heap.size (fun | .cells _ elem frozen => .cells cs elem frozen | o => o) = w.heap.push (.cells cs t) := by
    refine Array.ext_getElem? fun i => ?_
    rw [Array.getElem?_modify, Array.getElem?_push, Array.getElem?_push]
    by_cases h : i = w.heap.size
    · subst h; simp
    · rw [if_neg (fun h' => h h'.symm), if_neg h]
      simp [h]
  exact congrArg (fun h => ({ w with heap := h } : World)) e
theorem exec_store_pat {w : World} {Z : Array Value} {ev : Operand → Value} {x y : Operand} {dst : Option Tmp} {ty : TypeId} {pos : String} {after : Array Edge} {guard : Option (Nat × Bool)}
    (hx : ev x = .pointer (some ⟨w.heap.size, 0, none⟩)) (hZ : Z.size = 25) (hy : AggOk (ev y) 25) :
    (execOp ev ⟨dst, .store 26 x y, ty, pos, after, guard⟩).run Tryd.prog (w.alloc (.cells Z 26)) = .ok .skip (w.alloc (.cells (aggCells (ev y)) 26)) := by
  obtain ⟨cs, hy', hs, h1⟩ := hy
  have hg : (w.alloc (.cells Z 26)).heap[w.heap.size]? = some (.cells Z 26 (0, 0)) := heap_new w _
  have hi : (Tryd.prog.info? 26).map (·.size) = some cs.size := by rw [hs]; kernel_rfl
  unfold execOp
  simp only [hx, hy', aggCells, Instr.storeAt, Instr.sureAddr, Sem.run_bind, Sem.run_pure, Result.andThen_ok, run_storeVar_row _ w.heap.size _ 26 Z cs hg hi (by rw [hZ, hs]) h1]
  rw [setRow_new]
theorem agg_ok25 (cs : Array Value) (h : cs.size = 25) (h1 : cs.all (·.oneCell') = true) : AggOk (.agg cs) 25 := ⟨cs, rfl, h, h1⟩
/-- all that the comparisons read -/
structure AQ (w0 w : World) (b1 o1 c1 b3 o3 c3 cC cB cD cH nP cP nS cS : Nat) (AA AG AC AB AD AH AP AS : Option Addr) (l l' : List Tok) : Prop where
  ka : w.cell? ⟨b1, o1, none⟩ = some (.int .i64 1)
  kg : w.cell? ⟨b3, o3, none⟩ = some (.int .i64 2)
  a : ST w AA l.length (c1 - 1) l
  g : ST w AG l.length (c3 - 1) l
  c : ST w AC l.length cC l
  b : ST w AB l'.length cB l'
  d : ST w AD l'.length cD l'
  h : ST w AH l'.length cH l'
  p : ST w AP nP cP l
  s : ST w AS nS cS l'
  bl : Below w0.heap.size w0 w
theorem AQ.below {w0 w w' : World} {b1 o1 c1 b3 o3 c3 cC cB cD cH nP cP nS cS : Nat} {AA AG AC AB AD AH AP AS : Option Addr} {l l' : List Tok} (q : AQ w0 w b1 o1 c1 b3 o3 c3 cC cB cD cH nP cP nS cS AA AG AC AB AD AH AP AS l l') (hb : Below w.heap.size w w') : AQ w0 w' b1 o1 c1 b3 o3 c3 cC cB cD cH nP cP nS cS AA AG AC AB AD AH AP AS l l' :=
  ⟨cell_keep hb q.ka, cell_keep hb q.kg, q.a.below hb, q.g.below hb, q.c.below hb, q.b.below hb, q.d.below hb, q.h.below hb, q.p.below hb, q.s.below hb, q.bl.trans (hb.mono q.bl.size)⟩
theorem aff_len {w : World} {A : Option Addr} {n c : Nat} {l : List Tok} (h : ST w A n c l) : n = l.length := h.len.symm
/-- the half, as it lies -/
structure SubAt (w : World) (g : Nat) (P S : Value) : Prop where
  c0 : w.cell? ⟨g, 0, none⟩ = some P
  c1 : w.cell? ⟨g, 1, none⟩ = some S
theorem SubAt.below {w w' : World} {g : Nat} {P S : Value} (h : SubAt w g P S) (hb : Below w.heap.size w w') : SubAt w' g P S := ⟨cell_keep hb h.c0, cell_keep hb h.c1⟩
attribute [local go_sem ↓] exec_load_pat exec_store_pat
attribute [local go_sem] aggCells
set_option maxHeartbeats 8000000 in
set_option maxRecDepth 100000 in
theorem signApart_calls (A A' : Option Addr) (n c n' c' : Nat) (r : Rest) (l l' : List Tok) (w : World) (h : ST w A n c l) (h' : ST w A' n' c' l') (hn : (1 + n) * 32 ≤ 140737488355328) (hn' : (1 + n') * 32 ≤ 140737488355328) :
    Calls Tryd.prog 6 #[.agg #[.slice A n c, .slice A' n' c', .int .i64 r.im, .int .i64 r.fm, .int .i64 r.fx, .int .i64 r.pr, .int .i64 r.se, .int .i64 r.em, .bool r.ep, .string r.pad, .int .i64 r.pa, .int .i64 r.wd]] w fun e w' => e = .returned (.bool true) ∧ Below w.heap.size w w' := by
  obtain ⟨O1, hO1⟩ : ∃ O : Obj, O = .cells #[.slice A n c, .slice A' n' c', .int .i64 r.im, .int .i64 r.fm, .int .i64 r.fx, .int .i64 r.pr, .int .i64 r.se, .int .i64 r.em, .bool r.ep, .string r.pad, .int .i64 r.pa, .int .i64 r.wd] 24 := ⟨_, rfl⟩
  obtain ⟨O2, hO2⟩ : ∃ O : Obj, O = .cells (patA (.slice A n c) (.slice A' n' c') r false (.slice none 0 0) (.slice none 0 0) noRest) 26 := ⟨_, rfl⟩
  have hz : (w.alloc O1).heap.size = w.heap.size + 1 := by simp
  have hb0 : Below w.heap.size w ((w.alloc O1).alloc O2) := ((Below.refl _ _).alloc (Nat.le_refl _) O1).alloc (by rw [hz]; omega) O2
  have hp0 : PatAt ((w.alloc O1).alloc O2) (w.heap.size + 1) n c n' c' A A' r l l' := ⟨by
    have := heap_new (w.alloc O1) O2
    rw [hz] at this
    rw [this, hO2], h.below hb0, h'.below hb0, hn, hn'⟩
  have hs0 : SubAt ((w.alloc O1).alloc O2) w.heap.size (.slice A n c) (.slice A' n' c') := ⟨by
    rw [World.cell?_alloc_lt _ _ _ (by rw [hz]; exact Nat.lt_succ_self _), hO1]
    exact World.cell?_alloc_new w _ _ 0, by
    rw [World.cell?_alloc_lt _ _ _ (by rw [hz]; exact Nat.lt_succ_self _), hO1]
    exact World.cell?_alloc_new w _ _ 1⟩
  subst hO1
  subst hO2
  unfold patA noRest at hb0 hp0 hs0
  have hag := agg_ok25 (patA (.slice A n c) (.slice A' n' c') r false (.slice none 0 0) (.slice none 0 0) noRest) rfl (by simp [patA, noRest, Value.oneCell'])
  unfold patA noRest at hag
  have HB := Lib.hid hb0
  have HP := Lib.hid hp0
  have HS := Lib.hid hs0
  have R0 := hp0.row
  have hcap := Sl.cap h
  have hle := Sl.le h
  have HH := Lib.hid h
  have HH' := Lib.hid h'
  clear hb0 hp0 hs0 hz h h'
  go_enter Tryd.func6, Tryd.ntmps6
  go_wp2_with (first
    | (go_at_call 8; first
        | ((with_reducible refine (HP.out.call (-1) 1 (.inl ⟨rfl, rfl⟩)).mono ?_); rintro e w1 ⟨A1, n1, c1, AB, nB, cB, rfl, s1, sB, y1⟩; clear R0; have P1 := HP.out.below y1; have R1 := P1.row; have S1 := HS.out.below y1)
        | ((with_reducible refine P1.call0.mono ?_); rintro e w2 ⟨AC, nC, cC, AD, nD, cD, rfl, sC, sD, y2⟩; clear R1; have P2 := P1.below y2; have R2 := P2.row; have S2 := S1.below y2)))
  (with_reducible refine (P2.call 1 2 (.inr ⟨rfl, rfl⟩)).mono ?_); rintro e w3 ⟨A3, n3, c3, AH, nH, cH, rfl, s3, sH, y3⟩; clear R2
  have P3 := P2.below y3
  have S3 := S2.below y3
  obtain ⟨b1, o1, rfl, rfl, ka, ta⟩ := (s1.below y2).below y3 |>.tail_
  obtain ⟨b3, o3, rfl, rfl, kg, tg⟩ := s3.tail_
  obtain rfl := aff_len sC
  obtain rfl := aff_len sB
  obtain rfl := aff_len sD
  obtain rfl := aff_len sH
  obtain ⟨AA, hAA, qa⟩ : ∃ AA, AA = (if c1 = 1 then some ⟨b1, o1, none⟩ else some ⟨b1, o1 + 3, none⟩) ∧ ST w3 AA l.length (c1 - 1) l := ⟨_, rfl, ta⟩
  obtain ⟨AG, hAG, qg⟩ : ∃ AG, AG = (if c3 = 1 then some ⟨b3, o3, none⟩ else some ⟨b3, o3 + 3, none⟩) ∧ ST w3 AG l.length (c3 - 1) l := ⟨_, rfl, tg⟩
  have q : AQ w w3 b1 o1 c1 b3 o3 c3 cC cB cD cH n c n' c' AA AG AC AB AD AH A A' l l' := ⟨ka, kg, qa, qg, sC.below y3, (sB.below y2).below y3, sD.below y3, sH, P3.st, P3.st', HB.out.trans ((y1.trans ((y2.trans (y3.mono y2.size)).mono y1.size)).mono HB.out.size)⟩
  have z1 := Sl.cap s1
  have z3 := Sl.le s3
  have z4 := Sl.le s1
  have z5 := Sl.cap s3
  have ka' : w3.cell? ⟨b1, o1, none⟩ = some (.int .i64 1) := ka
  have kg' : w3.cell? ⟨b3, o3, none⟩ = some (.int .i64 2) := kg
  have p0 := S3.c0
  have p1 := S3.c1
  clear ta tg s1 s3 sC sB sD sH P1 P2 P3 S1 S2 S3 y1 y2 y3 qa qg ka kg hag HP HS HB
  by_cases h1 : c1 = 1 <;> by_cases h3 : c3 = 1
  all_goals
    first | (subst h1; simp only [if_true] at hAA; obtain rfl : l = [] := List.eq_nil_of_length_eq_zero (by omega)) | simp only [if_neg h1] at hAA
    first | (subst h3; simp only [if_true] at hAG; first | done | (obtain rfl : l = [] := List.eq_nil_of_length_eq_zero (by omega)) | skip) | simp only [if_neg h3] at hAG
    subst hAA
    subst hAG
  all_goals
    go_wp2_with fail
    (refine (same_toks _ _ _ _ _ _ _ _ q.a q.c).mono ?_)
    rintro e v1 ⟨rfl, d1⟩
    have q1 := q.below d1.below
    have m1 := cell_keep d1.below p0
    have n1 := cell_keep d1.below p1
    clear d1 q p0 p1 ka' kg'
    go_wp2_with fail
    (refine (same_toks _ _ _ _ _ _ _ _ q1.g q1.c).mono ?_)
    rintro e v2 ⟨rfl, d2⟩
    have q2 := q1.below d2.below
    have m2 := cell_keep d2.below m1
    have n2 := cell_keep d2.below n1
    clear d2 q1 m1 n1
    go_wp2_with fail
    (refine (same_toks _ _ _ _ _ _ _ _ q2.c q2.p).mono ?_)
    rintro e v3 ⟨rfl, d3⟩
    have q3 := q2.below d3.below
    have m3 := cell_keep d3.below m2
    have n3 := cell_keep d3.below n2
    clear d3 q2 m2 n2
    go_wp2_with fail
    (refine (same_toks _ _ _ _ _ _ _ _ q3.b q3.s).mono ?_)
    rintro e v4 ⟨rfl, d4⟩
    have q4 := q3.below d4.below
    have m4 := cell_keep d4.below m3
    have n4 := cell_keep d4.below n3
    clear d4 q3 m3 n3
    go_wp2_with fail
    (refine (same_toks _ _ _ _ _ _ _ _ q4.d q4.s).mono ?_)
    rintro e v5 ⟨rfl, d5⟩
    have q5 := q4.below d5.below
    have m5 := cell_keep d5.below m4
    have n5 := cell_keep d5.below n4
    clear d5 q4 m4 n4
    go_wp2_with fail
    (refine (same_toks _ _ _ _ _ _ _ _ q5.h q5.s).mono ?_)
    rintro e v6 ⟨rfl, d6⟩
    have q6 := q5.below d6.below
    have m6 := cell_keep d6.below m5
    have n6 := cell_keep d6.below n5
    clear d6 q5 m5 n5
    go_wp2_with (first | (go_at_call 13; (with_reducible refine (fixed_calls _).mono ?_); rintro e w9 ⟨rfl, b9⟩))
    go_ret
    exact ⟨rfl, q6.bl.trans (b9.mono q6.bl.size)⟩
end Go.Proofs.YtoplpoofbefjcaaDoor.Sg
