/- Texts of one layer, joined: Di, Dj, Dk, Dl, Dm, Dn, Do, Dp, Dq, Dr, Ds, Dt, Du, Dv. -/
import Derived.Test.YtkanddmihmdagaaGreatDoorGJ
import Derived.Test.YtkanddmihmdagaaGreatDoorGF
import Derived.Test.YtkanddmihmdagaaGreatDoorGD
import Derived.Test.YtkanddmihmdagaaGreatDoorGE
set_option linter.unusedVariables false
set_option linter.unusedSimpArgs false
set_option linter.unusedSectionVars false
/- Layer 6: round.to, with a rest. -/
set_option linter.unusedSimpArgs false
set_option linter.unusedVariables false
namespace Go.Proofs.YtkanddmihmdagaaGreatDoor.Dc
open Go.RowKit Go.Proofs.YtkanddmihmdagaaGreatDoor.Dig Go.Proofs.YtkanddmihmdagaaGreatDoor.W Go.Proofs.YtkanddmihmdagaaGreatDoor.Nat Go.Proofs.YtkanddmihmdagaaGreatDoor.Wh Go.Proofs.YtkanddmihmdagaaGreatDoor.Td Go.Proofs.YtkanddmihmdagaaGreatDoor.Bu Go.Proofs.YtkanddmihmdagaaGreatDoor.Tx Go.Proofs.YtkanddmihmdagaaGreatDoor.Sp Go.Proofs.YtkanddmihmdagaaGreatDoor.Rd

theorem three {w : World} {g : Nat} {t : TypeId} {a0 a1 a2 : Value} (C : Bk w g t #[a0, a1, a2]) : w.cell? ⟨g, 0, none⟩ = some a0 ∧ w.cell? ⟨g, 1, none⟩ = some a1 ∧ w.cell? ⟨g, 2, none⟩ = some a2 := ⟨C.at_ 0 rfl, C.at_ 1 rfl, C.at_ 2 rfl⟩
structure TA (w V : World) (g : Bool) (S : ByteArray) (x : Int) (A : Option Addr) (n c u : Nat) (A5 : Option Addr) (n5 c5 D : Nat) (A6 : Option Addr) (n6 c6 Q : Nat) : Prop where
  t : TB w V g S x
  p : Pow V
  su : SI V .u64 A n c (digs U u)
  s5 : SI V .u64 A5 n5 c5 (digs U D)
  s6 : SI V .u64 A6 n6 c6 (digs U Q)
section
variable {w V V' : World} {g : Bool} {S : ByteArray} {x : Int} {A : Option Addr} {n c u : Nat} {A5 : Option Addr} {n5 c5 D : Nat} {A6 : Option Addr} {n6 c6 Q : Nat}
theorem TA.below (h : TA w V g S x A n c u A5 n5 c5 D A6 n6 c6 Q) (hb : Below V.heap.size V V') : TA w V' g S x A n c u A5 n5 c5 D A6 n6 c6 Q := ⟨h.t.below hb, h.p.below hb, h.su.below hb, h.s5.below hb, h.s6.below hb⟩
theorem TA.drew (h : TA w V g S x A n c u A5 n5 c5 D A6 n6 c6 Q) : TA w V.drew g S x A n c u A5 n5 c5 D A6 n6 c6 Q := h.below (Below.refl _ _).drew
theorem TA.alloc (h : TA w V g S x A n c u A5 n5 c5 D A6 n6 c6 Q) (o : Obj) : TA w (V.alloc o) g S x A n c u A5 n5 c5 D A6 n6 c6 Q := h.below (alloc_below _ _)
theorem TA.neg (h : TA w V g S x A n c u A5 n5 c5 D A6 n6 c6 Q) : V.cell? ⟨w.heap.size, 1, none⟩ = some (.bool g) := h.t.neg
theorem TA.more {b o : Nat} (h : TA w V g S x A n c u A5 n5 c5 D (some ⟨b, o, none⟩) n6 c6 Q) (h6 : 0 < n6) : V.cell? ⟨w.heap.size, 1, none⟩ = some (.bool g) ∧ V.cell? ⟨b, o, none⟩ = some (.int .u64 (rd (digs U Q) 0 : Nat)) := by
  obtain ⟨b', o', e, hc⟩ := h.s6.at_ (j := 0) h6
  injection e with e
  injection e with e1 e2
  subst e1; subst e2
  exact ⟨h.t.neg, hc⟩
end
end Go.Proofs.YtkanddmihmdagaaGreatDoor.Dc

/- Layer 6: round.to, with a rest below one unit. -/
set_option linter.unusedSimpArgs false
set_option linter.unusedVariables false
namespace Go.Proofs.YtkanddmihmdagaaGreatDoor.Dc
open Go.RowKit Go.Proofs.YtkanddmihmdagaaGreatDoor.Dig Go.Proofs.YtkanddmihmdagaaGreatDoor.W Go.Proofs.YtkanddmihmdagaaGreatDoor.Nat Go.Proofs.YtkanddmihmdagaaGreatDoor.Wh Go.Proofs.YtkanddmihmdagaaGreatDoor.Td Go.Proofs.YtkanddmihmdagaaGreatDoor.Bu Go.Proofs.YtkanddmihmdagaaGreatDoor.Tx Go.Proofs.YtkanddmihmdagaaGreatDoor.Sp Go.Proofs.YtkanddmihmdagaaGreatDoor.Rd

end Go.Proofs.YtkanddmihmdagaaGreatDoor.Dc

/- Layer 6: round.to whole; power, asked, At, Digits, Step. -/
set_option linter.unusedSimpArgs false
set_option linter.unusedVariables false
namespace Go.Proofs.YtkanddmihmdagaaGreatDoor.Dc
open Go.RowKit Go.Proofs.YtkanddmihmdagaaGreatDoor.Dig Go.Proofs.YtkanddmihmdagaaGreatDoor.W Go.Proofs.YtkanddmihmdagaaGreatDoor.Nat Go.Proofs.YtkanddmihmdagaaGreatDoor.Wh Go.Proofs.YtkanddmihmdagaaGreatDoor.Td Go.Proofs.YtkanddmihmdagaaGreatDoor.Bu Go.Proofs.YtkanddmihmdagaaGreatDoor.Tx Go.Proofs.YtkanddmihmdagaaGreatDoor.Sp Go.Proofs.YtkanddmihmdagaaGreatDoor.Rd

/-- what comes of a number, as a call's answer -/
def Ans (w : World) (g : Bool) (o : Option (List UInt8 × Int)) (e : Ending) (w' : World) : Prop :=
  e = .returned (.tuple #[.agg (oc g o), .int .i64 (oe o)]) ∧ Below w.heap.size w w'
/-- a number rounded to the multiples of 10^y -/
def pw (mode : Nat) (g : Bool) (l : List UInt8) (x y : Int) : Option (List UInt8 × Int) := told g (rto mode g (nv 0 l) x 1 y) y
theorem pw_low {mode : Nat} {g : Bool} {l : List UInt8} {x y : Int} (h : Formed l) (hf : fits l x) (hy : y ≤ x) : pw mode g l x y = some (l, x) := by
  have e := rto_low (mode := mode) (g := g) h hf hy
  rwa [Nat.mul_one] at e
section
variable {w W : World} {g : Bool} {S : ByteArray} {x : Int}
theorem TB.keep (h : TB w W g S x) : W.cell? ⟨w.heap.size, 0, none⟩ = some (.int .i64 0) ∧ W.cell? ⟨w.heap.size, 1, none⟩ = some (.bool g) ∧ W.cell? ⟨w.heap.size, 2, none⟩ = some (.string S) ∧ W.cell? ⟨w.heap.size, 3, none⟩ = some (.int .i64 x) := four h.a
theorem TB.fars (h : TB w W g S x) (a b c d : Value) : ((((W.setCell ⟨w.heap.size + 1, 0, none⟩ a).setCell ⟨w.heap.size + 1, 1, none⟩ b).setCell ⟨w.heap.size + 1, 2, none⟩ c).setCell ⟨w.heap.size + 1, 3, none⟩ d).cell? ⟨w.heap.size, 0, none⟩ = some (.int .i64 0) ∧
    ((((W.setCell ⟨w.heap.size + 1, 0, none⟩ a).setCell ⟨w.heap.size + 1, 1, none⟩ b).setCell ⟨w.heap.size + 1, 2, none⟩ c).setCell ⟨w.heap.size + 1, 3, none⟩ d).cell? ⟨w.heap.size, 1, none⟩ = some (.bool g) ∧
    ((((W.setCell ⟨w.heap.size + 1, 0, none⟩ a).setCell ⟨w.heap.size + 1, 1, none⟩ b).setCell ⟨w.heap.size + 1, 2, none⟩ c).setCell ⟨w.heap.size + 1, 3, none⟩ d).cell? ⟨w.heap.size, 2, none⟩ = some (.string S) ∧
    ((((W.setCell ⟨w.heap.size + 1, 0, none⟩ a).setCell ⟨w.heap.size + 1, 1, none⟩ b).setCell ⟨w.heap.size + 1, 2, none⟩ c).setCell ⟨w.heap.size + 1, 3, none⟩ d).cell? ⟨w.heap.size, 3, none⟩ = some (.int .i64 x) := by
  have k : ∀ {V : World} (p : Addr) (v : Value), p.block ≠ w.heap.size → Bk V w.heap.size 23 #[.int .i64 0, .bool g, .string S, .int .i64 x] → Bk (V.setCell p v) w.heap.size 23 #[.int .i64 0, .bool g, .string S, .int .i64 x] := fun p v hne hk => hk.far v (fun e => hne e.symm)
  have hne : ∀ j, (⟨w.heap.size + 1, j, none⟩ : Addr).block ≠ w.heap.size := fun j => by show w.heap.size + 1 ≠ w.heap.size; omega
  exact four (k _ _ (hne _) (k _ _ (hne _) (k _ _ (hne _) (k _ _ (hne _) h.a))))
end
end Go.Proofs.YtkanddmihmdagaaGreatDoor.Dc

/- Layer 6: asked, At, Digits. -/
set_option linter.unusedSimpArgs false
set_option linter.unusedVariables false
namespace Go.Proofs.YtkanddmihmdagaaGreatDoor.Dc
open Go.RowKit Go.Proofs.YtkanddmihmdagaaGreatDoor.Dig Go.Proofs.YtkanddmihmdagaaGreatDoor.W Go.Proofs.YtkanddmihmdagaaGreatDoor.Nat Go.Proofs.YtkanddmihmdagaaGreatDoor.Wh Go.Proofs.YtkanddmihmdagaaGreatDoor.Td Go.Proofs.YtkanddmihmdagaaGreatDoor.Bu Go.Proofs.YtkanddmihmdagaaGreatDoor.Tx Go.Proofs.YtkanddmihmdagaaGreatDoor.Sp Go.Proofs.YtkanddmihmdagaaGreatDoor.Rd

/-- a box of four cells and the result's cell -/
structure TV (w W : World) (a0 a1 a2 a3 : Value) : Prop where
  a : Bk W w.heap.size 23 #[a0, a1, a2, a3]
  r : Bk W (w.heap.size + 1) 23 #[.int .i64 0, .bool false, .string ⟨#[]⟩, .int .i64 0]
  bl : Below w.heap.size w W
section
variable {w W W' : World} {a0 a1 a2 a3 : Value}
theorem TV.start (w : World) (a0 a1 a2 a3 : Value) : TV w ((w.alloc (.cells #[a0, a1, a2, a3] 23)).alloc (.cells #[.int .i64 0, .bool false, .string ⟨#[]⟩, .int .i64 0] 23)) a0 a1 a2 a3 := by
  obtain ⟨h1, h2, h3⟩ := bk_two w #[a0, a1, a2, a3] #[.int .i64 0, .bool false, .string ⟨#[]⟩, .int .i64 0] 23 23
  exact ⟨h1, h2, h3⟩
theorem TV.below (h : TV w W a0 a1 a2 a3) (hb : Below W.heap.size W W') : TV w W' a0 a1 a2 a3 := ⟨h.a.below hb, h.r.below hb, on h.bl hb⟩
theorem TV.drew (h : TV w W a0 a1 a2 a3) : TV w W.drew a0 a1 a2 a3 := ⟨h.a.drew, h.r.drew, h.bl.drew⟩
theorem TV.alloc (h : TV w W a0 a1 a2 a3) (o : Obj) : TV w (W.alloc o) a0 a1 a2 a3 := h.below (alloc_below _ _)
theorem TV.keep (h : TV w W a0 a1 a2 a3) : W.cell? ⟨w.heap.size, 0, none⟩ = some a0 ∧ W.cell? ⟨w.heap.size, 1, none⟩ = some a1 ∧ W.cell? ⟨w.heap.size, 2, none⟩ = some a2 ∧ W.cell? ⟨w.heap.size, 3, none⟩ = some a3 := four h.a
theorem TV.res (h : TV w W a0 a1 a2 a3) : W.cell? ⟨w.heap.size + 1, 0, none⟩ = some (.int .i64 0) ∧ W.cell? ⟨w.heap.size + 1, 1, none⟩ = some (.bool false) ∧ W.cell? ⟨w.heap.size + 1, 2, none⟩ = some (.string ⟨#[]⟩) ∧ W.cell? ⟨w.heap.size + 1, 3, none⟩ = some (.int .i64 0) ∧
    W.frozen? ⟨w.heap.size + 1, 0, none⟩ = false ∧ W.frozen? ⟨w.heap.size + 1, 1, none⟩ = false ∧ W.frozen? ⟨w.heap.size + 1, 2, none⟩ = false ∧ W.frozen? ⟨w.heap.size + 1, 3, none⟩ = false :=
  ⟨h.r.at_ 0 rfl, h.r.at_ 1 rfl, h.r.at_ 2 rfl, h.r.at_ 3 rfl, h.r.fr 0, h.r.fr 1, h.r.fr 2, h.r.fr 3⟩
theorem TV.fars (h : TV w W a0 a1 a2 a3) (a b c d : Value) : ((((W.setCell ⟨w.heap.size + 1, 0, none⟩ a).setCell ⟨w.heap.size + 1, 1, none⟩ b).setCell ⟨w.heap.size + 1, 2, none⟩ c).setCell ⟨w.heap.size + 1, 3, none⟩ d).cell? ⟨w.heap.size, 0, none⟩ = some a0 ∧
    ((((W.setCell ⟨w.heap.size + 1, 0, none⟩ a).setCell ⟨w.heap.size + 1, 1, none⟩ b).setCell ⟨w.heap.size + 1, 2, none⟩ c).setCell ⟨w.heap.size + 1, 3, none⟩ d).cell? ⟨w.heap.size, 1, none⟩ = some a1 ∧
    ((((W.setCell ⟨w.heap.size + 1, 0, none⟩ a).setCell ⟨w.heap.size + 1, 1, none⟩ b).setCell ⟨w.heap.size + 1, 2, none⟩ c).setCell ⟨w.heap.size + 1, 3, none⟩ d).cell? ⟨w.heap.size, 2, none⟩ = some a2 ∧
    ((((W.setCell ⟨w.heap.size + 1, 0, none⟩ a).setCell ⟨w.heap.size + 1, 1, none⟩ b).setCell ⟨w.heap.size + 1, 2, none⟩ c).setCell ⟨w.heap.size + 1, 3, none⟩ d).cell? ⟨w.heap.size, 3, none⟩ = some a3 := by
  have k : ∀ {V : World} (p : Addr) (v : Value), p.block ≠ w.heap.size → Bk V w.heap.size 23 #[a0, a1, a2, a3] → Bk (V.setCell p v) w.heap.size 23 #[a0, a1, a2, a3] := fun p v hne hk => hk.far v (fun e => hne e.symm)
  have hne : ∀ j, (⟨w.heap.size + 1, j, none⟩ : Addr).block ≠ w.heap.size := fun j => by show w.heap.size + 1 ≠ w.heap.size; omega
  exact four (k _ _ (hne _) (k _ _ (hne _) (k _ _ (hne _) (k _ _ (hne _) h.a))))
theorem TV.ret (h : TV w W a0 a1 a2 a3) (a b c d : Value) : Bk ((((W.setCell ⟨w.heap.size + 1, 0, none⟩ a).setCell ⟨w.heap.size + 1, 1, none⟩ b).setCell ⟨w.heap.size + 1, 2, none⟩ c).setCell ⟨w.heap.size + 1, 3, none⟩ d) (w.heap.size + 1) 23 #[a, b, c, d] ∧
    Below w.heap.size w ((((W.setCell ⟨w.heap.size + 1, 0, none⟩ a).setCell ⟨w.heap.size + 1, 1, none⟩ b).setCell ⟨w.heap.size + 1, 2, none⟩ c).setCell ⟨w.heap.size + 1, 3, none⟩ d) :=
  ⟨h.r.set4 a b c d rfl, below_set4 h.bl (by omega) a b c d⟩
end
/-- what is wrong with a number and a mode -/
def askE (m : Bool) (mode : Int) : Int := if m = false then 52 else if mode < 0 ∨ 8 ≤ mode then 60 else 0
theorem ask_cases (m : Bool) (mode : Int) : (askE m mode = 52 ∧ m = false) ∨ (askE m mode = 60 ∧ m = true ∧ (mode < 0 ∨ 8 ≤ mode)) ∨ (askE m mode = 0 ∧ m = true ∧ 0 ≤ mode ∧ mode < 8) := by
  unfold askE
  cases m
  · exact .inl ⟨rfl, rfl⟩
  · by_cases h : mode < 0 ∨ 8 ≤ mode
    · exact .inr (.inl ⟨by rw [if_neg (by decide), if_pos h], rfl, h⟩)
    · exact .inr (.inr ⟨by rw [if_neg (by decide), if_neg h], rfl, by omega, by omega⟩)
/-- the answer of At and of Digits: place by place -/
def Res (w : World) (r : Array Value × Int) (e : Ending) (w' : World) : Prop := e = .returned (.tuple #[.agg r.1, .int .i64 r.2]) ∧ Below w.heap.size w w'
/-- a number that may be, to the multiples of 10^place -/
def fin (mode c : Int) (g : Bool) (l : List UInt8) (x place : Int) : Array Value × Int :=
  if l = [] then (dec c g l x, 0) else (oc g (pw mode.toNat g l x place), oe (pw mode.toNat g l x place))
def atV (c : Int) (g : Bool) (l : List UInt8) (x place mode : Int) : Array Value × Int :=
  if askE (mayB c g l x) mode ≠ 0 then (dec 0 false [] 0, askE (mayB c g l x) mode) else if place < -4000 ∨ 4000 < place then (dec 0 false [] 0, 61) else fin mode c g l x place
def dgV (c : Int) (g : Bool) (l : List UInt8) (x n mode : Int) : Array Value × Int :=
  if askE (mayB c g l x) mode ≠ 0 then (dec 0 false [] 0, askE (mayB c g l x) mode) else if n < 1 ∨ 1000 < n then (dec 0 false [] 0, 61) else fin mode c g l x ((l.length : Int) + x - n)
theorem may_str {c x : Int} {g : Bool} {l : List UInt8} (h : mayB c g l x = true) (hl : l ≠ []) : c = 0 ∧ Formed l ∧ fits l x := by
  rcases (mayB_iff c g l x).1 h with ⟨h1, _⟩ | ⟨h1, h2, h3⟩
  · exact absurd h1 hl
  · exact ⟨h1, h2, h3⟩
theorem empS {l : List UInt8} (h : l = []) : (⟨l.toArray⟩ : ByteArray).toList.isEmpty = true ∧ ((⟨l.toArray⟩ : ByteArray).toList == []) = true := by
  subst h
  have e : (⟨([] : List UInt8).toArray⟩ : ByteArray).toList = [] := by rw [Lib.toList_data]
  rw [e]
  exact ⟨rfl, rfl⟩
end Go.Proofs.YtkanddmihmdagaaGreatDoor.Dc

/- The document's answer of layer 5: Of, Dec. -/
set_option linter.unusedSimpArgs false
set_option linter.unusedVariables false
namespace Go.Proofs.YtkanddmihmdagaaGreatDoor.Dc
open Go.RowKit Go.Proofs.YtkanddmihmdagaaGreatDoor.Dig Go.Proofs.YtkanddmihmdagaaGreatDoor.W Go.Proofs.YtkanddmihmdagaaGreatDoor.Nat Go.Proofs.YtkanddmihmdagaaGreatDoor.Wh Go.Proofs.YtkanddmihmdagaaGreatDoor.Td Go.Proofs.YtkanddmihmdagaaGreatDoor.Bu Go.Proofs.YtkanddmihmdagaaGreatDoor.Tx Go.Proofs.YtkanddmihmdagaaGreatDoor.Sp Go.Proofs.YtkanddmihmdagaaGreatDoor.Rd
open Go.Proofs.YtkanddmihmdagaaGreatDoor.Rf (V V_two V_pos)

/-- two blocks, one behind the other -/
structure T2 (w W : World) (t u : TypeId) (cs ds : Array Value) : Prop where
  a : Bk W w.heap.size t cs
  r : Bk W (w.heap.size + 1) u ds
  bl : Below w.heap.size w W
section
variable {w W W' : World} {t u : TypeId} {cs ds : Array Value} {a0 a1 a2 a3 b0 b1 b2 b3 : Value}
theorem T2.start (w : World) (t u : TypeId) (cs ds : Array Value) : T2 w ((w.alloc (.cells cs t)).alloc (.cells ds u)) t u cs ds := by
  obtain ⟨h1, h2, h3⟩ := bk_two w cs ds t u
  exact ⟨h1, h2, h3⟩
theorem T2.below (h : T2 w W t u cs ds) (hb : Below W.heap.size W W') : T2 w W' t u cs ds := ⟨h.a.below hb, h.r.below hb, on h.bl hb⟩
theorem T2.drew (h : T2 w W t u cs ds) : T2 w W.drew t u cs ds := ⟨h.a.drew, h.r.drew, h.bl.drew⟩
theorem T2.alloc (h : T2 w W t u cs ds) (o : Obj) : T2 w (W.alloc o) t u cs ds := h.below (alloc_below _ _)
theorem Bk.set3 {g : Nat} (h : Bk W g t cs) (a b c : Value) (e : cs.size = 3) : Bk (((W.setCell ⟨g, 0, none⟩ a).setCell ⟨g, 1, none⟩ b).setCell ⟨g, 2, none⟩ c) g t #[a, b, c] := by
  refine (((h.set 0 a).set 1 b).set 2 c).cast ?_
  rcases cs with ⟨l⟩
  match l, e with
  | [x, y, z], _ => rfl
theorem T2.res3 (h : T2 w W t u cs #[b0, b1, b2]) : W.cell? ⟨w.heap.size + 1, 0, none⟩ = some b0 ∧ W.cell? ⟨w.heap.size + 1, 1, none⟩ = some b1 ∧ W.cell? ⟨w.heap.size + 1, 2, none⟩ = some b2 ∧ W.frozen? ⟨w.heap.size + 1, 0, none⟩ = false ∧ W.frozen? ⟨w.heap.size + 1, 1, none⟩ = false ∧ W.frozen? ⟨w.heap.size + 1, 2, none⟩ = false :=
  ⟨h.r.at_ 0 rfl, h.r.at_ 1 rfl, h.r.at_ 2 rfl, h.r.fr 0, h.r.fr 1, h.r.fr 2⟩
theorem T2.far3 (h : T2 w W t u cs ds) (a b c : Value) : Bk (((W.setCell ⟨w.heap.size + 1, 0, none⟩ a).setCell ⟨w.heap.size + 1, 1, none⟩ b).setCell ⟨w.heap.size + 1, 2, none⟩ c) w.heap.size t cs := by
  have hne : ∀ j, w.heap.size ≠ (⟨w.heap.size + 1, j, none⟩ : Addr).block := fun j => by show w.heap.size ≠ w.heap.size + 1; omega
  exact ((h.a.far _ (hne _)).far _ (hne _)).far _ (hne _)
theorem T2.ret3 (h : T2 w W t u cs ds) (a b c : Value) (e : ds.size = 3) : Bk (((W.setCell ⟨w.heap.size + 1, 0, none⟩ a).setCell ⟨w.heap.size + 1, 1, none⟩ b).setCell ⟨w.heap.size + 1, 2, none⟩ c) (w.heap.size + 1) u #[a, b, c] ∧
    Below w.heap.size w (((W.setCell ⟨w.heap.size + 1, 0, none⟩ a).setCell ⟨w.heap.size + 1, 1, none⟩ b).setCell ⟨w.heap.size + 1, 2, none⟩ c) :=
  ⟨Bk.set3 h.r a b c e, ((h.bl.setCell (by show _ ≤ w.heap.size + 1; omega) _).setCell (by show _ ≤ w.heap.size + 1; omega) _).setCell (by show _ ≤ w.heap.size + 1; omega) _⟩
end
theorem si_far3 {w : World} {k : IntKind} {A : Option Addr} {n c g : Nat} {l : List Nat} (h : SI w k A n c l) (hA : ∀ b o s, A = some ⟨b, o, s⟩ → b ≠ g) (a b d : Value) : SI (((w.setCell ⟨g, 0, none⟩ a).setCell ⟨g, 1, none⟩ b).setCell ⟨g, 2, none⟩ d) k A n c l :=
  si_setFar (si_setFar (si_setFar h hA a) hA b) hA d
theorem sg_pos {g : Bool} {m : Nat} (h : 0 < m) : decide (sg g m < 0) = g := by rw [sg_neg, decide_eq_true h, Bool.and_true]
theorem Lo.lenV {x K : Nat} (h : Lo x K) : (digs V x).length ≤ K := len10V h
/-- what a function hands back: the number z times 10^E -/
def GivesN (w : World) (g : Bool) (m : Nat) (E : Int) (e : Ending) (w' : World) : Prop :=
  ∃ A n c, e = .returned (.agg #[.bool g, .slice A n c, .int .i64 E]) ∧ SI w' .u32 A n c (digs V m) ∧ Below w.heap.size w w'
set_option maxHeartbeats 8000000 in
set_option maxRecDepth 100000 in
theorem nof_calls (g : Bool) (l : List UInt8) (x : Int) (w : World) (hF : Formed l) (hf : l.length ≤ 1000) :
    Calls Tryz.prog 45 #[.agg (dec 0 g l x)] w (GivesN w g (nv 0 l) x) := by
  have HO := Lib.hid (fun w1 => Rw.rof_calls ⟨l.toArray⟩ (by rw [size_of]; omega) hF.dig w1)
  have hlo := (nv_10 hF).mono hf
  have hs := sg_pos (g := g) hF.pos
  have HMK := Lib.hid (fun (A : Option Addr) (n c : Nat) (w1 : World) (h : SI w1 .u32 A n c (digs V (nv 0 l))) => Rw.rmake_d g A n c (nv 0 l) w1 h (by rw [← h.len]; have := hlo.lenV; omega))
  unfold Rw.GivesR at HMK
  rw [hs, sg_abs] at HMK
  have T := T2.start w 23 60 #[.int .i64 0, .bool g, .string ⟨l.toArray⟩, .int .i64 x] #[.bool false, .slice none 0 0, .int .i64 0]
  unfold dec str GivesN
  change Hid (∀ w1, Calls _ _ #[.string ⟨l.toArray⟩] w1 (Rf.GivesF w1 .u32 (digs V (nv 0 l)))) at HO
  generalize (⟨l.toArray⟩ : ByteArray) = S at *
  generalize digs V (nv 0 l) = dg at *
  clear hs hlo hF
  have zf := T.drew
  have kf := four zf.a
  clear T
  go_enter Tryz.func45, Tryz.ntmps45
  go_wp2
  go_region_held3 (fun w' => w'.cell? ⟨w.heap.size, 0, none⟩ = some (.int .i64 0) ∧ w'.cell? ⟨w.heap.size, 1, none⟩ = some (.bool g) ∧ w'.cell? ⟨w.heap.size, 2, none⟩ = some (.string S) ∧ w'.cell? ⟨w.heap.size, 3, none⟩ = some (.int .i64 x))
    (first
      | (with_reducible exact kf)
      | (with_reducible exact k3)
      | (with_reducible exact k4)
      | (with_reducible exact f4))
    (first
      | (go_at_call 75; (with_reducible refine (HO.out _).mono ?_); rintro e w3 ⟨A3, n3, c3, rfl, r3, j3, b3⟩; have z3 := zf.below b3; have k3 := four z3.a)
      | (go_at_call 74; (with_reducible refine (HMK.out A3 n3 c3 w3 r3).mono ?_); rintro e w4 ⟨A4, n4, c4, rfl, r4, j4, b4⟩; have z4 := z3.below b4; have k4 := four z4.a; have f4 := four (z4.far3 (.bool g) (.slice A4 n4 c4) (.int .i64 x)); have q4 := z4.res3))
  go_wp2
  obtain ⟨y1, y2⟩ := z4.ret3 (.bool g) (.slice A4 n4 c4) (.int .i64 x) rfl
  have hlt := z3.r.lt
  exact bodyPost_ret (res_bk rfl _ y1 rfl Tryz.underlying60 rfl (by kernel_rfl)) rfl ⟨A4, n4, c4, rfl, si_far3 r4 (fun b o s e => by have := j4 b o s e; omega) _ _ _, y2⟩
end Go.Proofs.YtkanddmihmdagaaGreatDoor.Dc

/- The document's answer of layer 5: a number as a Dec. -/
set_option linter.unusedSimpArgs false
set_option linter.unusedVariables false
namespace Go.Proofs.YtkanddmihmdagaaGreatDoor.Dc
open Go.RowKit Go.Proofs.YtkanddmihmdagaaGreatDoor.Dig Go.Proofs.YtkanddmihmdagaaGreatDoor.W Go.Proofs.YtkanddmihmdagaaGreatDoor.Nat Go.Proofs.YtkanddmihmdagaaGreatDoor.Wh Go.Proofs.YtkanddmihmdagaaGreatDoor.Td Go.Proofs.YtkanddmihmdagaaGreatDoor.Bu Go.Proofs.YtkanddmihmdagaaGreatDoor.Tx Go.Proofs.YtkanddmihmdagaaGreatDoor.Sp Go.Proofs.YtkanddmihmdagaaGreatDoor.Rd
open Go.Proofs.YtkanddmihmdagaaGreatDoor.Rf (V V_two V_pos)

theorem ba_eq {S : ByteArray} {l : List UInt8} (h : S.data.toList = l) : S = ⟨l.toArray⟩ := by
  subst h
  cases S
  rfl
theorem toL (l : List UInt8) : (⟨l.toArray⟩ : ByteArray).toList = l := by rw [Lib.toList_data]
/-- the answer of Num.Dec -/
def GivesD (w : World) (g : Bool) (o : Option (List UInt8 × Int)) (e : Ending) (w' : World) : Prop :=
  e = .returned (.tuple #[.agg (oc g o), .bool o.isSome]) ∧ Below w.heap.size w w'
set_option maxHeartbeats 8000000 in
set_option maxRecDepth 100000 in
theorem ndec_zero (g neg : Bool) (A : Option Addr) (n c : Nat) (E : Int) (w : World) (h : SI w .u32 A n c (digs V 0)) :
    Calls Tryz.prog 88 #[.agg #[.bool g, .slice A n c, .int .i64 E], .bool neg] w (GivesD w neg (some ([], 0))) := by
  have T := T2.start w 60 23 #[.bool g, .slice A n c, .int .i64 E] #[.int .i64 0, .bool false, .string ⟨#[]⟩, .int .i64 0]
  have hn : n ≤ 1000000000000 := by rw [← h.len, digs_zero]; exact Nat.zero_le _
  have HX := Lib.hid (Rw.rtext_calls A n c 0 _ (h.below T.bl) hn)
  rw [dec_small (by omega)] at HX
  have HT := Lib.hid T
  have e48 : ((⟨#[48]⟩ : ByteArray).toList == [48]) = true := by rw [show (⟨#[48]⟩ : ByteArray) = ⟨[48].toArray⟩ from rfl, toL]; rfl
  unfold GivesD oc dec str
  dsimp only
  clear T h hn
  change Hid (Calls _ _ _ _ fun e w' => e = .returned (.string ⟨#[48]⟩) ∧ Below _ _ w') at HX
  obtain ⟨S, hS⟩ : ∃ S : ByteArray, S = ⟨#[48]⟩ := ⟨_, rfl⟩
  rw [← hS] at HX e48
  clear hS
  go_enter Tryz.func88, Tryz.ntmps88
  go_wp2_with (go_at_call 67; (with_reducible refine HX.out.mono ?_); rintro e w1 ⟨rfl, b1⟩; have x1 := HT.out.below b1; have k1 := four x1.r; have f1 := frz x1.r)
  refine bodyPost_ret (res_bk_t rfl _ (x1.r.set4 (.int .i64 0) (.bool neg) (.string ⟨#[]⟩) (.int .i64 0) rfl) rfl Tryz.underlying23 rfl (by kernel_rfl)) rfl ⟨rfl, below_set4 x1.bl (by omega) _ _ _ _⟩
theorem ext_take {S : ByteArray} {l : List UInt8} {j : Nat} (h : S.data.toList = l ++ List.replicate (j + 1) 48) : (S.extract 0 (S.size - 1)).data.toList = l ++ List.replicate j 48 := by
  rw [head_list, h, Lib.size_eq, h, List.length_append, List.length_replicate, List.take_append, List.take_of_length_le (by omega), List.take_replicate]
  congr 2
  omega
theorem last_nought {S : ByteArray} {l : List UInt8} {j : Nat} (h : S.data.toList = l ++ List.replicate (j + 1) 48) (h0 : S.size - 1 < S.size) : (S[S.size - 1].toNat : Int) = 48 := by
  have e := byteL (S := S) (k := S.size - 1) (by omega) (by omega)
  rw [h, List.replicate_succ', ← List.append_assoc, List.getLast?_concat] at e
  rw [← Option.some.inj e]
  rfl
theorem last_formed {S : ByteArray} {l : List UInt8} (h : S.data.toList = l) (hF : Formed l) (h0 : S.size - 1 < S.size) : ¬ (S[S.size - 1].toNat : Int) = 48 := by
  obtain ⟨r, c, e1, hc⟩ := hF.last
  have e := byteL (S := S) (k := S.size - 1) (by omega) (by omega)
  rw [h, e1, List.getLast?_concat] at e
  rw [← Option.some.inj e]
  intro k
  exact ne_48 hc (UInt8.toNat_inj.mp (show c.toNat = (48 : UInt8).toNat by have : (48 : UInt8).toNat = 48 := rfl; omega))
theorem not_nought {W : Nat} (h : W ≠ 0) : Lib.decDigits W ≠ [48] := by
  rw [dec_split h]
  obtain ⟨c, r, e, hc⟩ := (formed_cd h).head
  rw [e]
  intro k
  injection k with k1 k2
  exact ne_48 hc k1
set_option maxHeartbeats 8000000 in
set_option maxRecDepth 100000 in
theorem ndec_pos (g : Bool) (A : Option Addr) (n c W : Nat) (E : Int) (w : World) (h : SI w .u32 A n c (digs V W)) {K : Nat} (hW : Lo W K) (hK : K ≤ 1000000) (hE : -1000000 ≤ E ∧ E ≤ 1000000) (h0 : W ≠ 0) :
    Calls Tryz.prog 88 #[.agg #[.bool g, .slice A n c, .int .i64 E], .bool g] w (GivesD w g (told g W E)) := by
  have T := T2.start w 60 23 #[.bool g, .slice A n c, .int .i64 E] #[.int .i64 0, .bool false, .string ⟨#[]⟩, .int .i64 0]
  have hn : n ≤ 1000000000000 := by rw [← h.len]; have := hW.lenV; omega
  have HX := Lib.hid (Rw.rtext_calls A n c W _ (h.below T.bl) hn)
  have HT := Lib.hid T
  have hK0 : 0 < K := by
    rcases Nat.eq_zero_or_pos K with e | e
    · subst e; unfold Lo at hW; simp at hW; omega
    · exact e
  have hcl := (cd_len' hW hK0).2 h0
  have HF := Lib.hid (formed_cd h0)
  have hne : ((⟨(Lib.decDigits W).toArray⟩ : ByteArray).toList == [48]) = false := by
    rw [toL, beq_eq_false_iff_ne]
    exact not_nought h0
  have hsp : Hid ((⟨(Lib.decDigits W).toArray⟩ : ByteArray).data.toList = cd W ++ List.replicate (tz W) 48) := dec_split h0
  have hce : Hid (ce W E = E + tz W) := by show _ = _; unfold ce; rw [if_neg h0]
  have HM := Lib.hid (fun w1 => may_form HF.out ▸ rmay_calls 0 g (cd W) (ce W E) w1)
  have htold : Hid (told g W E = if fits (cd W) (ce W E) then some (cd W, ce W E) else none) := by show _ = _; unfold told; rw [if_neg h0]
  unfold GivesD
  obtain ⟨fb, hfb⟩ : ∃ b, decide (fits (cd W) (ce W E)) = b := ⟨_, rfl⟩
  rw [hfb] at HM
  have HFB := Lib.hid hfb
  clear hW h hn T h0 hK0 hfb
  generalize (⟨(Lib.decDigits W).toArray⟩ : ByteArray) = S at *
  go_enter Tryz.func88, Tryz.ntmps88
  go_wp2_with (go_at_call 67; (with_reducible refine HX.out.mono ?_); rintro e w1 ⟨rfl, b1⟩; have x1 := HT.out.below b1; have y0 := x1.a.at_ 0 rfl; have y1 := x1.a.at_ 1 rfl; have y2 := x1.a.at_ 2 rfl)
  go_loop [6, 7] (fun z p => ∃ (R : ByteArray) (j : Nat) (y : Int), z = .string R ∧ p = .int .i64 y ∧ Hid (R.data.toList = cd W ++ List.replicate j 48) ∧ j ≤ tz W ∧ y + j = E + tz W) (fun z _ => match z with | .string s => s.size | _ => 0)
  case atStart => exact ⟨S, tz W, E, rfl, rfl, hsp, Nat.le_refl _, rfl⟩
  case round =>
    obtain ⟨R, j, y, rfl, rfl, HR, hj, hy⟩ := hrel
    have hcp := HF.out.len
    have hsz : R.size = (cd W).length + j := by rw [Lib.size_eq, HR.out, List.length_append, List.length_replicate]
    have hlt : R.size - 1 < R.size := by omega
    have hR0 : 0 < R.size := by omega
    have hR63 : R.size ≤ 9223372036854775807 := by omega
    cases j with
    | succ j =>
      have hb1 := last_nought HR.out hlt
      have hz : (y + 1) + (j : Int) = E + tz W := by omega
      have hnew : Hid ((R.extract 0 (R.size - 1)).data.toList = cd W ++ List.replicate j 48) := ext_take HR.out
      have hns : Hid ((R.extract 0 (R.size - 1)).size = (cd W).length + j) := by show _ = _; rw [Lib.size_eq, hnew.out, List.length_append, List.length_replicate]
      have HS := Lib.hid hsz
      have HZ := Lib.hid hz
      have hyb : y ≤ 9000000 := by omega
      have hyc : -9000000 ≤ y := by omega
      clear hsz hz hy HR
      go_wp2
      go_round
      case rel => exact ⟨R.extract 0 (R.size - 1), j, y + 1, rfl, rfl, hnew, by omega, HZ.out⟩
      case measure =>
        have := HS.out
        have := hns.out
        simp
        omega
    | zero =>
      have hcd : R.data.toList = cd W := by rw [HR.out]; simp
      have hb1 := last_formed hcd HF.out hlt
      have hb2 := eqB hb1
      have hR := ba_eq hcd
      have hyE : y = ce W E := by rw [hce.out]; omega
      clear hsz HR hcd hy hj
      subst hyE
      unfold dec str at HM
      rw [← hR] at HM
      have HRR := Lib.hid hR
      clear hR
      cases fb
      · have hnf : ¬ fits (cd W) (ce W E) := of_decide_eq_false HFB.out
        have HNF := Lib.hid hnf
        clear hnf
        generalize ce W E = z at *
        go_wp2_with (go_at_call 15; (with_reducible refine (HM.out _).mono ?_); rintro e w3 ⟨rfl, b3⟩; have x3 := (x1.alloc (.cells #[.int .i64 0, .bool g, .string R, .int .i64 z] 23)).below b3; have k3 := four x3.r; have f3 := frz x3.r; have j3 := four ((Bk.start w1 23 #[.int .i64 0, .bool g, .string R, .int .i64 z]).below b3))
        refine bodyPost_ret (res_bk_t rfl _ (x3.r.set4 (.int .i64 0) (.bool false) (.string ⟨#[]⟩) (.int .i64 0) rfl) rfl Tryz.underlying23 rfl (by kernel_rfl)) rfl ⟨by rw [htold.out, if_neg HNF.out]; rfl, below_set4 x3.bl (by omega) _ _ _ _⟩
      · have hnf : fits (cd W) (ce W E) := of_decide_eq_true HFB.out
        have HNF := Lib.hid hnf
        clear hnf
        generalize ce W E = z at *
        go_wp2_with (go_at_call 15; (with_reducible refine (HM.out _).mono ?_); rintro e w3 ⟨rfl, b3⟩; have x3 := (x1.alloc (.cells #[.int .i64 0, .bool g, .string R, .int .i64 z] 23)).below b3; have k3 := four x3.r; have f3 := frz x3.r; have j3 := four ((Bk.start w1 23 #[.int .i64 0, .bool g, .string R, .int .i64 z]).below b3))
        refine bodyPost_ret (res_bk_t rfl _ (x3.r.set4 (.int .i64 0) (.bool g) (.string R) (.int .i64 z) rfl) rfl Tryz.underlying23 rfl (by kernel_rfl)) rfl ⟨by rw [htold.out, if_pos HNF.out]; unfold oc dec str; dsimp only; rw [← HRR.out]; rfl, below_set4 x3.bl (by omega) _ _ _ _⟩
theorem ndec_calls (g neg : Bool) (A : Option Addr) (n c W : Nat) (E : Int) (w : World) (h : SI w .u32 A n c (digs V W)) {K : Nat} (hW : Lo W K) (hK : K ≤ 1000000) (hE : -1000000 ≤ E ∧ E ≤ 1000000) (hg : W ≠ 0 → g = neg) :
    Calls Tryz.prog 88 #[.agg #[.bool g, .slice A n c, .int .i64 E], .bool neg] w (GivesD w neg (told neg W E)) := by
  by_cases h0 : W = 0
  · subst h0
    rw [told_zero]
    exact ndec_zero g neg A n c E w h
  · obtain rfl := hg h0
    exact ndec_pos g A n c W E w h hW hK hE h0
end Go.Proofs.YtkanddmihmdagaaGreatDoor.Dc

/- The document's answer of layer 6: greater. -/
set_option linter.unusedSimpArgs false
set_option linter.unusedVariables false
namespace Go.Proofs.YtkanddmihmdagaaGreatDoor.Dc
open Go.RowKit Go.Proofs.YtkanddmihmdagaaGreatDoor.Dig Go.Proofs.YtkanddmihmdagaaGreatDoor.W Go.Proofs.YtkanddmihmdagaaGreatDoor.Nat Go.Proofs.YtkanddmihmdagaaGreatDoor.Wh Go.Proofs.YtkanddmihmdagaaGreatDoor.Td Go.Proofs.YtkanddmihmdagaaGreatDoor.Bu Go.Proofs.YtkanddmihmdagaaGreatDoor.Tx Go.Proofs.YtkanddmihmdagaaGreatDoor.Sp Go.Proofs.YtkanddmihmdagaaGreatDoor.Rd
open Go.Proofs.YtkanddmihmdagaaGreatDoor.Rf (V V_two V_pos)

end Go.Proofs.YtkanddmihmdagaaGreatDoor.Dc

/- The document's answer of layer 6: To. -/
set_option linter.unusedSimpArgs false
set_option linter.unusedVariables false
namespace Go.Proofs.YtkanddmihmdagaaGreatDoor.Dc
open Go.RowKit Go.Proofs.YtkanddmihmdagaaGreatDoor.Dig Go.Proofs.YtkanddmihmdagaaGreatDoor.W Go.Proofs.YtkanddmihmdagaaGreatDoor.Nat Go.Proofs.YtkanddmihmdagaaGreatDoor.Wh Go.Proofs.YtkanddmihmdagaaGreatDoor.Td Go.Proofs.YtkanddmihmdagaaGreatDoor.Bu Go.Proofs.YtkanddmihmdagaaGreatDoor.Tx Go.Proofs.YtkanddmihmdagaaGreatDoor.Sp Go.Proofs.YtkanddmihmdagaaGreatDoor.Rd
open Go.Proofs.YtkanddmihmdagaaGreatDoor.Rf (V V_two V_pos)

/-- three blocks of three cells: the number, the unit, the answer's cell -/
structure T3 (w W : World) (a0 a1 a2 b0 b1 b2 : Value) : Prop where
  a : Bk W w.heap.size 60 #[a0, a1, a2]
  b : Bk W (w.heap.size + 1) 60 #[b0, b1, b2]
  r : Bk W (w.heap.size + 1 + 1) 60 #[.bool false, .slice none 0 0, .int .i64 0]
  bl : Below w.heap.size w W
section
variable {w W W' : World} {a0 a1 a2 b0 b1 b2 : Value}
theorem T3.start (w : World) (a0 a1 a2 b0 b1 b2 : Value) : T3 w (((w.alloc (.cells #[a0, a1, a2] 60)).alloc (.cells #[b0, b1, b2] 60)).alloc (.cells #[.bool false, .slice none 0 0, .int .i64 0] 60)) a0 a1 a2 b0 b1 b2 := by
  obtain ⟨h1, h2, h3, h4⟩ := bk_three w #[a0, a1, a2] #[b0, b1, b2] #[.bool false, .slice none 0 0, .int .i64 0] 60 60 60
  exact ⟨h1, h2, h3, h4⟩
theorem T3.below (h : T3 w W a0 a1 a2 b0 b1 b2) (hb : Below W.heap.size W W') : T3 w W' a0 a1 a2 b0 b1 b2 := ⟨h.a.below hb, h.b.below hb, h.r.below hb, on h.bl hb⟩
theorem T3.drew (h : T3 w W a0 a1 a2 b0 b1 b2) : T3 w W.drew a0 a1 a2 b0 b1 b2 := ⟨h.a.drew, h.b.drew, h.r.drew, h.bl.drew⟩
theorem T3.ret (h : T3 w W a0 a1 a2 b0 b1 b2) (a b c : Value) : Bk (((W.setCell ⟨w.heap.size + 1 + 1, 0, none⟩ a).setCell ⟨w.heap.size + 1 + 1, 1, none⟩ b).setCell ⟨w.heap.size + 1 + 1, 2, none⟩ c) (w.heap.size + 1 + 1) 60 #[a, b, c] ∧
    Below w.heap.size w (((W.setCell ⟨w.heap.size + 1 + 1, 0, none⟩ a).setCell ⟨w.heap.size + 1 + 1, 1, none⟩ b).setCell ⟨w.heap.size + 1 + 1, 2, none⟩ c) :=
  ⟨Bk.set3 h.r a b c rfl, ((h.bl.setCell (by show _ ≤ w.heap.size + 1 + 1; omega) _).setCell (by show _ ≤ w.heap.size + 1 + 1; omega) _).setCell (by show _ ≤ w.heap.size + 1 + 1; omega) _⟩
theorem T3.res (h : T3 w W a0 a1 a2 b0 b1 b2) : W.cell? ⟨w.heap.size + 1 + 1, 0, none⟩ = some (.bool false) ∧ W.cell? ⟨w.heap.size + 1 + 1, 1, none⟩ = some (.slice none 0 0) ∧ W.cell? ⟨w.heap.size + 1 + 1, 2, none⟩ = some (.int .i64 0) ∧
    W.frozen? ⟨w.heap.size + 1 + 1, 0, none⟩ = false ∧ W.frozen? ⟨w.heap.size + 1 + 1, 1, none⟩ = false ∧ W.frozen? ⟨w.heap.size + 1 + 1, 2, none⟩ = false := ⟨h.r.at_ 0 rfl, h.r.at_ 1 rfl, h.r.at_ 2 rfl, h.r.fr 0, h.r.fr 1, h.r.fr 2⟩
end
theorem three' {w : World} {g : Nat} {t : TypeId} {a0 a1 a2 : Value} (C : Bk w g t #[a0, a1, a2]) : w.cell? ⟨g, 0, none⟩ = some a0 ∧ w.cell? ⟨g, 1, none⟩ = some a1 ∧ w.cell? ⟨g, 2, none⟩ = some a2 := ⟨C.at_ 0 rfl, C.at_ 1 rfl, C.at_ 2 rfl⟩
theorem pair {w : World} {g : Nat} {t : TypeId} {a0 a1 : Value} (C : Bk w g t #[a0, a1]) : w.cell? ⟨g, 0, none⟩ = some a0 ∧ w.cell? ⟨g, 1, none⟩ = some a1 := ⟨C.at_ 0 rfl, C.at_ 1 rfl⟩
theorem pair_far {w : World} {g q : Nat} {t : TypeId} {a0 a1 : Value} (C : Bk w g t #[a0, a1]) (hne : g ≠ q) (a b c : Value) : ((((w.setCell ⟨q, 0, none⟩ a).setCell ⟨q, 1, none⟩ b).setCell ⟨q, 2, none⟩ c).cell? ⟨g, 0, none⟩ = some a0) ∧ ((((w.setCell ⟨q, 0, none⟩ a).setCell ⟨q, 1, none⟩ b).setCell ⟨q, 2, none⟩ c).cell? ⟨g, 1, none⟩ = some a1) :=
  pair (((C.far (a := (⟨q, 0, none⟩ : Addr)) a hne).far (a := (⟨q, 1, none⟩ : Addr)) b hne).far (a := (⟨q, 2, none⟩ : Addr)) c hne)
theorem mul_V (A A' : Option Addr) (n c n' c' x y : Nat) (w : World) (h : SI w .u32 A n c (digs V x)) (h' : SI w .u32 A' n' c' (digs V y)) {K : Nat} (hx : Lo x K) (hy : Lo y K) (hK : K ≤ 100000) :
    Calls Tryz.prog 96 #[.slice A n c, .slice A' n' c'] w (Rf.GivesF w .u32 (digs V (x * y))) := by
  have e := Rf.mul_calls A A' n c n' c' _ _ w h h' (Rw.dv x) (Rw.dv y) (by rw [← h.len]; have := hx.lenV; omega) (by rw [← h'.len]; have := hy.lenV; omega)
  rwa [val_digs V_two, val_digs V_two] at e
theorem add_V (A A' : Option Addr) (n c n' c' x y : Nat) (w : World) (h : SI w .u32 A n c (digs V x)) (h' : SI w .u32 A' n' c' (digs V y)) {K : Nat} (hx : Lo x K) (hy : Lo y K) (hK : K ≤ 100000) :
    Calls Tryz.prog 113 #[.slice A n c, .slice A' n' c'] w (Rf.GivesF w .u32 (digs V (x + y))) := by
  have e := Rf.add_calls A A' n c n' c' _ _ w h h' (Rw.dv x) (Rw.dv y) (by rw [← h.len]; have := hx.lenV; omega) (by rw [← h'.len]; have := hy.lenV; omega)
  rwa [val_digs V_two, val_digs V_two] at e
theorem cmp_V (A A' : Option Addr) (n c n' c' x y : Nat) (w : World) (h : SI w .u32 A n c (digs V x)) (h' : SI w .u32 A' n' c' (digs V y)) :
    Calls Tryz.prog 129 #[.slice A n c, .slice A' n' c'] w fun e w' => e = .returned (.int .i64 (stand x y)) ∧ Drawn w w' := by
  have e := Rf.cmp_calls A A' n c n' c' _ _ w h h' (Rw.dv x) (Rw.dv y)
  rwa [val_digs V_two, val_digs V_two, stand_cmp] at e
theorem make_V (g : Bool) (A : Option Addr) (n c x : Nat) (w : World) (h : SI w .u32 A n c (digs V x)) {K : Nat} (hx : Lo x K) (hK : K ≤ 100000) :
    Calls Tryz.prog 74 #[.bool g, .slice A n c] w (Rw.GivesR w (sg g x)) := Rw.rmake_d g A n c x w h (by rw [← h.len]; have := hx.lenV; omega)
theorem imul_V (z : Int) (A A' : Option Addr) (n c n' c' y : Nat) (w : World) (h : SI w .u32 A n c (digs V z.natAbs)) (h' : SI w .u32 A' n' c' (digs V y)) {K : Nat} (hx : Lo z.natAbs K) (hy : Lo y K) (hK : K ≤ 100000) :
    Calls Tryz.prog 53 #[.agg #[.bool (decide (z < 0)), .slice A n c], .agg #[.bool false, .slice A' n' c']] w (Rw.GivesR w (z * sg false y)) := by
  have e := Rw.rmul_calls (decide (z < 0)) false A A' n c n' c' _ _ w h h' (Rw.dv _) (Rw.dv y) (by rw [← h.len]; have := hx.lenV; omega) (by rw [← h'.len]; have := hy.lenV; omega)
  rwa [val_digs V_two, val_digs V_two, Rw.sg_of] at e
theorem iadd_V (z : Int) (A A' : Option Addr) (n c n' c' y : Nat) (w : World) (h : SI w .u32 A n c (digs V z.natAbs)) (h' : SI w .u32 A' n' c' (digs V y)) {K : Nat} (hx : Lo z.natAbs K) (hy : Lo y K) (hK : K ≤ 100000) :
    Calls Tryz.prog 89 #[.agg #[.bool (decide (z < 0)), .slice A n c], .agg #[.bool false, .slice A' n' c']] w (Rw.GivesR w (z + sg false y)) := by
  have e := Rw.radd_calls (decide (z < 0)) false A A' n c n' c' _ _ w h h' (Rw.dv _) (Rw.dv y) (by rw [← h.len]; have := hx.lenV; omega) (by rw [← h'.len]; have := hy.lenV; omega)
  rwa [val_digs V_two, val_digs V_two, Rw.sg_of] at e
theorem rpow10 (k : Nat) (w : World) (hk : k ≤ 1048576) : Calls Tryz.prog 112 #[.int .i64 10, .int .i64 (k : Nat)] w (Gives w .u32 (digs V (10 ^ k))) := Wh.rpow_calls 10 k w (by omega) (by omega) hk
theorem one_V (w : World) : SI (w.alloc (.cells #[.int .u32 1] 129)) .u32 (some ⟨w.heap.size, 0, none⟩) 1 1 (digs V 1) := by
  rw [show digs V 1 = [1] from digs_one V_two (by unfold Rf.V; omega) (by omega)]
  exact Rw.lit1R w _ rfl
/-- what To hands back -/
def GivesT (w : World) (z : Int) (E : Int) (e : Ending) (w' : World) : Prop :=
  ∃ A n c, e = .returned (.agg #[.bool (decide (z < 0)), .slice A n c, .int .i64 E]) ∧ SI w' .u32 A n c (digs V z.natAbs) ∧ Below w.heap.size w w'
theorem si_two' {w : World} {k : IntKind} {A : Option Addr} {n c g : Nat} {l : List Nat} {t : TypeId} {b : Bool} {X : Option Addr} {y z : Nat} (h : SI w k A n c l) (hT : Bk w g t #[.bool b, .slice X y z]) (u v : Value) :
    SI ((w.setCell ⟨g, 0, none⟩ u).setCell ⟨g, 1, none⟩ v) k A n c l := Wh.si_two h hT u v
end Go.Proofs.YtkanddmihmdagaaGreatDoor.Dc

/- The document's answer of layer 6: small, power; At. -/
set_option linter.unusedSimpArgs false
set_option linter.unusedVariables false
namespace Go.Proofs.YtkanddmihmdagaaGreatDoor.Dc
open Go.RowKit Go.Proofs.YtkanddmihmdagaaGreatDoor.Dig Go.Proofs.YtkanddmihmdagaaGreatDoor.W Go.Proofs.YtkanddmihmdagaaGreatDoor.Nat Go.Proofs.YtkanddmihmdagaaGreatDoor.Wh Go.Proofs.YtkanddmihmdagaaGreatDoor.Td Go.Proofs.YtkanddmihmdagaaGreatDoor.Bu Go.Proofs.YtkanddmihmdagaaGreatDoor.Tx Go.Proofs.YtkanddmihmdagaaGreatDoor.Sp Go.Proofs.YtkanddmihmdagaaGreatDoor.Rd
open Go.Proofs.YtkanddmihmdagaaGreatDoor.Rf (V V_two V_pos)

/-- the place that the reference works with -/
def sml (l : List UInt8) (x place : Int) : Int := if place < x then x else if (l.length : Int) + x + 2 < place then (l.length : Int) + x + 2 else place
theorem make_one (g : Bool) (A : Option Addr) (n c : Nat) (w : World) (h : SI w .u32 A n c (digs V 1)) :
    Calls Tryz.prog 74 #[.bool g, .slice A n c] w fun e w' => ∃ A n c, e = .returned (.agg #[.bool g, .slice A n c]) ∧ SI w' .u32 A n c (digs V 1) ∧ (∀ b o s, A = some ⟨b, o, s⟩ → w.heap.size ≤ b) ∧ Below w.heap.size w w' := by
  have e := make_V g A n c 1 w h Lo.one (by omega)
  unfold Rw.GivesR at e
  rwa [sg_pos (by omega), sg_abs] at e
end Go.Proofs.YtkanddmihmdagaaGreatDoor.Dc

/- The document's answer of layer 6: At. -/
set_option linter.unusedSimpArgs false
set_option linter.unusedVariables false
namespace Go.Proofs.YtkanddmihmdagaaGreatDoor.Dc
open Go.RowKit Go.Proofs.YtkanddmihmdagaaGreatDoor.Dig Go.Proofs.YtkanddmihmdagaaGreatDoor.W Go.Proofs.YtkanddmihmdagaaGreatDoor.Nat Go.Proofs.YtkanddmihmdagaaGreatDoor.Wh Go.Proofs.YtkanddmihmdagaaGreatDoor.Td Go.Proofs.YtkanddmihmdagaaGreatDoor.Bu Go.Proofs.YtkanddmihmdagaaGreatDoor.Tx Go.Proofs.YtkanddmihmdagaaGreatDoor.Sp Go.Proofs.YtkanddmihmdagaaGreatDoor.Rd
open Go.Proofs.YtkanddmihmdagaaGreatDoor.Rf (V V_two V_pos)

theorem near_told {mode : Nat} {g : Bool} {l : List UInt8} {x place : Int} (hF : Formed l) (hf : fits l x) (h : ¬ sml l x place < place) :
    told g (rto mode g (nv 0 l) x 1 (sml l x place) * (1 * 10 ^ (sml l x place - min x (sml l x place)).toNat)) (min x (sml l x place)) = pw mode g l x place := by
  rw [told_low mode g (nv 0 l) x 1 (sml l x place), Nat.mul_one]
  have hn : 0 < l.length := hF.len
  by_cases h1 : place < x
  · have e : sml l x place = x := by unfold sml; rw [if_pos h1]
    rw [e]
    show pw mode g l x x = _
    rw [pw_low hF hf (Int.le_refl _), pw_low hF hf (by omega)]
  · have e : sml l x place = place := by
      unfold sml at h ⊢
      rw [if_neg h1] at h ⊢
      by_cases h2 : (l.length : Int) + x + 2 < place
      · rw [if_pos h2] at h; omega
      · rw [if_neg h2]
    rw [e]
    rfl
theorem near_far {mode : Nat} {g : Bool} {l : List UInt8} {x place : Int} (hF : Formed l) (h : sml l x place < place) :
    sml l x place = (l.length : Int) + x + 2 ∧ ((rto mode g (nv 0 l) x 1 (sml l x place) * (1 * 10 ^ (sml l x place - min x (sml l x place)).toNat) = 0 ∧ pw mode g l x place = some ([], 0)) ∨ (rto mode g (nv 0 l) x 1 (sml l x place) * (1 * 10 ^ (sml l x place - min x (sml l x place)).toNat) ≠ 0 ∧ pw mode g l x place = told g 1 place)) := by
  have e : sml l x place = (l.length : Int) + x + 2 := by
    unfold sml at h ⊢
    by_cases h1 : place < x
    · rw [if_pos h1] at h; omega
    · rw [if_neg h1] at h ⊢
      by_cases h2 : (l.length : Int) + x + 2 < place
      · rw [if_pos h2]
      · rw [if_neg h2] at h; omega
  refine ⟨e, ?_⟩
  rw [e] at h
  unfold pw
  rw [e, rto_high hF (by omega), rto_high hF (by omega)]
  cases up mode g false (-1)
  · exact .inl ⟨by simp, by rw [show (false : Bool).toNat = 0 from rfl, told_zero]⟩
  · refine .inr ⟨?_, rfl⟩
    rw [show (true : Bool).toNat = 1 from rfl, Nat.one_mul, Nat.one_mul]
    exact Nat.pos_iff_ne_zero.1 (Nat.pow_pos (by omega))
theorem sml_bound {l : List UInt8} {x place : Int} (hl : l.length ≤ 1000) (hx : -4000 ≤ x ∧ x ≤ 4000) (hp : -4000 ≤ place ∧ place ≤ 4000) : -9000 ≤ sml l x place ∧ sml l x place ≤ 9000 := by
  unfold sml
  by_cases h1 : place < x
  · rw [if_pos h1]; omega
  · rw [if_neg h1]
    by_cases h2 : (l.length : Int) + x + 2 < place
    · rw [if_pos h2]; omega
    · rw [if_neg h2]; omega
theorem Lo.rnd {mode : Nat} {g : Bool} {A U K : Nat} (h : Lo A K) : Lo (rnd mode g A U) (K + 1) := (h.succ).le (Nat.le_trans (rnd_near mode g A U).2 (Nat.succ_le_succ (Nat.div_le_self _ _)))
theorem lo_rto {mode : Nat} {g : Bool} {D u K : Nat} {x y : Int} (hD : Lo D K) (hu : Lo u K) (hK : K ≤ 1000) (hx : -10000 ≤ x ∧ x ≤ 10000) (hy : -10000 ≤ y ∧ y ≤ 10000) :
    Lo (rto mode g D x u y * (u * 10 ^ (y - min x y).toNat)) 100000 := by
  have h1 : Lo (rto mode g D x u y) (21002) := by
    unfold rto
    exact ((hD.mul (Lo.pow (x - min x y).toNat)).mono (show _ ≤ 21001 by omega)).rnd
  exact (h1.mul (hu.mul (Lo.pow (y - min x y).toNat))).mono (by omega)
theorem one_VV (w : World) (o : Obj) : SI ((w.alloc o).alloc (.cells #[.int .u32 1] 129)) .u32 (some ⟨w.heap.size + 1, 0, none⟩) 1 1 (digs V 1) := by
  have e := one_V (w.alloc o)
  rwa [show (w.alloc o).heap.size = w.heap.size + 1 by simp] at e
/-- what At holds: the box, the answer's cell, the number's cell -/
structure TQ (w W : World) (g : Bool) (S : ByteArray) (x : Int) (q : Nat) (b0 b1 b2 : Value) : Prop where
  t : TV w W (.int .i64 0) (.bool g) (.string S) (.int .i64 x)
  q : Bk W q 60 #[b0, b1, b2]
theorem TQ.below {w W W' : World} {g : Bool} {S : ByteArray} {x : Int} {q : Nat} {b0 b1 b2 : Value} (h : TQ w W g S x q b0 b1 b2) (hb : Below W.heap.size W W') : TQ w W' g S x q b0 b1 b2 := ⟨h.t.below hb, h.q.below hb⟩
theorem TV.farC {w W : World} {a0 a1 a2 a3 : Value} (h : TV w W a0 a1 a2 a3) {p : Addr} (hp : w.heap.size + 1 < p.block) (v : Value) : TV w (W.setCell p v) a0 a1 a2 a3 :=
  ⟨h.a.far v (by omega), h.r.far v (by omega), h.bl.setCell (by omega) v⟩
end Go.Proofs.YtkanddmihmdagaaGreatDoor.Dc

/- Layer 6: At joined; round.Digits. -/
set_option linter.unusedSimpArgs false
set_option linter.unusedVariables false
namespace Go.Proofs.YtkanddmihmdagaaGreatDoor.Dc
open Go.RowKit Go.Proofs.YtkanddmihmdagaaGreatDoor.Dig Go.Proofs.YtkanddmihmdagaaGreatDoor.W Go.Proofs.YtkanddmihmdagaaGreatDoor.Nat Go.Proofs.YtkanddmihmdagaaGreatDoor.Wh Go.Proofs.YtkanddmihmdagaaGreatDoor.Td Go.Proofs.YtkanddmihmdagaaGreatDoor.Bu Go.Proofs.YtkanddmihmdagaaGreatDoor.Tx Go.Proofs.YtkanddmihmdagaaGreatDoor.Sp Go.Proofs.YtkanddmihmdagaaGreatDoor.Rd
open Go.Proofs.YtkanddmihmdagaaGreatDoor.Rf (V V_two V_pos)

end Go.Proofs.YtkanddmihmdagaaGreatDoor.Dc

/- Layer 6: round.Step. -/
set_option linter.unusedSimpArgs false
set_option linter.unusedVariables false
namespace Go.Proofs.YtkanddmihmdagaaGreatDoor.Dc
open Go.RowKit Go.Proofs.YtkanddmihmdagaaGreatDoor.Dig Go.Proofs.YtkanddmihmdagaaGreatDoor.W Go.Proofs.YtkanddmihmdagaaGreatDoor.Nat Go.Proofs.YtkanddmihmdagaaGreatDoor.Wh Go.Proofs.YtkanddmihmdagaaGreatDoor.Td Go.Proofs.YtkanddmihmdagaaGreatDoor.Bu Go.Proofs.YtkanddmihmdagaaGreatDoor.Tx Go.Proofs.YtkanddmihmdagaaGreatDoor.Sp Go.Proofs.YtkanddmihmdagaaGreatDoor.Rd
open Go.Proofs.YtkanddmihmdagaaGreatDoor.Rf (V V_two V_pos)

/-- two boxes of four cells and the result's cell -/
structure TS (w W : World) (a0 a1 a2 a3 b0 b1 b2 b3 : Value) : Prop where
  a : Bk W w.heap.size 23 #[a0, a1, a2, a3]
  b : Bk W (w.heap.size + 1) 23 #[b0, b1, b2, b3]
  r : Bk W (w.heap.size + 1 + 1) 23 #[.int .i64 0, .bool false, .string ⟨#[]⟩, .int .i64 0]
  bl : Below w.heap.size w W
def KS (w W : World) (a0 a1 a2 a3 b0 b1 b2 b3 : Value) : Prop :=
  W.cell? ⟨w.heap.size, 0, none⟩ = some a0 ∧ W.cell? ⟨w.heap.size, 1, none⟩ = some a1 ∧ W.cell? ⟨w.heap.size, 2, none⟩ = some a2 ∧ W.cell? ⟨w.heap.size, 3, none⟩ = some a3 ∧
  W.cell? ⟨w.heap.size + 1, 0, none⟩ = some b0 ∧ W.cell? ⟨w.heap.size + 1, 1, none⟩ = some b1 ∧ W.cell? ⟨w.heap.size + 1, 2, none⟩ = some b2 ∧ W.cell? ⟨w.heap.size + 1, 3, none⟩ = some b3
section
variable {w W W' : World} {a0 a1 a2 a3 b0 b1 b2 b3 : Value}
theorem TS.start (w : World) (a0 a1 a2 a3 b0 b1 b2 b3 : Value) : TS w (((w.alloc (.cells #[a0, a1, a2, a3] 23)).alloc (.cells #[b0, b1, b2, b3] 23)).alloc (.cells #[.int .i64 0, .bool false, .string ⟨#[]⟩, .int .i64 0] 23)) a0 a1 a2 a3 b0 b1 b2 b3 := by
  obtain ⟨h1, h2, h3, h4⟩ := bk_three w #[a0, a1, a2, a3] #[b0, b1, b2, b3] #[.int .i64 0, .bool false, .string ⟨#[]⟩, .int .i64 0] 23 23 23
  exact ⟨h1, h2, h3, h4⟩
theorem TS.below (h : TS w W a0 a1 a2 a3 b0 b1 b2 b3) (hb : Below W.heap.size W W') : TS w W' a0 a1 a2 a3 b0 b1 b2 b3 := ⟨h.a.below hb, h.b.below hb, h.r.below hb, on h.bl hb⟩
theorem TS.drew (h : TS w W a0 a1 a2 a3 b0 b1 b2 b3) : TS w W.drew a0 a1 a2 a3 b0 b1 b2 b3 := ⟨h.a.drew, h.b.drew, h.r.drew, h.bl.drew⟩
theorem TS.alloc (h : TS w W a0 a1 a2 a3 b0 b1 b2 b3) (o : Obj) : TS w (W.alloc o) a0 a1 a2 a3 b0 b1 b2 b3 := h.below (alloc_below _ _)
theorem TS.keep (h : TS w W a0 a1 a2 a3 b0 b1 b2 b3) : KS w W a0 a1 a2 a3 b0 b1 b2 b3 := ⟨h.a.at_ 0 rfl, h.a.at_ 1 rfl, h.a.at_ 2 rfl, h.a.at_ 3 rfl, h.b.at_ 0 rfl, h.b.at_ 1 rfl, h.b.at_ 2 rfl, h.b.at_ 3 rfl⟩
theorem TS.res (h : TS w W a0 a1 a2 a3 b0 b1 b2 b3) : W.cell? ⟨w.heap.size + 1 + 1, 0, none⟩ = some (.int .i64 0) ∧ W.cell? ⟨w.heap.size + 1 + 1, 1, none⟩ = some (.bool false) ∧ W.cell? ⟨w.heap.size + 1 + 1, 2, none⟩ = some (.string ⟨#[]⟩) ∧ W.cell? ⟨w.heap.size + 1 + 1, 3, none⟩ = some (.int .i64 0) ∧
    W.frozen? ⟨w.heap.size + 1 + 1, 0, none⟩ = false ∧ W.frozen? ⟨w.heap.size + 1 + 1, 1, none⟩ = false ∧ W.frozen? ⟨w.heap.size + 1 + 1, 2, none⟩ = false ∧ W.frozen? ⟨w.heap.size + 1 + 1, 3, none⟩ = false :=
  ⟨h.r.at_ 0 rfl, h.r.at_ 1 rfl, h.r.at_ 2 rfl, h.r.at_ 3 rfl, h.r.fr 0, h.r.fr 1, h.r.fr 2, h.r.fr 3⟩
theorem TS.ret (h : TS w W a0 a1 a2 a3 b0 b1 b2 b3) (a b c d : Value) : Bk ((((W.setCell ⟨w.heap.size + 1 + 1, 0, none⟩ a).setCell ⟨w.heap.size + 1 + 1, 1, none⟩ b).setCell ⟨w.heap.size + 1 + 1, 2, none⟩ c).setCell ⟨w.heap.size + 1 + 1, 3, none⟩ d) (w.heap.size + 1 + 1) 23 #[a, b, c, d] ∧ Below w.heap.size w ((((W.setCell ⟨w.heap.size + 1 + 1, 0, none⟩ a).setCell ⟨w.heap.size + 1 + 1, 1, none⟩ b).setCell ⟨w.heap.size + 1 + 1, 2, none⟩ c).setCell ⟨w.heap.size + 1 + 1, 3, none⟩ d) :=
  ⟨h.r.set4 a b c d rfl, below_set4 h.bl (by omega) a b c d⟩
theorem TS.fars (h : TS w W a0 a1 a2 a3 b0 b1 b2 b3) (a b c d : Value) : KS w ((((W.setCell ⟨w.heap.size + 1 + 1, 0, none⟩ a).setCell ⟨w.heap.size + 1 + 1, 1, none⟩ b).setCell ⟨w.heap.size + 1 + 1, 2, none⟩ c).setCell ⟨w.heap.size + 1 + 1, 3, none⟩ d) a0 a1 a2 a3 b0 b1 b2 b3 := by
  have k : ∀ {V : World} {G : Nat} {cs : Array Value} (p : Addr) (v : Value), p.block ≠ G → Bk V G 23 cs → Bk (V.setCell p v) G 23 cs := fun p v hne hk => hk.far v (fun e => hne e.symm)
  have n1 : ∀ j, (⟨w.heap.size + 1 + 1, j, none⟩ : Addr).block ≠ w.heap.size := fun j => by show w.heap.size + 1 + 1 ≠ w.heap.size; omega
  have n2 : ∀ j, (⟨w.heap.size + 1 + 1, j, none⟩ : Addr).block ≠ w.heap.size + 1 := fun j => by show w.heap.size + 1 + 1 ≠ w.heap.size + 1; omega
  have h1 := k _ d (n1 3) (k _ c (n1 2) (k _ b (n1 1) (k _ a (n1 0) h.a)))
  have h2 := k _ d (n2 3) (k _ c (n2 2) (k _ b (n2 1) (k _ a (n2 0) h.b)))
  exact ⟨h1.at_ 0 rfl, h1.at_ 1 rfl, h1.at_ 2 rfl, h1.at_ 3 rfl, h2.at_ 0 rfl, h2.at_ 1 rfl, h2.at_ 2 rfl, h2.at_ 3 rfl⟩
end
def stV (c : Int) (g : Bool) (l : List UInt8) (x : Int) (c' : Int) (g' : Bool) (l' : List UInt8) (x' mode : Int) : Array Value × Int :=
  if mayB c' g' l' x' = false then (dec 0 false [] 0, 52) else if askE (mayB c g l x) mode ≠ 0 then (dec 0 false [] 0, askE (mayB c g l x) mode)
  else if l' = [] ∨ g' = true ∨ 32 < l'.length then (dec 0 false [] 0, 62) else if l = [] then (dec c g l x, 0)
  else (oc g (told g (rto mode.toNat g (nv 0 l) x (nv 0 l') x' * nv 0 l') x'), oe (told g (rto mode.toNat g (nv 0 l) x (nv 0 l') x' * nv 0 l') x'))
end Go.Proofs.YtkanddmihmdagaaGreatDoor.Dc

/- Layer 6's laws: awake. -/
set_option linter.unusedSimpArgs false
set_option linter.unusedVariables false
namespace Go.Proofs.YtkanddmihmdagaaGreatDoor.Dc
open Go.RowKit Go.Proofs.YtkanddmihmdagaaGreatDoor.Dig Go.Proofs.YtkanddmihmdagaaGreatDoor.W Go.Proofs.YtkanddmihmdagaaGreatDoor.Nat Go.Proofs.YtkanddmihmdagaaGreatDoor.Wh Go.Proofs.YtkanddmihmdagaaGreatDoor.Td Go.Proofs.YtkanddmihmdagaaGreatDoor.Bu Go.Proofs.YtkanddmihmdagaaGreatDoor.Tx Go.Proofs.YtkanddmihmdagaaGreatDoor.Sp Go.Proofs.YtkanddmihmdagaaGreatDoor.Rd

theorem formed_3 : Formed [51] := ⟨by decide, ⟨51, [], rfl, rfl⟩, ⟨[], 51, rfl, rfl⟩⟩
theorem formed_1 : Formed [49] := ⟨by decide, ⟨49, [], rfl, rfl⟩, ⟨[], 49, rfl, rfl⟩⟩
theorem lit_a : atV 0 false [50, 53] (-1) 0 7 = (dec 0 false [51] 0, 0) := by
  have e1 : askE (mayB 0 false [50, 53] (-1)) 7 = 0 := by decide
  have e2 : rto 7 false (nv 0 [50, 53]) (-1) 1 0 = nv 0 [51] := by decide
  have e3 : pw 7 false [50, 53] (-1) 0 = some ([51], 0) := by
    unfold pw
    rw [e2]
    exact told_own formed_3 (by decide)
  unfold atV fin
  rw [e1, if_neg (by decide), if_neg (by decide), if_neg (by decide), show (7 : Int).toNat = 7 from rfl, e3]
  rfl
theorem lit_b : dgV 0 false [57, 57, 57, 53] 0 3 4 = (dec 0 false [49] 4, 0) := by
  have e1 : askE (mayB 0 false [57, 57, 57, 53] 0) 4 = 0 := by decide
  have e2 : rto 4 false (nv 0 [57, 57, 57, 53]) 0 1 1 = nv 0 [49] * 10 ^ 3 := by decide
  have e3 : pw 4 false [57, 57, 57, 53] 0 1 = some ([49], 4) := by
    unfold pw
    rw [e2, told_mul]
    exact told_own formed_1 (by decide)
  unfold dgV fin
  rw [e1, if_neg (by decide), if_neg (by decide), if_neg (by decide), show (4 : Int).toNat = 4 from rfl, show (([57, 57, 57, 53] : List UInt8).length : Int) + 0 - 3 = 1 from rfl, e3]
  rfl
theorem lit_c : stV 0 false [49, 50] (-1) 0 false [53] (-1) 4 = (dec 0 false [49] 0, 0) := by
  have e1 : askE (mayB 0 false [49, 50] (-1)) 4 = 0 := by decide
  have e2 : rto 4 false (nv 0 [49, 50]) (-1) (nv 0 [53]) (-1) * nv 0 [53] = nv 0 [49] * 10 ^ 1 := by decide
  have e3 : told false (rto 4 false (nv 0 [49, 50]) (-1) (nv 0 [53]) (-1) * nv 0 [53]) (-1) = some ([49], 0) := by
    rw [e2, told_mul]
    exact told_own formed_1 (by decide)
  unfold stV
  rw [if_neg (by decide), e1, if_neg (by decide), if_neg (by decide), if_neg (by decide), show (4 : Int).toNat = 4 from rfl, e3]
  rfl
theorem lit_d : atV 0 false [49] 0 0 8 = (dec 0 false [] 0, 60) := by
  have e1 : askE (mayB 0 false [49] 0) 8 = 60 := by decide
  unfold atV
  rw [e1, if_pos (by decide)]
theorem lit_e : dgV 0 false [49] 0 0 0 = (dec 0 false [] 0, 61) := by
  have e1 : askE (mayB 0 false [49] 0) 0 = 0 := by decide
  unfold dgV
  rw [e1, if_neg (by decide), if_pos (by decide)]
theorem lit_f : stV 0 false [49] 0 0 false [] 0 0 = (dec 0 false [] 0, 62) := by
  have e1 : askE (mayB 0 false [49] 0) 0 = 0 := by decide
  unfold stV
  rw [if_neg (by decide), e1, if_neg (by decide), if_pos (by decide)]
theorem lit_g : atV 0 false [49, 48] 0 0 0 = (dec 0 false [] 0, 52) := by
  have e1 : askE (mayB 0 false [49, 48] 0) 0 = 52 := by decide
  unfold atV
  rw [e1, if_pos (by decide)]
theorem keepA {w : World} {g1 g2 g3 : Nat} {t : TypeId} {a0 a1 a2 a3 c0 c1 c2 c3 d0 d1 d2 d3 : Value} (C : Bk w g1 t #[a0, a1, a2, a3]) (D : Bk w g2 t #[c0, c1, c2, c3]) (E : Bk w g3 t #[d0, d1, d2, d3]) :
    w.cell? ⟨g1, 0, none⟩ = some a0 ∧ w.cell? ⟨g1, 1, none⟩ = some a1 ∧ w.cell? ⟨g1, 2, none⟩ = some a2 ∧ w.cell? ⟨g1, 3, none⟩ = some a3 ∧ w.cell? ⟨g2, 0, none⟩ = some c0 ∧ w.cell? ⟨g2, 1, none⟩ = some c1 ∧ w.cell? ⟨g2, 2, none⟩ = some c2 ∧ w.cell? ⟨g2, 3, none⟩ = some c3 ∧ w.cell? ⟨g3, 0, none⟩ = some d0 ∧ w.cell? ⟨g3, 1, none⟩ = some d1 ∧ w.cell? ⟨g3, 2, none⟩ = some d2 ∧ w.cell? ⟨g3, 3, none⟩ = some d3 :=
  ⟨C.at_ 0 rfl, C.at_ 1 rfl, C.at_ 2 rfl, C.at_ 3 rfl, D.at_ 0 rfl, D.at_ 1 rfl, D.at_ 2 rfl, D.at_ 3 rfl, E.at_ 0 rfl, E.at_ 1 rfl, E.at_ 2 rfl, E.at_ 3 rfl⟩
attribute [local go_sem ↓] eq_dec
end Go.Proofs.YtkanddmihmdagaaGreatDoor.Dc

/- Layer 6's laws: RoundPlaces. -/
set_option linter.unusedSimpArgs false
set_option linter.unusedVariables false
namespace Go.Proofs.YtkanddmihmdagaaGreatDoor.Dc
open Go.RowKit Go.Proofs.YtkanddmihmdagaaGreatDoor.Dig Go.Proofs.YtkanddmihmdagaaGreatDoor.W Go.Proofs.YtkanddmihmdagaaGreatDoor.Nat Go.Proofs.YtkanddmihmdagaaGreatDoor.Wh Go.Proofs.YtkanddmihmdagaaGreatDoor.Td Go.Proofs.YtkanddmihmdagaaGreatDoor.Bu Go.Proofs.YtkanddmihmdagaaGreatDoor.Tx Go.Proofs.YtkanddmihmdagaaGreatDoor.Sp Go.Proofs.YtkanddmihmdagaaGreatDoor.Rd
theorem fin_four (mode c : Int) (g : Bool) (l : List UInt8) (x place : Int) : ∃ c4 g4 l4 x4, (fin mode c g l x place).1 = #[.int .i64 c4, .bool g4, .string l4, .int .i64 x4] := by
  unfold fin
  split
  · exact ⟨_, _, _, _, rfl⟩
  · obtain ⟨g', l', x', e⟩ := oc_four g (pw mode.toNat g l x place)
    exact ⟨0, g', l', x', e⟩
theorem atV_four (c : Int) (g : Bool) (l : List UInt8) (x place mode : Int) : ∃ c4 g4 l4 x4, (atV c g l x place mode).1 = #[.int .i64 c4, .bool g4, .string l4, .int .i64 x4] := by
  unfold atV
  split
  · exact ⟨_, _, _, _, rfl⟩
  · split
    · exact ⟨_, _, _, _, rfl⟩
    · exact fin_four ..
theorem dgV_four (c : Int) (g : Bool) (l : List UInt8) (x n mode : Int) : ∃ c4 g4 l4 x4, (dgV c g l x n mode).1 = #[.int .i64 c4, .bool g4, .string l4, .int .i64 x4] := by
  unfold dgV
  split
  · exact ⟨_, _, _, _, rfl⟩
  · split
    · exact ⟨_, _, _, _, rfl⟩
    · exact fin_four ..
attribute [local go_sem ↓] eq_dec
end Go.Proofs.YtkanddmihmdagaaGreatDoor.Dc
