/- Texts of one layer, joined: Dv. -/
import Derived.Test.YtllpggdmkdgggaaGreatDoorGP
set_option linter.unusedVariables false
set_option linter.unusedSimpArgs false
set_option linter.unusedSectionVars false
/- Layer 6's laws: RoundPlaces. -/
set_option linter.unusedSimpArgs false
set_option linter.unusedVariables false
namespace Go.Proofs.YtllpggdmkdgggaaGreatDoor.Dc
open Go.RowKit Go.Proofs.YtllpggdmkdgggaaGreatDoor.Dig Go.Proofs.YtllpggdmkdgggaaGreatDoor.W Go.Proofs.YtllpggdmkdgggaaGreatDoor.Nat Go.Proofs.YtllpggdmkdgggaaGreatDoor.Wh Go.Proofs.YtllpggdmkdgggaaGreatDoor.Td Go.Proofs.YtllpggdmkdgggaaGreatDoor.Bu Go.Proofs.YtllpggdmkdgggaaGreatDoor.Tx Go.Proofs.YtllpggdmkdgggaaGreatDoor.Sp Go.Proofs.YtllpggdmkdgggaaGreatDoor.Rd
theorem fin_four (mode c : Int) (g : Bool) (l : List UInt8) (x place : Int) : ∃ c4 g4 l4 x4, (fin mode c g l x place).1 = #[.int .i64 c4, .bool g4, .string l4, .int .i64 x4] := by
  unfold fin
  split
  · exact ⟨_, _, _, _, rfl⟩
  · obtain ⟨g', l', x', e⟩ := oc_four g (pw mode.toNat g l x place)
    exact ⟨0, g', l', x', e⟩
theorem atV_four (c : Int) (g : Bool) (l : List UInt8) (x place mode : Int) : ∃ c4 g4 l4 x4, (atV c g l x place mode).1 = #[.int .i64 c4, .bool g4, .string l4, .int .i64 x4] := by
  unfold atV
  split
  · exact ⟨_, _, _, _, rfl⟩
  · split
    · exact ⟨_, _, _, _, rfl⟩
    · exact fin_four ..
theorem dgV_four (c : Int) (g : Bool) (l : List UInt8) (x n mode : Int) : ∃ c4 g4 l4 x4, (dgV c g l x n mode).1 = #[.int .i64 c4, .bool g4, .string l4, .int .i64 x4] := by
  unfold dgV
  split
  · exact ⟨_, _, _, _, rfl⟩
  · split
    · exact ⟨_, _, _, _, rfl⟩
    · exact fin_four ..
attribute [local go_sem ↓] eq_dec
set_option maxHeartbeats 8000000 in
set_option maxRecDepth 100000 in
theorem roundPlaces_calls (c : Int) (g : Bool) (l : List UInt8) (x place mode : Int) (w : World) (hp : Pow w) (hl : l.length ≤ 9223372036854775807) :
    Calls Tryz.prog 3 #[.agg (dec c g l x), .int .i64 place, .int .i64 mode] w fun e w' => e = .returned (.bool true) ∧ Below w.heap.size w w' := by
  have D0 := Lib.hid (Bk.start w 23 #[.int .i64 c, .bool g, .string ⟨l.toArray⟩, .int .i64 x])
  have b0 := alloc_below w (.cells #[.int .i64 c, .bool g, .string ⟨l.toArray⟩, .int .i64 x] 23)
  have H1 := Lib.hid (at_calls c g l x place mode _ (hp.below b0) hl)
  have H2 := Lib.hid (fun w1 => nat_calls c g l x place mode w1)
  have HA := Lib.hid (fun W (bl : Below w.heap.size w W) => awake_calls W (hp.below bl))
  have B0 := Lib.hid b0
  have ng := no_guard
  unfold Res at H1 H2
  obtain ⟨c4, g4, l4, x4, e4⟩ := atV_four c g l x place mode
  rw [e4] at H1 H2
  generalize (atV c g l x place mode).2 = er at *
  unfold dec str at *
  generalize (⟨l.toArray⟩ : ByteArray) = S at *
  clear hp b0 e4
  go_enter Tryz.func3, Tryz.ntmps3
  go_wp2_with (first
    | (go_at_call 11; (with_reducible refine H1.out.mono ?_); rintro e w1 ⟨rfl, b1⟩; have d1 := (D0.out.below b1).alloc (.cells #[.int .i64 c4, .bool g4, .string l4, .int .i64 x4] 23); have k1 := four d1)
    | (go_at_call 12; (with_reducible refine (H2.out _).mono ?_); rintro e w2 ⟨rfl, b2⟩; have y2 := ((Bk.start w1 23 #[.int .i64 c4, .bool g4, .string l4, .int .i64 x4]).below b2).alloc (.cells #[.int .i64 c4, .bool g4, .string l4, .int .i64 x4] 23); have z2 := Bk.start w2 23 #[.int .i64 c4, .bool g4, .string l4, .int .i64 x4]; have l2 := on (on (on (on B0.out b1) (alloc_below w1 _)) b2) (alloc_below w2 (.cells #[.int .i64 c4, .bool g4, .string l4, .int .i64 x4] 23)))
    | (go_at_call 13; (with_reducible refine (HA.out _ l2).mono ?_); rintro e w3 ⟨rfl, b3⟩; have y3 := four (y2.below b3); have z3 := four (z2.below b3); have l3 := on l2 b3))
  go_ret
  exact ⟨rfl, l3⟩
end Go.Proofs.YtllpggdmkdgggaaGreatDoor.Dc
