/- Texts of one layer, joined: Jb. -/
import Derived.Test.YtphpcpomhcodpaaGreatDoorGK
import Derived.Test.YtphpcpomhcodpaaGreatDoorGJ
set_option linter.unusedVariables false
set_option linter.unusedSimpArgs false
set_option linter.unusedSectionVars false
/- Layer 3's laws: ShortestWide, ShortestNarrow, ShortestExact. -/
set_option linter.unusedSimpArgs false
set_option linter.unusedVariables false
namespace Go.Proofs.YtphpcpomhcodpaaGreatDoor.Sh
open Go.RowKit Go.Proofs.YtphpcpomhcodpaaGreatDoor.Dig Go.Proofs.YtphpcpomhcodpaaGreatDoor.W Go.Proofs.YtphpcpomhcodpaaGreatDoor.Nat Go.Proofs.YtphpcpomhcodpaaGreatDoor.Wh Go.Proofs.YtphpcpomhcodpaaGreatDoor.Td Go.Proofs.YtphpcpomhcodpaaGreatDoor.Bu Go.Proofs.YtphpcpomhcodpaaGreatDoor.Tx Go.Proofs.YtphpcpomhcodpaaGreatDoor.Sp

attribute [local go_sem ↓] eq_dec
set_option maxHeartbeats 4000000 in
theorem shortestWide_calls (z : Int) (h0 : 0 ≤ z) (h1 : z < 18446744073709551616) (w : World) (hp : Pow w) :
    Calls Tryz.prog 3 #[.int .u64 z] w fun e w' => e = .returned (.bool true) ∧ Below w.heap.size w w' := by
  obtain ⟨bits, rfl⟩ : ∃ bits : Nat, z = bits := ⟨z.toNat, by omega⟩
  have hb : bits < 18446744073709551616 := by omega
  obtain ⟨c, g, l, x, he⟩ := oV_four_w bits
  have HA := Lib.hid (awake_calls w hp)
  have HO := Lib.hid (fun w1 (b : Below w.heap.size w w1) => he ▸ Of64_calls hb w1 (hp.below b))
  have HR := Lib.hid (fun w1 => he ▸ rof_calls_w hb w1)
  have ng := no_guard
  clear he hp
  go_enter Tryz.func3, Tryz.ntmps3
  go_wp2_with (first
    | (go_at_call 8; (with_reducible refine HA.out.mono ?_); rintro e w1 ⟨rfl, b1⟩)
    | (go_at_call 9; (with_reducible refine (HO.out w1 b1).mono ?_); rintro e w2 ⟨rfl, b2⟩)
    | (go_at_call 10; (with_reducible refine (wide_calls w2).mono ?_); rintro e w3 ⟨rfl, b3⟩)
    | (go_at_call 11; (with_reducible refine (HR.out w3).mono ?_); rintro e w4 ⟨rfl, b4⟩))
  go_ret
  exact ⟨rfl, on (on (on b1 b2) b3) b4⟩
set_option maxHeartbeats 4000000 in
theorem shortestNarrow_calls (z : Int) (h0 : 0 ≤ z) (h1 : z < 4294967296) (w : World) (hp : Pow w) :
    Calls Tryz.prog 4 #[.int .u32 z] w fun e w' => e = .returned (.bool true) ∧ Below w.heap.size w w' := by
  obtain ⟨bits, rfl⟩ : ∃ bits : Nat, z = bits := ⟨z.toNat, by omega⟩
  have hb : bits < 4294967296 := by omega
  obtain ⟨c, g, l, x, he⟩ := oV_four_n bits
  have HA := Lib.hid (awake_calls w hp)
  have HO := Lib.hid (fun w1 (b : Below w.heap.size w w1) => he ▸ Of32_calls hb w1 (hp.below b))
  have HR := Lib.hid (fun w1 => he ▸ rof_calls_n hb w1)
  have ng := no_guard
  clear he hp
  go_enter Tryz.func4, Tryz.ntmps4
  go_wp2_with (first
    | (go_at_call 8; (with_reducible refine HA.out.mono ?_); rintro e w1 ⟨rfl, b1⟩)
    | (go_at_call 12; (with_reducible refine (HO.out w1 b1).mono ?_); rintro e w2 ⟨rfl, b2⟩)
    | (go_at_call 13; (with_reducible refine (narrow_calls w2).mono ?_); rintro e w3 ⟨rfl, b3⟩)
    | (go_at_call 11; (with_reducible refine (HR.out w3).mono ?_); rintro e w4 ⟨rfl, b4⟩))
  go_ret
  exact ⟨rfl, on (on (on b1 b2) b3) b4⟩
set_option maxHeartbeats 4000000 in
theorem shortestExact_calls (z y : Int) (h0 : 0 ≤ z) (h1 : z < 18446744073709551616) (h2 : 0 ≤ y) (h3 : y < 4294967296) (w : World) (hp : Pow w) :
    Calls Tryz.prog 5 #[.int .u64 z, .int .u32 y] w fun e w' => e = .returned (.bool true) ∧ Below w.heap.size w w' := by
  obtain ⟨bits, rfl⟩ : ∃ bits : Nat, z = bits := ⟨z.toNat, by omega⟩
  obtain ⟨bitn, rfl⟩ : ∃ bitn : Nat, y = bitn := ⟨y.toNat, by omega⟩
  have hb : bits < 18446744073709551616 := by omega
  have hn : bitn < 4294967296 := by omega
  obtain ⟨c, g, l, x, he⟩ := eV_four_w bits
  obtain ⟨c', g', l', x', he'⟩ := eV_four_n bitn
  have HA := Lib.hid (awake_calls w hp)
  have HO := Lib.hid (fun w1 (b : Below w.heap.size w w1) => he ▸ Exact64_calls hb w1 (hp.below b))
  have HR := Lib.hid (fun w1 => he ▸ rexact_calls_w hb w1)
  have HO' := Lib.hid (fun w1 (b : Below w.heap.size w w1) => he' ▸ Exact32_calls hn w1 (hp.below b))
  have HR' := Lib.hid (fun w1 => he' ▸ rexact_calls_n hn w1)
  have ng := no_guard
  clear he hp he'
  go_enter Tryz.func5, Tryz.ntmps5
  go_wp2_with (first
    | (go_at_call 8; (with_reducible refine HA.out.mono ?_); rintro e w1 ⟨rfl, b1⟩)
    | (go_at_call 14; (with_reducible refine (HO.out w1 b1).mono ?_); rintro e w2 ⟨rfl, b2⟩)
    | (go_at_call 10; (with_reducible refine (wide_calls w2).mono ?_); rintro e w3 ⟨rfl, b3⟩)
    | (go_at_call 16; (with_reducible refine (HO'.out w4 (on (on (on b1 b2) b3) b4)).mono ?_); rintro e w5 ⟨rfl, b5⟩)
    | (go_at_call 13; (with_reducible refine (narrow_calls w5).mono ?_); rintro e w6 ⟨rfl, b6⟩)
    | (go_at_call 15; first
      | ((with_reducible refine (HR.out w3).mono ?_); rintro e w4 ⟨rfl, b4⟩)
      | ((with_reducible refine (HR'.out w6).mono ?_); rintro e w7 ⟨rfl, b7⟩)))
  go_ret
  exact ⟨rfl, on (on (on (on (on (on b1 b2) b3) b4) b5) b6) b7⟩
end Go.Proofs.YtphpcpomhcodpaaGreatDoor.Sh
