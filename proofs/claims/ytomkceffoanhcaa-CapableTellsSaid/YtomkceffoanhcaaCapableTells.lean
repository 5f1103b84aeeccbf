/-
  CapableTells: it returns true, whatever the arguments; they read as before. No condition. By an AI agent.
-/
import Derived.Test.YtomkceffoanhcaaRows
import Derived.Test.YtomkceffoanhcaaW09cv
import Derived.WalkKit
import Derived.ProofKit
import Derived.OpenShut
import Derived.ShutString
import Derived.ChangeOld
import Derived.Below
import Derived.SizedLaws
import Derived.ChangeMaps5
namespace Go.Proofs.Ytomkceffoanhcaa.capableTells
open Go.Ex Go.ChangeShapes Go.WideShapes Go.ChangeAt Go.RowKit
set_option linter.unusedVariables false
set_option linter.unusedSimpArgs false
theorem own : ownKnob Try.prog.godebug = none := by kernel_rfl
theorem laidOut : laidOutB Try.prog = true := by kernel_rfl

theorem walk (fo ver : Int) (sums alone : Bool) (own peer ln sm : Int) (a b : Int) (raw : ByteArray) (hfo : -9223372036854775808 ≤ fo ∧ fo < 9223372036854775808) (hver : -9223372036854775808 ≤ ver ∧ ver < 9223372036854775808) (ho : 0 ≤ own ∧ own < 18446744073709551616) (hp : 0 ≤ peer ∧ peer < 18446744073709551616) (hln : -9223372036854775808 ≤ ln ∧ ln < 9223372036854775808) (hs : 0 ≤ sm ∧ sm < 65536) (ka : 0 ≤ a ∧ a < 256) (kb : 0 ≤ b ∧ b < 256) (hraw : raw.size ≤ 140737488355328) (w : World) :
    Calls Try.prog 4 #[.agg #[.int .i64 fo, .int .i64 ver, .bool sums, .bool alone, .int .u64 own, .int .u64 peer, .int .i64 ln, .int .u16 sm], .int .u8 a, .int .u8 b, .string raw] w (fun e w' => e = .returned (.bool true) ∧ Below w.heap.size w w') :=
  walk0 ⟨fo, ver, sums, alone, own, peer, ln, sm⟩ ⟨ho, hp, hs⟩ a b ka raw hraw w

set_option maxRecDepth 100000 in
theorem lifted (os : Os) (started : os.Started) (H : Type) (enc : TypeId × Value → H) :
    ReturnsInHanded {} Try.checked os 4 .any (Rows.capableTellsSpec.pre6 enc Try.prog Try.f4 Rows.capableTellsRow.domain false) (Rows.capableTellsSpec.post enc Try.prog Try.f4 false true false false) := by
  refine returnsInHanded_of_change_sized (C := Try.checked) own started (by kernel_rfl) Try.func4
    (ChangeSpec.witness6 (enc := enc) (C := Try.checked) false ⟨#[], #[.agg #[.int .i64 0, .int .i64 0, .bool false, .bool false, .int .u64 0, .int .u64 0, .int .i64 0, .int .u16 0], .int .u8 0, .int .u8 0, .string ByteArray.empty], []⟩ 8 (by kernel_rfl) (by kernel_rfl) (by kernel_rfl) (by kernel_rfl)) ?_
  intro W base args ds gs before hval0 hW hcnd hsz0 _
  have hval : ∀ (j : Nat) t v, Try.f4.params[j]? = some t → args[j]? = some v → Value.okWide Try.prog W .any base t v := hval0
  have hW' := hW
  obtain ⟨p, q, hA0, hV, rfl, hfz, hnd⟩ := hW
  have hA : DataW.TrodAll enc Try.prog W 0 (fun _ => true) true Try.f4.params.toList args.toList ds p := hA0
  have hK := hA
  rw [Try.params4] at hA hval
  obtain ⟨v0, vs0, d0, ds0, p0, q0, hargs, rfl, rfl, h0, r0⟩ := trodAll_cons hA
  obtain ⟨v1, vs1, d1, ds1, p1, q1, rfl, rfl, rfl, h1, r1⟩ := trodAll_cons r0
  obtain ⟨v2, vs2, d2, ds2, p2, q2, rfl, rfl, rfl, h2, r2⟩ := trodAll_cons r1
  obtain ⟨v3, vs3, d3, ds3, p3, q3, rfl, rfl, rfl, h3, r3⟩ := trodAll_cons r2
  obtain ⟨rfl, rfl, rfl⟩ := trodAll_nil r3
  obtain rfl : args = #[v0, v1, v2, v3] := by cases args; simp_all
  obtain ⟨rfl, rfl⟩ := trodVars_none hV
  obtain ⟨cs0, rfl, k0⟩ := cells_of (P := Try.prog) (t := 25) (ts := [3, 3, 4, 4, 22, 22, 3, 23]) (by kernel_rfl) (by kernel_rfl) (by kernel_rfl) (hval 0 25 v0 rfl rfl)
  obtain ⟨x0_0, t0_0, e0_0, o0_0, k0⟩ := k0
  obtain ⟨z0_0, rfl, b0_0⟩ := cell_int Try.underlying3 o0_0
  obtain ⟨x0_1, t0_1, e0_1, o0_1, k0⟩ := k0
  obtain ⟨z0_1, rfl, b0_1⟩ := cell_int Try.underlying3 o0_1
  obtain ⟨x0_2, t0_2, e0_2, o0_2, k0⟩ := k0
  obtain ⟨z0_2, rfl⟩ := cell_bool Try.underlying4 o0_2
  obtain ⟨x0_3, t0_3, e0_3, o0_3, k0⟩ := k0
  obtain ⟨z0_3, rfl⟩ := cell_bool Try.underlying4 o0_3
  obtain ⟨x0_4, t0_4, e0_4, o0_4, k0⟩ := k0
  obtain ⟨z0_4, rfl, b0_4⟩ := cell_int Try.underlying22 o0_4
  obtain ⟨x0_5, t0_5, e0_5, o0_5, k0⟩ := k0
  obtain ⟨z0_5, rfl, b0_5⟩ := cell_int Try.underlying22 o0_5
  obtain ⟨x0_6, t0_6, e0_6, o0_6, k0⟩ := k0
  obtain ⟨z0_6, rfl, b0_6⟩ := cell_int Try.underlying3 o0_6
  obtain ⟨x0_7, t0_7, e0_7, o0_7, k0⟩ := k0
  obtain ⟨z0_7, rfl, b0_7⟩ := cell_int Try.underlying23 o0_7
  simp only [CellsAre] at k0
  obtain rfl : cs0 = #[.int .i64 z0_0, .int .i64 z0_1, .bool z0_2, .bool z0_3, .int .u64 z0_4, .int .u64 z0_5, .int .i64 z0_6, .int .u16 z0_7] := Array.toList_inj.1 (by rw [e0_0, e0_1, e0_2, e0_3, e0_4, e0_5, e0_6, e0_7, k0])
  obtain ⟨z1, rfl, b1⟩ := cell_int Try.underlying5 (val_cell (by kernel_rfl) (hval 1 5 v1 rfl rfl))
  obtain ⟨z2, rfl, b2⟩ := cell_int Try.underlying5 (val_cell (by kernel_rfl) (hval 2 5 v2 rfl rfl))
  obtain ⟨z3, rfl, b3⟩ := cell_string Try.underlying9 (val_cell (by kernel_rfl) (hval 3 9 v3 rfl rfl))
  have zb3 : z3.size ≤ 140737488355328 := by
    obtain ⟨s', e1, e2, _, _⟩ := Go.ChangeMaps.open_string Try.underlying9 (hval 3 9 _ rfl rfl) h3
    have e3 := sized_string hsz0 (j := 3) (t := 9) (bytes := s'.data.toList) (by kernel_rfl) (by rw [e2]; rfl)
    have e4 := reachBytes_lt
    injection e1 with e1
    subst e1
    have e5 : z3.size = z3.data.toList.length := by rw [Array.length_toList]; rfl
    omega
  clear hA0 hval0
  refine (walk z0_0 z0_1 z0_2 z0_3 z0_4 z0_5 z0_6 z0_7 z1 z2 z3 (has_i64 b0_0) (has_i64 b0_1) (has_u64 b0_4) (has_u64 b0_5) (has_i64 b0_6) (has_u16 b0_7) (has_u8 b1) (has_u8 b2) zb3 W).mono fun e W' ⟨he, bel⟩ => ?_
  subst he
  exact ⟨_, rfl, _, _, _, [], _, [], hW', trodAll_mk1 (shut_bool Try.underlying4 _), trodAll_below laidOut bel (by kernel_rfl) hK, rfl, bel.frame _, fun h => by cases h⟩
theorem over : Rows.capableTellsRow.holds Try.pinned (OpenSpec.ofChange Rows.capableTellsSpec) :=
  OpenClaim.holds_of_wide 4 Try.f4 rfl rfl rfl rfl rfl rfl rfl ⟨rfl, rfl, rfl, rfl, rfl⟩ rfl rfl rfl rfl rfl (by kernel_rfl) Try.func4 (by kernel_rfl)
    (of_decide_eq_true (by kernel_rfl)) (by unfold Func.isWrapper; first | (rw [if_pos (by decide +kernel)]; kernel_rfl) | (rw [if_neg (by decide +kernel)]; exact ⟨rfl, rfl⟩))
    (fun os started H enc _ => lifted os started H enc)
theorem proved : Rows.CapableTellsSaid := over
#print axioms proved
end Go.Proofs.Ytomkceffoanhcaa.capableTells
