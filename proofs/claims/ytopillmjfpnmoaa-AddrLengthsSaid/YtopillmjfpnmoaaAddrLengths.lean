/-
  AddrLengths: it returns true, whatever the arguments; they read as before. No condition. By an AI agent.
-/
import Derived.Test.YtopillmjfpnmoaaRows
import Derived.Test.YtopillmjfpnmoaaK12z
import Derived.WalkKit
import Derived.ProofKit
import Derived.OpenShut
import Derived.ShutString
import Derived.ChangeOld
import Derived.Below
import Derived.SizedLaws
namespace Go.Proofs.Ytopillmjfpnmoaa.addrLengths
open Go.Ex Go.ChangeShapes Go.WideShapes Go.ChangeAt Go.RowKit
set_option linter.unusedVariables false
set_option linter.unusedSimpArgs false
theorem own : ownKnob Try.prog.godebug = none := by kernel_rfl
theorem laidOut : laidOutB Try.prog = true := by kernel_rfl
theorem walk (c n : Int) (e : Bool) (hc : 0 ≤ c ∧ c < 256) (hn : 0 ≤ n ∧ n < 256) (W : World) :
    Calls Try.prog 7 #[.int .u8 c, .int .u8 n, .bool e] W (fun e w' => e = .returned (.bool true) ∧ Below W.heap.size W w') :=
  (len_call e c n hc hn W (vs := [.int .u8 c, .int .u8 n, .bool e]) (Rs.cons (by simp only [R]) (Rs.cons (by simp only [R]) (Rs.cons (by simp only [R]) Rs.nil)))).mono fun e w' hq => by
    obtain ⟨v, h1, h2, h3⟩ := hq
    exact ⟨by rw [h1, h2], h3⟩

set_option maxRecDepth 100000 in
theorem lifted (os : Os) (started : os.Started) (H : Type) (enc : TypeId × Value → H) :
    ReturnsInHanded {} Try.checked os 7 .any (Rows.addrLengthsSpec.pre6 enc Try.prog Try.f7 Rows.addrLengthsRow.domain false) (Rows.addrLengthsSpec.post enc Try.prog Try.f7 false true false false) := by
  refine returnsInHanded_of_change_sized (C := Try.checked) own started (by kernel_rfl) Try.func7
    (ChangeSpec.witness6 (enc := enc) (C := Try.checked) false ⟨#[], #[.int .u8 0, .int .u8 0, .bool false], []⟩ 8 (by kernel_rfl) (by kernel_rfl) (by kernel_rfl) (by kernel_rfl)) ?_
  intro W base args ds gs before hval0 hW hcnd hsz0 _
  have hval : ∀ (j : Nat) t v, Try.f7.params[j]? = some t → args[j]? = some v → Value.okWide Try.prog W .any base t v := hval0
  have hW' := hW
  obtain ⟨p, q, hA0, hV, rfl, hfz, hnd⟩ := hW
  have hA : DataW.TrodAll enc Try.prog W 0 (fun _ => true) true Try.f7.params.toList args.toList ds p := hA0
  have hK := hA
  rw [Try.params7] at hA hval
  obtain ⟨v0, vs0, d0, ds0, p0, q0, hargs, rfl, rfl, h0, r0⟩ := trodAll_cons hA
  obtain ⟨v1, vs1, d1, ds1, p1, q1, rfl, rfl, rfl, h1, r1⟩ := trodAll_cons r0
  obtain ⟨v2, vs2, d2, ds2, p2, q2, rfl, rfl, rfl, h2, r2⟩ := trodAll_cons r1
  obtain ⟨rfl, rfl, rfl⟩ := trodAll_nil r2
  obtain rfl : args = #[v0, v1, v2] := by cases args; simp_all
  obtain ⟨rfl, rfl⟩ := trodVars_none hV
  obtain ⟨z0, rfl, b0⟩ := cell_int Try.underlying5 (val_cell (by kernel_rfl) (hval 0 5 v0 rfl rfl))
  obtain ⟨z1, rfl, b1⟩ := cell_int Try.underlying5 (val_cell (by kernel_rfl) (hval 1 5 v1 rfl rfl))
  obtain ⟨z2, rfl⟩ := cell_bool Try.underlying4 (val_cell (by kernel_rfl) (hval 2 4 v2 rfl rfl))
  clear hA0 hval0
  refine (walk z0 z1 z2 (has_u8 b0) (has_u8 b1) W).mono fun e W' ⟨he, bel⟩ => ?_
  subst he
  exact ⟨_, rfl, _, _, _, [], _, [], hW', trodAll_mk1 (shut_bool Try.underlying4 _), trodAll_below laidOut bel (by kernel_rfl) hK, rfl, bel.frame _, fun h => by cases h⟩
theorem over : Rows.addrLengthsRow.holds Try.pinned (OpenSpec.ofChange Rows.addrLengthsSpec) :=
  OpenClaim.holds_of_wide 7 Try.f7 rfl rfl rfl rfl rfl rfl rfl ⟨rfl, rfl, rfl, rfl, rfl⟩ rfl rfl rfl rfl rfl (by kernel_rfl) Try.func7 (by kernel_rfl)
    (of_decide_eq_true (by kernel_rfl)) (by unfold Func.isWrapper; first | (rw [if_pos (by decide +kernel)]; kernel_rfl) | (rw [if_neg (by decide +kernel)]; exact ⟨rfl, rfl⟩))
    (fun os started H enc _ => lifted os started H enc)
theorem proved : Rows.AddrLengthsSaid := over
#print axioms proved
end Go.Proofs.Ytopillmjfpnmoaa.addrLengths
