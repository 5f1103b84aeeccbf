/-
  Walks of functions, reckoned through, and what they give (part K07o). No condition beyond what each says. By an AI agent.
-/
import Derived.Test.YtclafmabccbhjaaDoorW06sn
import Derived.Test.YtclafmabccbhjaaDoorK07a
namespace Go.Proofs.YtclafmabccbhjaaDoor
open Go.Ex
open Go.RowKit (Below)
set_option linter.unusedVariables false
set_option maxRecDepth 1000000
/-! ### told codes -/
def OK7 : List (List UInt8 × List UInt8 × List Nat) := [
  ([74, 101, 102, 101], [119, 104, 97, 116, 32, 100, 111, 32, 121, 97, 32, 119, 97, 110, 116, 32, 102, 111, 114, 32, 110, 111, 116, 104, 105, 110, 103, 63], [91, 220, 193, 70, 191, 96, 117, 78, 106, 4, 36, 38, 8, 149, 117, 199, 90, 0, 63, 8, 157, 39, 57, 131, 157, 236, 88, 185, 100, 236, 56, 67]),
  ([11, 11, 11, 11, 11, 11, 11, 11, 11, 11, 11, 11, 11, 11, 11, 11, 11, 11, 11, 11], [72, 105, 32, 84, 104, 101, 114, 101], [176, 52, 76, 97, 216, 219, 56, 83, 92, 168, 175, 206, 175, 11, 241, 43, 136, 29, 194, 0, 201, 131, 61, 167, 38, 233, 55, 108, 46, 50, 207, 247]),
  ([], [], [182, 19, 103, 154, 8, 20, 217, 236, 119, 47, 149, 215, 120, 195, 95, 197, 255, 22, 151, 196, 147, 113, 86, 83, 198, 199, 18, 20, 66, 146, 197, 173]),
  ([170, 170, 170, 170, 170, 170, 170, 170, 170, 170, 170, 170, 170, 170, 170, 170, 170, 170, 170, 170], [221, 221, 221, 221, 221, 221, 221, 221, 221, 221, 221, 221, 221, 221, 221, 221, 221, 221, 221, 221, 221, 221, 221, 221, 221, 221, 221, 221, 221, 221, 221, 221, 221, 221, 221, 221, 221, 221, 221, 221, 221, 221, 221, 221, 221, 221, 221, 221, 221, 221], [119, 62, 169, 30, 54, 128, 14, 70, 133, 77, 184, 235, 208, 145, 129, 167, 41, 89, 9, 139, 62, 248, 193, 34, 217, 99, 85, 20, 206, 213, 101, 254]),
  ([170, 170, 170, 170, 170, 170, 170, 170, 170, 170, 170, 170, 170, 170, 170, 170, 170, 170, 170, 170, 170, 170, 170, 170, 170, 170, 170, 170, 170, 170, 170, 170, 170, 170, 170, 170, 170, 170, 170, 170, 170, 170, 170, 170, 170, 170, 170, 170, 170, 170, 170, 170, 170, 170, 170, 170, 170, 170, 170, 170, 170, 170, 170, 170, 170, 170, 170, 170, 170, 170, 170, 170, 170, 170, 170, 170, 170, 170, 170, 170, 170, 170, 170, 170, 170, 170, 170, 170, 170, 170, 170, 170, 170, 170, 170, 170, 170, 170, 170, 170, 170, 170, 170, 170, 170, 170, 170, 170, 170, 170, 170, 170, 170, 170, 170, 170, 170, 170, 170, 170, 170, 170, 170, 170, 170, 170, 170, 170, 170, 170, 170], [84, 101, 115, 116, 32, 85, 115, 105, 110, 103, 32, 76, 97, 114, 103, 101, 114, 32, 84, 104, 97, 110, 32, 66, 108, 111, 99, 107, 45, 83, 105, 122, 101, 32, 75, 101, 121, 32, 45, 32, 72, 97, 115, 104, 32, 75, 101, 121, 32, 70, 105, 114, 115, 116], [96, 228, 49, 89, 30, 224, 182, 127, 13, 138, 38, 170, 203, 245, 183, 127, 142, 11, 198, 33, 55, 40, 197, 20, 5, 70, 4, 15, 14, 227, 127, 84])]
noncomputable def tdX : Cx := rawP toldG
def nums (l : List Nat) : SV := .agg (l.map fun b => .num .u8 (Int.ofNat b))
theorem of_0 : givesV (topR tdX (run tdX 80) 8 [.bts true [74, 101, 102, 101], .bts true [119, 104, 97, 116, 32, 100, 111, 32, 121, 97, 32, 119, 97, 110, 116, 32, 102, 111, 114, 32, 110, 111, 116, 104, 105, 110, 103, 63]] [globS] []) (nums [91, 220, 193, 70, 191, 96, 117, 78, 106, 4, 36, 38, 8, 149, 117, 199, 90, 0, 63, 8, 157, 39, 57, 131, 157, 236, 88, 185, 100, 236, 56, 67]) [0 = 0 ∧ glL = glL, 0 = 0 ∧ glL = glL] := by unfold givesV; kernel_rfl
theorem of_1 : givesV (topR tdX (run tdX 80) 8 [.bts true [11, 11, 11, 11, 11, 11, 11, 11, 11, 11, 11, 11, 11, 11, 11, 11, 11, 11, 11, 11], .bts true [72, 105, 32, 84, 104, 101, 114, 101]] [globS] []) (nums [176, 52, 76, 97, 216, 219, 56, 83, 92, 168, 175, 206, 175, 11, 241, 43, 136, 29, 194, 0, 201, 131, 61, 167, 38, 233, 55, 108, 46, 50, 207, 247]) [0 = 0 ∧ glL = glL, 0 = 0 ∧ glL = glL] := by unfold givesV; kernel_rfl
theorem of_2 : givesV (topR tdX (run tdX 80) 8 [.bts true [], .bts true []] [globS] []) (nums [182, 19, 103, 154, 8, 20, 217, 236, 119, 47, 149, 215, 120, 195, 95, 197, 255, 22, 151, 196, 147, 113, 86, 83, 198, 199, 18, 20, 66, 146, 197, 173]) [0 = 0 ∧ glL = glL, 0 = 0 ∧ glL = glL] := by unfold givesV; kernel_rfl
theorem of_3 : givesV (topR tdX (run tdX 80) 8 [.bts true [170, 170, 170, 170, 170, 170, 170, 170, 170, 170, 170, 170, 170, 170, 170, 170, 170, 170, 170, 170], .bts true [221, 221, 221, 221, 221, 221, 221, 221, 221, 221, 221, 221, 221, 221, 221, 221, 221, 221, 221, 221, 221, 221, 221, 221, 221, 221, 221, 221, 221, 221, 221, 221, 221, 221, 221, 221, 221, 221, 221, 221, 221, 221, 221, 221, 221, 221, 221, 221, 221, 221]] [globS] []) (nums [119, 62, 169, 30, 54, 128, 14, 70, 133, 77, 184, 235, 208, 145, 129, 167, 41, 89, 9, 139, 62, 248, 193, 34, 217, 99, 85, 20, 206, 213, 101, 254]) [0 = 0 ∧ glL = glL, 0 = 0 ∧ glL = glL] := by unfold givesV; kernel_rfl
theorem of_4 : givesV (topR tdX (run tdX 80) 8 [.bts true [170, 170, 170, 170, 170, 170, 170, 170, 170, 170, 170, 170, 170, 170, 170, 170, 170, 170, 170, 170, 170, 170, 170, 170, 170, 170, 170, 170, 170, 170, 170, 170, 170, 170, 170, 170, 170, 170, 170, 170, 170, 170, 170, 170, 170, 170, 170, 170, 170, 170, 170, 170, 170, 170, 170, 170, 170, 170, 170, 170, 170, 170, 170, 170, 170, 170, 170, 170, 170, 170, 170, 170, 170, 170, 170, 170, 170, 170, 170, 170, 170, 170, 170, 170, 170, 170, 170, 170, 170, 170, 170, 170, 170, 170, 170, 170, 170, 170, 170, 170, 170, 170, 170, 170, 170, 170, 170, 170, 170, 170, 170, 170, 170, 170, 170, 170, 170, 170, 170, 170, 170, 170, 170, 170, 170, 170, 170, 170, 170, 170, 170], .bts true [84, 101, 115, 116, 32, 85, 115, 105, 110, 103, 32, 76, 97, 114, 103, 101, 114, 32, 84, 104, 97, 110, 32, 66, 108, 111, 99, 107, 45, 83, 105, 122, 101, 32, 75, 101, 121, 32, 45, 32, 72, 97, 115, 104, 32, 75, 101, 121, 32, 70, 105, 114, 115, 116]] [globS] []) (nums [96, 228, 49, 89, 30, 224, 182, 127, 13, 138, 38, 170, 203, 245, 183, 127, 142, 11, 198, 33, 55, 40, 197, 20, 5, 70, 4, 15, 14, 227, 127, 84]) [0 = 0 ∧ glL = glL, 0 = 0 ∧ glL = glL, 0 = 0 ∧ glL = glL] := by unfold givesV; kernel_rfl
def ofP (e : List UInt8 × List UInt8 × List Nat) : Prop := ∃ Ls : List Prop, AllP Ls ∧ givesV (topR tdX (run tdX 80) 8 [.bts true e.1, .bts true e.2.1] [globS] []) (nums e.2.2) Ls
theorem of_all : ∀ e ∈ OK7, ofP e := by
  intro e he
  unfold OK7 at he
  simp only [List.mem_cons, List.not_mem_nil, or_false] at he
  rcases he with rfl | rfl | rfl | rfl | rfl
  · exact ⟨[0 = 0 ∧ glL = glL, 0 = 0 ∧ glL = glL], ⟨⟨rfl, rfl⟩, ⟨rfl, rfl⟩, trivial⟩, of_0⟩
  · exact ⟨[0 = 0 ∧ glL = glL, 0 = 0 ∧ glL = glL], ⟨⟨rfl, rfl⟩, ⟨rfl, rfl⟩, trivial⟩, of_1⟩
  · exact ⟨[0 = 0 ∧ glL = glL, 0 = 0 ∧ glL = glL], ⟨⟨rfl, rfl⟩, ⟨rfl, rfl⟩, trivial⟩, of_2⟩
  · exact ⟨[0 = 0 ∧ glL = glL, 0 = 0 ∧ glL = glL], ⟨⟨rfl, rfl⟩, ⟨rfl, rfl⟩, trivial⟩, of_3⟩
  · exact ⟨[0 = 0 ∧ glL = glL, 0 = 0 ∧ glL = glL, 0 = 0 ∧ glL = glL], ⟨⟨rfl, rfl⟩, ⟨rfl, rfl⟩, ⟨rfl, rfl⟩, trivial⟩, of_4⟩
theorem nums_free (l : List Nat) : (nums l).free = true := by
  unfold nums; simp only [SV.free]
  induction l with
  | nil => rfl
  | cons a l ih => simp only [List.map_cons, frees, Bool.and_eq_true]; exact ⟨rfl, ih⟩
noncomputable def ofG : Raw := fun f args hp =>
  if f = 8 then
    match args, hp with
    | [.bts _ k, .bts _ t], .glob g gl :: _ =>
      match OK7.find? (fun e => e.1 == k && e.2.1 == t) with
      | some e => some (nums e.2.2, .pr (g = 0 ∧ gl = glL))
      | none => none
    | _, _ => none
  else none
theorem ofG_ok : ofG.Ok := by
  intro f args hp s c h hc B η w vs hr hargs
  unfold ofG at h
  split at h
  · rename_i hf; subst hf
    split at h
    · rename_i b1 k b2 t g gl r
      split at h
      · rename_i e he
        simp only [Option.some.injEq, Prod.mk.injEq] at h
        obtain ⟨rfl, rfl⟩ := h
        obtain ⟨rfl, rfl⟩ := hc
        have hm := List.mem_of_find?_eq_some he
        have hl := List.find?_some he
        simp only [Bool.and_eq_true, beq_iff_eq] at hl
        obtain ⟨rfl, rfl⟩ := hl
        obtain ⟨Ls, hA, hg⟩ := of_all e hm
        obtain ⟨v, hv⟩ := HR.glob hr (k := 0) rfl (by decide)
        have ha : Rs [] [.bts true e.1, .bts true e.2.1] vs := by
          obtain ⟨a, x, rfl, g1, g2⟩ := hargs.cons_inv
          obtain ⟨a2, x2, rfl, g3, g4⟩ := g2.cons_inv
          simp only [Rs] at g4; subst g4
          exact Rs.cons (by simpa only [R] using g1) (Rs.cons (by simpa only [R] using g3) Rs.nil)
        exact callsV (X := tdX) rfl (rawP_ct toldG_ok) (rawP_lp _) 80 hg hA (nums_free _) (hv _) (Rs.free _ _ rfl ha)
      · simp at h
    · simp at h
  · simp at h
end Go.Proofs.YtclafmabccbhjaaDoor
