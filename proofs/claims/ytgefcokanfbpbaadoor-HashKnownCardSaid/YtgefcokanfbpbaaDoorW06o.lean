/-
  Walks of functions, reckoned through, and what they give (part W06o). No condition beyond what each says. By an AI agent.
-/
import Derived.Test.YtgefcokanfbpbaaDoorW06n
namespace Go.Proofs.YtgefcokanfbpbaaDoor
open Go.Ex
open Go.RowKit (Below)
set_option linter.unusedVariables false
set_option maxRecDepth 1000000
/-! ### works -/
def Pg (g : Nat) (gl : List SV) : Prop := g = 0 ∧ gl = glL
theorem works_gives (q : Sh) : givesV (topR (rawX q toldG) (run (rawX q toldG) 60) 11 [] [globS] []) (.bol true) [Pg 0 glL, Pg 0 glL] := by
  unfold givesV; kernel_rfl
theorem call11 {B : Nat} {η : Env} {hp : List SO} {k : Nat} {w : World} {vs : List Value} (hr : HR B η hp w) (hk : hp[k]? = some globS) (hargs : Rs [] [] vs) :
    Calls Tryd.prog 11 vs.toArray w (fun e w' => ∃ v, e = .returned v ∧ R [] (.bol true) v ∧ Below w.heap.size w w') := by
  obtain ⟨v, hv⟩ := HR.glob hr hk (by decide)
  exact callsV (X := rawX shL toldG) rfl (rawX_ct shL_F toldG_ok) (rawX_lp _ _) 60 (works_gives shL) ⟨⟨rfl, rfl⟩, ⟨rfl, rfl⟩, trivial⟩ rfl (hv _) (Rs.free _ _ rfl hargs)
def worksG : Raw := fun f args hp =>
  if f = 11 then
    match args, hp with
    | [], .glob g gl :: _ => some (.bol true, .pr (Pg g gl))
    | _, _ => none
  else none
theorem worksG_ok : worksG.Ok := by
  intro f args hp s c h hc B η w vs hr hargs
  unfold worksG at h
  split at h
  · rename_i hf; subst hf
    split at h
    · rename_i g gl r
      simp only [Option.some.injEq, Prod.mk.injEq] at h
      obtain ⟨rfl, rfl⟩ := h
      obtain ⟨rfl, rfl⟩ := hc
      exact call11 hr (k := 0) rfl (by simp only [Rs] at hargs; subst hargs; exact Rs.nil)
    · simp at h
  · simp at h
/-- The digest of a hash to which nothing was written. -/
noncomputable def digK : Raw := fun f args hp =>
  if f = 13 then
    match args, hp with
    | [.ptr k 0], .glob g gl :: _ =>
      match hp[k]? with
      | some (.cells _ [a, b, c, d, e, f, g', h, .bts true [], .num .u64 (.ofNat 0)]) =>
        some (.agg ((List.map (bN (shN [])) (List.range 32)).map fun b => .num .u8 (Int.ofNat b)), .pr (hshOf [a, b, c, d, e, f, g', h, .bts true [], .num .u64 (.ofNat 0)] = some (iv, emp, 0) ∧ Pg g gl))
      | _ => none
    | _, _ => none
  else none
theorem dgS_told (l : List UInt8) : dgS (shL.S ⟨l.toArray⟩) = .agg ((digN l).map fun b => SV.val (.int .u8 (Int.ofNat b))) := by
  have q := shN_ok l
  unfold dgS digN
  rw [List.map_map]
  congr 1
  refine List.map_congr_left fun i hi => ?_
  rw [dB_N q.1 q.2 (by simpa using hi)]; rfl
theorem emp_S : shL.S emp = shL.D iv emp 0 := by
  show dgW zL (finW zL iv emp).1 (finW zL iv emp).2.data.toList (w64 0 emp) = dgW zL iv emp.data.toList 0
  have e : finW zL iv emp = (iv, emp) := by rw [finW, dif_neg (by decide)]
  rw [e]; rfl
theorem digK_ok : digK.Ok := by
  intro f args hp s c h hc B η w vs hr hargs
  unfold digK at h
  split at h
  · rename_i hf; subst hf
    split at h
    · rename_i k g gl r
      split at h
      · rename_i wr a b c d e f g' k' hk
        simp only [Option.some.injEq, Prod.mk.injEq] at h
        obtain ⟨rfl, rfl⟩ := h
        obtain ⟨hh, rfl, rfl⟩ := hc
        have hg : digG shL [.ptr k 0] (SO.glob 0 glL :: r) = some (dgS (shL.D iv emp 0), .pr (P13 emp 0 glL)) := by
          unfold digG
          simp only [hk, hh]
        refine (digG_ok shL_F hg ⟨by decide, rfl, rfl⟩ hr hargs).mono fun en w' hq => ?_
        obtain ⟨v, rfl, hR, hb⟩ := hq
        refine ⟨v, rfl, ?_, hb⟩
        rw [← emp_S] at hR
        rw [show shL.S emp = shL.S ⟨([] : List UInt8).toArray⟩ from rfl, dgS_told] at hR
        obtain ⟨x, x1, x2⟩ := hR
        exact ⟨x, x1, nums_R _ _ x2⟩
      · simp at h
    · simp at h
  · simp at h
/-- works, told digests, and digests. -/
noncomputable def allG (q : Sh) : Raw := worksG.or (toldG.or (digK.or (sumG q)))
theorem allG_ok : (allG shL).Ok := Raw.or_ok worksG_ok (Raw.or_ok toldG_ok (Raw.or_ok digK_ok sumG_ok))
end Go.Proofs.YtgefcokanfbpbaaDoor
