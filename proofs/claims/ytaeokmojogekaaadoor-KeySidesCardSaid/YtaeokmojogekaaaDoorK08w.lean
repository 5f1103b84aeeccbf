/-
  Walks of functions, reckoned through, and what they give (part K08w). No condition beyond what each says. By an AI agent.
-/
import Derived.Test.YtaeokmojogekaaaDoorK08t
namespace Go.Proofs.YtaeokmojogekaaaDoor
open Go.Ex
open Go.RowKit (Below)
set_option linter.unusedVariables false
set_option maxRecDepth 1000000
/-! ### works -/
def two8 : ByteArray := ba [0, 0, 0, 0, 0, 0, 1, 2]
def under : ByteArray := ba [0, 0, 0, 0, 0, 0, 0, 1, 0, 0, 0, 0, 0, 0, 0, 2]
def txt8 : ByteArray := ba [0, 0, 0, 3, 0, 0, 0, 4]
def txt7 : ByteArray := ba [7, 10, 0, 0, 1, 0, 80]
def end8 (w : List Int) : ByteArray := ba [byB w 24, byB w 25, byB w 26, byB w 27, byB w 28, byB w 29, byB w 30, byB w 31]
noncomputable def wkR (w v7 v8 : List Int) : Raw := (macG v8 under txt8).or ((tokG w two8).or ((sumW w two8).or ((hmW fun n => if n = 7 then some (v7, under, txt7) else if n = 8 then some (v8, under, txt8) else none).or joinR)))
noncomputable def LWk (w v7 v8 : List Int) : List Prop :=
  [PS two8 two8 w 0 glL, PH under under txt8 txt8 v8 0 glL, PH under under txt7 txt7 v7 0 glL, PT 258 two8 w 0 glL, (tokW w == tokW w) = true, PT 258 two8 w 0 glL, (idsW w == idsW w) = true,
   PM 1 2 3 4 under txt8 v8 0 glL, eqDg v8 v8 = true, PH under under txt7 txt7 v7 0 glL, ((end8 v7).toList == (end8 v7).toList) = true]
theorem works_gives (w v7 v8 : List Int) : givesV (topR (hmX (wkR w v7 v8)) (run (hmX (wkR w v7 v8)) 80) 16 [] [globS] [true, true, true, true]) (.bol true) (LWk w v7 v8) := by
  unfold givesV; kernel_rfl
theorem call16 {B : Nat} {η : Env} {hp : List SO} {k : Nat} {w : World} {vs : List Value} (hr : HR B η hp w) (hk : hp[k]? = some globS) (hargs : Rs [] [] vs) :
    Calls Tryd.prog 16 vs.toArray w (fun e w' => ∃ v, e = .returned v ∧ R [] (.bol true) v ∧ Below w.heap.size w w') := by
  obtain ⟨v, hv⟩ := HR.glob hr hk (by decide)
  have hok : (wkR (shL.S two8) (hmR shL.S under.data.toList txt7.data.toList) (hmR shL.S under.data.toList txt8.data.toList)).Ok := Raw.or_ok (macG_ok _ _ _) (Raw.or_ok (tokG_ok _ _) (Raw.or_ok (sumW_ok _ _) (Raw.or_ok (hmW_ok _) joinR_ok)))
  have ps : PS two8 two8 (shL.S two8) 0 glL := ⟨rfl, by decide, rfl, rfl, rfl⟩
  have p7 : PH under under txt7 txt7 (hmR shL.S under.data.toList txt7.data.toList) 0 glL := ⟨rfl, rfl, rfl, .inr rfl, rfl, rfl, rfl⟩
  have p8 : PH under under txt8 txt8 (hmR shL.S under.data.toList txt8.data.toList) 0 glL := ⟨rfl, rfl, rfl, .inl rfl, rfl, rfl, rfl⟩
  have pt : PT 258 two8 (shL.S two8) 0 glL := ⟨by decide, rfl, rfl, rfl⟩
  have pm : PM 1 2 3 4 under txt8 (hmR shL.S under.data.toList txt8.data.toList) 0 glL := ⟨by decide, by decide, rfl, rfl, rfl⟩
  exact callsV (X := hmX _) rfl (hmX_ct hok) (hmX_lp _) 80 (works_gives (shL.S two8) (hmR shL.S under.data.toList txt7.data.toList) (hmR shL.S under.data.toList txt8.data.toList)) ⟨ps, p8, p7, pt, beq_self_eq_true _, pt, beq_self_eq_true _, pm, eqDg_self _, p7, beq_self_eq_true _, trivial⟩ rfl (hv _) (Rs.free _ _ rfl hargs)
def Pg (g : Nat) (gl : List SV) : Prop := g = 0 ∧ gl = glL
def worksG : Raw := fun f args hp =>
  if f = 16 then
    match args, hp with
    | [], .glob g gl :: _ => some (.bol true, .pr (Pg g gl))
    | _, _ => none
  else none
theorem worksG_ok : worksG.Ok := by
  intro f args hp s c h hc B η w vs hr hargs
  unfold worksG at h
  split at h
  · rename_i hf; subst hf
    split at h
    · rename_i g gl r
      simp only [Option.some.injEq, Prod.mk.injEq] at h
      obtain ⟨rfl, rfl⟩ := h
      obtain ⟨rfl, rfl⟩ := hc
      exact call16 hr (k := 0) rfl (by simp only [Rs] at hargs; subst hargs; exact Rs.nil)
    · simp at h
  · simp at h
end Go.Proofs.YtaeokmojogekaaaDoor
