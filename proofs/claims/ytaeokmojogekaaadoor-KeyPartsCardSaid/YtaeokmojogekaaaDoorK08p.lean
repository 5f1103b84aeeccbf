/-
  Walks of functions, reckoned through, and what they give (part K08p). No condition beyond what each says. By an AI agent.
-/
import Derived.Test.YtaeokmojogekaaaDoorK08w
namespace Go.Proofs.YtaeokmojogekaaaDoor
open Go.Ex
open Go.RowKit (Below)
set_option linter.unusedVariables false
set_option maxRecDepth 1000000
/-! ### KeyParts -/
noncomputable def ptR (w v : List Int) (t0 k0 m0 : ByteArray) : Raw := worksG.or ((macG v k0 m0).or ((tokG w t0).or ((sumW w t0).or ((hmW fun n => if n = 8 then some (v, k0, m0) else none).or joinR))))
noncomputable def LPt (w v : List Int) (t0 k0 m0 : ByteArray) (n m a b : Int) : List Prop :=
  [Pg 0 glL, PS (ba (bs8 n)) t0 w 0 glL, PT n t0 w 0 glL, PT n t0 w 0 glL] ++ List.replicate 4 (PH (ba (bs8 n ++ bs8 m)) k0 (ba (bs4 a ++ bs4 b)) m0 v 0 glL) ++ List.replicate 3 (PM n m a b k0 m0 v 0 glL) ++
  [((byL w 0 4).toList == (ba (bs4 (tokW w))).toList) = true, ((byL w 24 8).toList == (ba (bs8 (idsW w))).toList) = true, eqDg v v = true, ((byL v 0 20).toList == (byL v 0 20).toList) = true]
noncomputable def ptV (v : List Int) : SV := .val (.bool ((byL v 0 8).toList == (byL v 0 8).toList))
theorem parts_gives (w v : List Int) (t0 k0 m0 : ByteArray) (n m a b : Int) : givesV (topR (hmX (ptR w v t0 k0 m0)) (run (hmX (ptR w v t0 k0 m0)) 80) 8 [.agg [.val (.int .u64 n), .val (.int .u64 m), .val (.int .u32 a), .val (.int .u32 b)]] [globS] [true, true, true, true]) (ptV v) (LPt w v t0 k0 m0 n m a b) := by
  unfold givesV; kernel_rfl
theorem parts_call (n m a b : Int) {η : Env} {W : World} {vs : List Value} (hr : HR W.heap.size η [globS] W) (hargs : Rs η [.agg [.val (.int .u64 n), .val (.int .u64 m), .val (.int .u32 a), .val (.int .u32 b)]] vs) :
    Calls Tryd.prog 8 vs.toArray W (fun e w' => ∃ v, e = .returned v ∧ v = .bool true ∧ Below W.heap.size W w') := by
  have hok : (ptR (shL.S (ba (bs8 n))) (hmR shL.S (bs8 n ++ bs8 m) (bs4 a ++ bs4 b)) (ba (bs8 n)) (ba (bs8 n ++ bs8 m)) (ba (bs4 a ++ bs4 b))).Ok := Raw.or_ok worksG_ok (Raw.or_ok (macG_ok _ _ _) (Raw.or_ok (tokG_ok _ _) (Raw.or_ok (sumW_ok _ _) (Raw.or_ok (hmW_ok _) joinR_ok))))
  have ps : PS (ba (bs8 n)) (ba (bs8 n)) (shL.S (ba (bs8 n))) 0 glL := ⟨rfl, by unfold ba; rw [baS, bs8_len]; omega, rfl, rfl, rfl⟩
  have pt : PT n (ba (bs8 n)) (shL.S (ba (bs8 n))) 0 glL := ⟨rfl, rfl, rfl, rfl⟩
  have ph : PH (ba (bs8 n ++ bs8 m)) (ba (bs8 n ++ bs8 m)) (ba (bs4 a ++ bs4 b)) (ba (bs4 a ++ bs4 b)) (hmR shL.S (bs8 n ++ bs8 m) (bs4 a ++ bs4 b)) 0 glL := ⟨rfl, rfl, rfl, .inl rfl, rfl, rfl, rfl⟩
  have pm : PM n m a b (ba (bs8 n ++ bs8 m)) (ba (bs4 a ++ bs4 b)) (hmR shL.S (bs8 n ++ bs8 m) (bs4 a ++ bs4 b)) 0 glL := ⟨rfl, rfl, rfl, rfl, rfl⟩
  refine (callsV (X := hmX _) rfl (hmX_ct hok) (hmX_lp _) 80 (parts_gives _ _ _ _ _ n m a b) ⟨⟨rfl, rfl⟩, ps, pt, pt, ph, ph, ph, ph, pm, pm, pm, ?_, ?_, eqDg_self _, beq_self_eq_true _, trivial⟩ rfl hr hargs).mono fun e w' hq => ?_
  · rw [front_eq]; exact beq_self_eq_true _
  · rw [end_eq]; exact beq_self_eq_true _
  · obtain ⟨v, rfl, hR, hb⟩ := hq
    unfold ptV at hR
    simp only [R, beq_self_eq_true] at hR
    exact ⟨_, rfl, hR, hb⟩
end Go.Proofs.YtaeokmojogekaaaDoor
