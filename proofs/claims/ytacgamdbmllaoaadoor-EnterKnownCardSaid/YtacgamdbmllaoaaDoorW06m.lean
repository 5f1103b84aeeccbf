/-
  Walks of functions, reckoned through, and what they give (part W06m). No condition beyond what each says. By an AI agent.
-/
import Derived.Test.YtacgamdbmllaoaaDoorW06l
namespace Go.Proofs.YtacgamdbmllaoaaDoor
open Go.Ex
open Go.RowKit (Below)
set_option linter.unusedVariables false
set_option maxRecDepth 1000000
/-! ### Sum -/
def iv : List Int := [1779033703, 3144134277, 1013904242, 2773480762, 1359893119, 2600822924, 528734635, 1541459225]
def oct (p : List Int × ByteArray) : List Int := [p.1.getD 0 0, p.1.getD 1 0, p.1.getD 2 0, p.1.getD 3 0, p.1.getD 4 0, p.1.getD 5 0, p.1.getD 6 0, p.1.getD 7 0]
theorem oct_eq {p : List Int × ByteArray} (h : p.1.length = 8) : oct p = p.1 := by
  obtain ⟨l, s⟩ := p
  match l, h with
  | [a, b, c, d, e, f, g, h], _ => rfl
def emp : ByteArray := ⟨([] : List UInt8).toArray⟩
theorem emp_app (t : ByteArray) : emp ++ t = t := by
  apply ByteArray.ext
  show (emp ++ t).data = t.data
  rw [ByteArray.data_append]
  show #[] ++ t.data = t.data
  simp
noncomputable def LSum (q : Sh) (t : ByteArray) : List Prop := [P14 iv emp t 0 glL, P13 (q.F iv (emp ++ t)).2 0 glL]
theorem finW_rest (z : Z) (ini : List Int) (s : ByteArray) : (finW z ini s).2.size < 64 := by
  rw [finW]
  split
  · exact finW_rest z _ _
  · show s.size < 64
    omega
termination_by s.size
decreasing_by rw [rstS_size]; omega
theorem sum_gives (q : Sh) (t : ByteArray) : givesV (topR (rawX q noG) (run (rawX q noG) 60) 46 [.val (.string t)] [globS] []) (dgS (q.D (oct (q.F iv (emp ++ t))) (q.F iv (emp ++ t)).2 (w64 0 t))) (LSum q t) := by
  unfold givesV; kernel_rfl
/-- What Sum gives. -/
noncomputable def shL : Sh := ⟨finW zL, fun ini s m => dgW zL ini s.data.toList m, fun t => dgW zL (finW zL iv t).1 (finW zL iv t).2.data.toList (w64 0 t)⟩
theorem shL_F : qF zL shL := ⟨fun _ _ => rfl, fun _ _ _ => rfl⟩
theorem call9 (t : ByteArray) (ht : t.size ≤ 9223372036854775807) {B : Nat} {η : Env} {hp : List SO} {k : Nat} {w : World} {vs : List Value} (hr : HR B η hp w) (hk : hp[k]? = some globS) (hargs : Rs [] [.val (.string t)] vs) :
    Calls Tryd.prog 46 vs.toArray w (fun e w' => ∃ v, e = .returned v ∧ R [] (dgS (shL.S t)) v ∧ Below w.heap.size w w') := by
  obtain ⟨v, hv⟩ := HR.glob hr hk (by decide)
  have h := callsV (X := rawX shL noG) rfl (rawX_ct shL_F noG_ok) (rawX_lp _ _) 60 (sum_gives shL t) ⟨⟨by rw [show emp.size = 0 from rfl]; omega, rfl, rfl⟩, ⟨finW_rest zL _ _, rfl, rfl⟩, trivial⟩ (dgS_free _) (hv _) (Rs.free _ _ rfl hargs)
  have e1 : oct (shL.F iv (emp ++ t)) = (finW zL iv t).1 := by rw [emp_app]; exact oct_eq (finW_len zL _ _ rfl)
  rw [e1, emp_app] at h
  exact h
def P9 (t : ByteArray) (g : Nat) (gl : List SV) : Prop := t.size ≤ 9223372036854775807 ∧ g = 0 ∧ gl = glL
def sumG (q : Sh) : Raw := fun f args hp =>
  if f = 46 then
    match args with
    | [tv] =>
      match hp with
      | .glob g gl :: _ =>
        match tv.val? with
        | some (.string t) => some (dgS (q.S t), .pr (P9 t g gl))
        | _ => none
      | _ => none
    | _ => none
  else none
theorem sumG_ok : Raw.Ok (sumG shL) := by
  intro f args hp s c h hc B η w vs hr hargs
  unfold sumG at h
  split at h
  · rename_i hf; subst hf
    split at h
    · rename_i tv
      split at h
      · rename_i g gl r
        split at h
        · rename_i t ht
          simp only [Option.some.injEq, Prod.mk.injEq] at h
          obtain ⟨rfl, rfl⟩ := h
          obtain ⟨h1, rfl, rfl⟩ := hc
          refine call9 t h1 hr (k := 0) rfl ?_
          obtain ⟨a, x, rfl, g1, g2⟩ := hargs.cons_inv
          simp only [Rs] at g2; subst g2
          exact Rs.cons (by simp only [R]; exact SV.val?_R ht g1) Rs.nil
        · simp at h
      · simp at h
    · simp at h
  · simp at h
end Go.Proofs.YtacgamdbmllaoaaDoor
