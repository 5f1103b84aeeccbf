/-
  Walks of functions, reckoned through, and what they give (part W06v). No condition beyond what each says. By an AI agent.
-/
import Derived.Test.YtgefcokanfbpbaaDoorW06q0
import Derived.Test.YtgefcokanfbpbaaDoorW06q1
import Derived.Test.YtgefcokanfbpbaaDoorW06q2
import Derived.Test.YtgefcokanfbpbaaDoorW06q3
namespace Go.Proofs.YtgefcokanfbpbaaDoor
open Go.Ex
open Go.RowKit (Below)
set_option linter.unusedVariables false
set_option maxRecDepth 1000000
noncomputable def sE8 (q : Sh) (d : Nat → Value) : St := (finOf (run (Xk q) 60 LB8 (sK8 4 d).tm (sK8 4 d).hp [])).st
noncomputable def rs8 : Code := cR (cR (cR (cR (code 8))))
noncomputable def fE8 (q : Sh) (d : Nat → Value) : Fin := finOf (run (Xk q) 60 rs8 (sE8 q d).tm (sE8 q d).hp [])
noncomputable def fn8' : Func := (Tryd.prog.funcs[8]?).getD default
theorem fn8_at : Tryd.prog.funcs[8]? = some fn8' := by kernel_rfl
theorem fn8_body : fn8'.body = some (code 8) := by kernel_rfl
theorem fn8_tm : ([] ++ List.replicate (fn8'.ntmps - ([] : List SV).length) (.val undef) : List SV) = List.replicate 77 (.val undef) := by kernel_rfl
theorem k8_f (q : Sh) (d : Nat → Value) : goodR (run (Xk q) 60 rs8 (sE8 q d).tm (sE8 q d).hp []) .ret [Pg 0 glL, hshOf [.num .u32 1779033703, .num .u32 3144134277, .num .u32 1013904242, .num .u32 2773480762, .num .u32 1359893119, .num .u32 2600822924, .num .u32 528734635, .num .u32 1541459225, .bts true [], .num .u64 0] = some (iv, emp, 0) ∧ Pg 0 glL, Pg 0 glL] := by unfold goodR; kernel_rfl
theorem k8_res (q : Sh) (d : Nat → Value) : resultsS Tryd.prog fn8' (fE8 q d).tm (fE8 q d).hp = some (.bol true) := by kernel_rfl
theorem loop8 (q : Sh) (hX : CtOk (Xk q)) (d : Nat → Value) : WpE Tryd.prog (.loop LB8) 1 (sK8 0 d) (fun r => r.e = .exit id8 ∧ ∃ d', r.st = sE8 q d') := by
  refine WpE.loopF (γ := {i : Nat // i ≤ 4} × (Nat → Value)) (S := fun g => sK8 (g.1.1 : Int) g.2) (m := fun g => 4 - g.1.1) (fun g => ?_) (⟨0, by omega⟩, d)
  obtain ⟨⟨i, hi⟩, d⟩ := g
  have step : i < 4 → (∀ d', rnd8 q i d d') → WpE Tryd.prog LB8 1 (sK8 (i : Int) d) (fun r => (r.e = .normal ∧ ∃ T : (Nat → Value) → St, WeakF 1 r.st T ∧ ∀ d', ∃ g' : {i : Nat // i ≤ 4} × (Nat → Value), 4 - g'.1.1 < 4 - i ∧ T d' = sK8 (g'.1.1 : Int) g'.2) ∨ (r.e ≠ .normal ∧ r.e = .exit id8 ∧ ∃ d', r.st = sE8 q d')) := fun hi h => by
    refine (wpE_round (P := Tryd.prog) (X := Xk q) rfl hX (rawX_lp _ _) (n := 60) (T := fun d' => sK8 ((i : Int) + 1) d') (L := fun _ => [Pg 0 glL]) (h) ⟨⟨rfl, rfl⟩, trivial⟩).mono fun r hr => .inl ⟨hr.1, _, hr.2, fun d' => ⟨(⟨i + 1, by omega⟩, d'), by show 4 - (i + 1) < 4 - i; omega, by push_cast; rfl⟩⟩
  match i, hi, step with
  | 0, _, step => exact step (by omega) (rnd8_0 q d)
  | 1, _, step => exact step (by omega) (rnd8_1 q d)
  | 2, _, step => exact step (by omega) (rnd8_2 q d)
  | 3, _, step => exact step (by omega) (rnd8_3 q d)
  | 4, _, _ =>
    refine (wpE_run (P := Tryd.prog) (X := Xk q) rfl hX (rawX_lp _ _) (s := sK8 4 d) (k8_e q d) trivial).mono fun r hr => .inr ⟨by rw [hr.1]; exact (fun e => by cases e), hr.1, d, ?_⟩
    rw [hr.2]; rfl
theorem body8 : WpE Tryd.prog (code 8) 1 sP8 (fun f => f.e = .ret ∧ ∃ d, f = fE8 shL d) := by
  have hX : CtOk (Xk shL) := rawX_ct shL_F allG_ok
  have hl := rawX_lp shL (allG shL)
  rw [code8]
  refine WpE.seq (wpE_run (X := Xk shL) rfl hX hl (k8_a shL) trivial) (fun f hf hn => ?_) (fun f hf hne => absurd hf.1 hne)
  obtain ⟨_, rfl⟩ := hf
  refine WpE.seq (wpE_run (X := Xk shL) rfl hX hl (s := sP8a shL) (k8_b shL) trivial) (fun f hf hn => ?_) (fun f hf hne => absurd hf.1 hne)
  obtain ⟨_, rfl⟩ := hf
  refine WpE.seq (wpE_run (X := Xk shL) rfl hX hl (s := sP8b shL) (k8_c shL) trivial) (fun f hf hn => ?_) (fun f hf hne => absurd hf.1 hne)
  obtain ⟨_, rfl⟩ := hf
  refine WpE.seq (F := fun f => f.e = .normal ∧ ∃ d', f.st = sE8 shL d') (WpE.seq (wpE_round (X := Xk shL) rfl hX hl (s := sP8c shL) (T := fun d => sK8 0 d) (L := fun _ => []) (k8_d shL) trivial) (fun f hf hn => ?_) (fun f hf hne => absurd hf.1 hne)) (fun f hf hn => ?_) (fun f hf hne => absurd hf.1 hne)
  · refine wpE_weakF hf.2 fun d => WpE.block (loop8 shL hX d) fun f hf => ?_
    obtain ⟨h1, d', h2⟩ := hf
    unfold Fin.unblock
    rw [h1]
    simp only [if_true]
    exact ⟨trivial, d', h2⟩
  · obtain ⟨_, d, hd⟩ := hf
    rw [hd]
    refine (wpE_run (X := Xk shL) rfl hX hl (s := sE8 shL d) (k8_f shL d) ⟨⟨rfl, rfl⟩, ⟨by kernel_rfl, rfl, rfl⟩, ⟨rfl, rfl⟩, trivial⟩).mono fun f hf => ⟨hf.1, d, hf.2⟩
theorem call8 {B : Nat} {η : Env} {w : World} {vs : List Value} (hr : HR B η [globS] w) (hB : B ≤ w.heap.size) (hargs : Rs η [] vs) :
    Calls Tryd.prog 8 vs.toArray w (fun e w' => ∃ v, e = .returned v ∧ v = .bool true ∧ Below B w w') := by
  have hb := body8
  unfold sP8 at hb
  rw [← fn8_tm] at hb
  refine (calls_of_wpE fn8_at fn8_body (args := []) (hp := [globS]) (F := fun f => f.e = .ret ∧ ∃ d, f = fE8 shL d) (G := fun s' _ => s' = .bol true) hb (fun f hf => ⟨.inr hf.1, .bol true, by obtain ⟨d, e⟩ := hf.2; rw [e]; exact k8_res shL d, rfl⟩) hr hB hargs).mono fun e w' hq => ?_
  obtain ⟨v, μ, s', hp', e1, e2, e3, e4, rfl⟩ := hq
  simp only [R] at e2
  exact ⟨v, e1, e2, e4⟩
end Go.Proofs.YtgefcokanfbpbaaDoor
