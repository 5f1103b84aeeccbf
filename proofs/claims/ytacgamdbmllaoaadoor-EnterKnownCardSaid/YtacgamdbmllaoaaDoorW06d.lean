/-
  Walks of functions, reckoned through, and what they give (part W06d). No condition beyond what each says. By an AI agent.
-/
import Derived.Test.YtacgamdbmllaoaaDoorW06r0
import Derived.Test.YtacgamdbmllaoaaDoorW06r1
import Derived.Test.YtacgamdbmllaoaaDoorW06r2
import Derived.Test.YtacgamdbmllaoaaDoorW06r3
import Derived.Test.YtacgamdbmllaoaaDoorW06r4
import Derived.Test.YtacgamdbmllaoaaDoorW06r5
import Derived.Test.YtacgamdbmllaoaaDoorW06r6
import Derived.Test.YtacgamdbmllaoaaDoorW06r7
import Derived.Test.YtacgamdbmllaoaaDoorW06c
namespace Go.Proofs.YtacgamdbmllaoaaDoor
open Go.Ex
open Go.RowKit (Below)
set_option linter.unusedVariables false
set_option maxRecDepth 1000000
theorem round_t (i0 i1 i2 i3 i4 i5 i6 i7 : Int) (s : ByteArray) (x la : Nat → Int) (d d' : Nat → Value) : ∀ t : Nat, t < 64 → roundS1 [i0, i1, i2, i3, i4, i5, i6, i7] s t x la d d'
  | 0, _ => round_0 _ _ _ _ _ _ _ _ _ _ _ _ _
  | 1, _ => round_1 _ _ _ _ _ _ _ _ _ _ _ _ _
  | 2, _ => round_2 _ _ _ _ _ _ _ _ _ _ _ _ _
  | 3, _ => round_3 _ _ _ _ _ _ _ _ _ _ _ _ _
  | 4, _ => round_4 _ _ _ _ _ _ _ _ _ _ _ _ _
  | 5, _ => round_5 _ _ _ _ _ _ _ _ _ _ _ _ _
  | 6, _ => round_6 _ _ _ _ _ _ _ _ _ _ _ _ _
  | 7, _ => round_7 _ _ _ _ _ _ _ _ _ _ _ _ _
  | 8, _ => round_8 _ _ _ _ _ _ _ _ _ _ _ _ _
  | 9, _ => round_9 _ _ _ _ _ _ _ _ _ _ _ _ _
  | 10, _ => round_10 _ _ _ _ _ _ _ _ _ _ _ _ _
  | 11, _ => round_11 _ _ _ _ _ _ _ _ _ _ _ _ _
  | 12, _ => round_12 _ _ _ _ _ _ _ _ _ _ _ _ _
  | 13, _ => round_13 _ _ _ _ _ _ _ _ _ _ _ _ _
  | 14, _ => round_14 _ _ _ _ _ _ _ _ _ _ _ _ _
  | 15, _ => round_15 _ _ _ _ _ _ _ _ _ _ _ _ _
  | 16, _ => round_16 _ _ _ _ _ _ _ _ _ _ _ _ _
  | 17, _ => round_17 _ _ _ _ _ _ _ _ _ _ _ _ _
  | 18, _ => round_18 _ _ _ _ _ _ _ _ _ _ _ _ _
  | 19, _ => round_19 _ _ _ _ _ _ _ _ _ _ _ _ _
  | 20, _ => round_20 _ _ _ _ _ _ _ _ _ _ _ _ _
  | 21, _ => round_21 _ _ _ _ _ _ _ _ _ _ _ _ _
  | 22, _ => round_22 _ _ _ _ _ _ _ _ _ _ _ _ _
  | 23, _ => round_23 _ _ _ _ _ _ _ _ _ _ _ _ _
  | 24, _ => round_24 _ _ _ _ _ _ _ _ _ _ _ _ _
  | 25, _ => round_25 _ _ _ _ _ _ _ _ _ _ _ _ _
  | 26, _ => round_26 _ _ _ _ _ _ _ _ _ _ _ _ _
  | 27, _ => round_27 _ _ _ _ _ _ _ _ _ _ _ _ _
  | 28, _ => round_28 _ _ _ _ _ _ _ _ _ _ _ _ _
  | 29, _ => round_29 _ _ _ _ _ _ _ _ _ _ _ _ _
  | 30, _ => round_30 _ _ _ _ _ _ _ _ _ _ _ _ _
  | 31, _ => round_31 _ _ _ _ _ _ _ _ _ _ _ _ _
  | 32, _ => round_32 _ _ _ _ _ _ _ _ _ _ _ _ _
  | 33, _ => round_33 _ _ _ _ _ _ _ _ _ _ _ _ _
  | 34, _ => round_34 _ _ _ _ _ _ _ _ _ _ _ _ _
  | 35, _ => round_35 _ _ _ _ _ _ _ _ _ _ _ _ _
  | 36, _ => round_36 _ _ _ _ _ _ _ _ _ _ _ _ _
  | 37, _ => round_37 _ _ _ _ _ _ _ _ _ _ _ _ _
  | 38, _ => round_38 _ _ _ _ _ _ _ _ _ _ _ _ _
  | 39, _ => round_39 _ _ _ _ _ _ _ _ _ _ _ _ _
  | 40, _ => round_40 _ _ _ _ _ _ _ _ _ _ _ _ _
  | 41, _ => round_41 _ _ _ _ _ _ _ _ _ _ _ _ _
  | 42, _ => round_42 _ _ _ _ _ _ _ _ _ _ _ _ _
  | 43, _ => round_43 _ _ _ _ _ _ _ _ _ _ _ _ _
  | 44, _ => round_44 _ _ _ _ _ _ _ _ _ _ _ _ _
  | 45, _ => round_45 _ _ _ _ _ _ _ _ _ _ _ _ _
  | 46, _ => round_46 _ _ _ _ _ _ _ _ _ _ _ _ _
  | 47, _ => round_47 _ _ _ _ _ _ _ _ _ _ _ _ _
  | 48, _ => round_48 _ _ _ _ _ _ _ _ _ _ _ _ _
  | 49, _ => round_49 _ _ _ _ _ _ _ _ _ _ _ _ _
  | 50, _ => round_50 _ _ _ _ _ _ _ _ _ _ _ _ _
  | 51, _ => round_51 _ _ _ _ _ _ _ _ _ _ _ _ _
  | 52, _ => round_52 _ _ _ _ _ _ _ _ _ _ _ _ _
  | 53, _ => round_53 _ _ _ _ _ _ _ _ _ _ _ _ _
  | 54, _ => round_54 _ _ _ _ _ _ _ _ _ _ _ _ _
  | 55, _ => round_55 _ _ _ _ _ _ _ _ _ _ _ _ _
  | 56, _ => round_56 _ _ _ _ _ _ _ _ _ _ _ _ _
  | 57, _ => round_57 _ _ _ _ _ _ _ _ _ _ _ _ _
  | 58, _ => round_58 _ _ _ _ _ _ _ _ _ _ _ _ _
  | 59, _ => round_59 _ _ _ _ _ _ _ _ _ _ _ _ _
  | 60, _ => round_60 _ _ _ _ _ _ _ _ _ _ _ _ _
  | 61, _ => round_61 _ _ _ _ _ _ _ _ _ _ _ _ _
  | 62, _ => round_62 _ _ _ _ _ _ _ _ _ _ _ _ _
  | 63, _ => round_63 _ _ _ _ _ _ _ _ _ _ _ _ _
  | t + 64, h => absurd h (by omega)
theorem allP_rep {p : Prop} (hp : p) {r : List Prop} (hr : AllP r) : ∀ n : Nat, AllP (List.replicate n p ++ r)
  | 0 => hr
  | n + 1 => ⟨hp, allP_rep hp hr n⟩
theorem LS_all (ini : List Int) (s : ByteArray) (hs : s.size = 64) (t : Nat) (ht : t < 64) : AllP (LS ini s t) := by
  unfold LS
  split
  · exact ⟨⟨by omega, by omega⟩, rfl, rfl, trivial⟩
  · exact allP_rep (fxE_t _) (r := [_, _]) ⟨fxE_t _, fxE_t _, trivial⟩ 70
noncomputable def fn35 : Func := (Tryd.prog.funcs[88]?).getD default
theorem fn35_at : Tryd.prog.funcs[88]? = some fn35 := by kernel_rfl
theorem fn35_body : fn35.body = some (code 88) := by kernel_rfl
theorem fn35_res (tm : List SV) (hp : List SO) : resultsS Tryd.prog fn35 tm hp = some (.tup []) := by kernel_rfl
theorem fn35_tm (ini : List Int) (s : ByteArray) : (⟨[.hdl 6, .ptr 4 0] ++ List.replicate (fn35.ntmps - 2) (.val undef), hpI ini s⟩ : St) = s35 ini s := by kernel_rfl
theorem loop35 (i0 i1 i2 i3 i4 i5 i6 i7 : Int) (s : ByteArray) (hs : s.size = 64) (d : Nat → Value) :
    WpE Tryd.prog (.loop lb) 7 (stT [i0, i1, i2, i3, i4, i5, i6, i7] s 0 d) (fun r => r.e = .exit id35 ∧ r.hp = hpO [i0, i1, i2, i3, i4, i5, i6, i7] s) := by
  refine WpE.loopF (γ := {t : Nat // t ≤ 64} × (Nat → Value)) (S := fun g => stT [i0, i1, i2, i3, i4, i5, i6, i7] s g.1.1 g.2) (m := fun g => 64 - g.1.1) (fun g => ?_) (⟨0, Nat.zero_le _⟩, d)
  obtain ⟨⟨t, ht⟩, d⟩ := g
  by_cases h : t < 64
  · refine (wpE_round (X := X1) rfl (conned_ct turC) (conned_lp turC) (n := 60) (keep := keepS) (fg := fgS) (T := fun d' => stT [i0, i1, i2, i3, i4, i5, i6, i7] s (t + 1) d') (L := fun _ => LS [i0, i1, i2, i3, i4, i5, i6, i7] s t)
      (fun d' => round_t i0 i1 i2 i3 i4 i5 i6 i7 s _ _ d d' t h) (LS_all _ s hs t h)).mono fun r hr => .inl ⟨hr.1, _, hr.2, fun d' => ⟨(⟨t + 1, h⟩, d'), ?_, rfl⟩⟩
    show 64 - (t + 1) < 64 - t
    omega
  · have e : t = 64 := by omega
    subst e
    refine (wpE_run (X := X1) rfl (conned_ct turC) (conned_lp turC) (n0 := 7) (s := stT [i0, i1, i2, i3, i4, i5, i6, i7] s 64 d) (lb_end i0 i1 i2 i3 i4 i5 i6 i7 s d) trivial).mono fun r hr => .inr ⟨by rw [hr.1]; exact (fun e => by cases e), hr.1, ?_⟩
    rw [hr.2]
    exact lb_end_hp i0 i1 i2 i3 i4 i5 i6 i7 s d
theorem body35 (i0 i1 i2 i3 i4 i5 i6 i7 : Int) (s : ByteArray) (hs : s.size = 64) :
    WpE Tryd.prog (code 88) 7 (s35 [i0, i1, i2, i3, i4, i5, i6, i7] s) (fun r => r.e = .normal ∧ r.hp = hpO [i0, i1, i2, i3, i4, i5, i6, i7] s) := by
  rw [code35]
  refine WpE.seq (wpE_run (X := X1) rfl (conned_ct turC) (conned_lp turC) (a35_good i0 i1 i2 i3 i4 i5 i6 i7 s) trivial) (fun r hr hn => ?_) (fun r hr hne => absurd hr.1 hne)
  obtain ⟨_, rfl⟩ := hr
  refine WpE.seq (wpE_round (X := X1) rfl (conned_ct turC) (conned_lp turC) (s := s35b [i0, i1, i2, i3, i4, i5, i6, i7] s) (L := fun _ => []) (b35_gives i0 i1 i2 i3 i4 i5 i6 i7 s) trivial) (fun r hr hn => ?_) (fun r hr hne => absurd hr.1 hne)
  refine wpE_weakF hr.2 fun d => WpE.weak (stN_weak i0 i1 i2 i3 i4 i5 i6 i7 s d) (WpE.block (loop35 i0 i1 i2 i3 i4 i5 i6 i7 s hs d) fun r hr => ?_)
  obtain ⟨h1, h2⟩ := hr
  unfold Fin.unblock
  rw [h1]
  simp only [if_true]
  exact ⟨trivial, h2⟩
theorem call35 (ini : List Int) (hi : ini.length = 8) (s : ByteArray) (hs : s.size = 64) {B : Nat} {η : Env} {w : World} {vs : List Value} (hr : HR B η (hpI ini s) w) (hB : B ≤ w.heap.size) (hargs : Rs η [.hdl 6, .ptr 4 0] vs) :
    Calls Tryd.prog 88 vs.toArray w (fun e w' => ∃ v μ, e = .returned v ∧ R (η ++ μ) (.tup []) v ∧ HR B (η ++ μ) (hpO ini s) w' ∧ Below B w w') := by
  match ini, hi with
  | [i0, i1, i2, i3, i4, i5, i6, i7], _ =>
    have hb := body35 i0 i1 i2 i3 i4 i5 i6 i7 s hs
    rw [← fn35_tm] at hb
    refine (calls_of_wpE fn35_at fn35_body (args := [.hdl 6, .ptr 4 0]) (hp := hpI [i0, i1, i2, i3, i4, i5, i6, i7] s) (F := fun r => r.e = .normal ∧ r.hp = hpO [i0, i1, i2, i3, i4, i5, i6, i7] s) (G := fun s' hp' => s' = .tup [] ∧ hp' = hpO [i0, i1, i2, i3, i4, i5, i6, i7] s) hb (fun r hr => ⟨.inl hr.1, _, fn35_res _ _, rfl, hr.2⟩) hr hB hargs).mono fun e w' hq => ?_
    obtain ⟨v, μ, s', hp', e1, e2, e3, e4, rfl, rfl⟩ := hq
    exact ⟨v, μ, e1, e2, e3, e4⟩
end Go.Proofs.YtacgamdbmllaoaaDoor
