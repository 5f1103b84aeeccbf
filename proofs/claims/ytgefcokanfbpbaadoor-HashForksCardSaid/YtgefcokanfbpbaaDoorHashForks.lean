/-
  HashForks: it returns true, whatever the arguments; they read as before. Its condition: the package's variable holds the words that its own text lays.
-/
import Derived.Test.YtgefcokanfbpbaaDoorW06f7
import Derived.Test.YtgefcokanfbpbaaDoorW06w
namespace Go.Proofs.YtgefcokanfbpbaaDoor.hashForks
open Go.Ex Go.ChangeShapes Go.WideShapes Go.ChangeAt Go.RowKit
set_option linter.unusedVariables false
set_option linter.unusedSimpArgs false
theorem LF_all (f a b : ByteArray) (t : Bool) : AllP (LF shL f a b t) := by
  have ea : ∀ c : ByteArray, h1 shL f c = hs shL (cutK 150 f ++ cutK 150 c) := fun c => by
    unfold h1 h0; rw [emp_app]; exact hs_write _ _
  have e0 : h0 shL f = hs shL (cutK 150 f) := by unfold h0; rw [emp_app]; rfl
  have e2 : h2 shL f a b = hs shL (cutK 150 f ++ cutK 150 a ++ cutK 150 b) := by
    unfold h2; rw [ea]; exact hs_write _ _
  have sf := (cutK_size 150 (by omega) f).1
  have sa := (cutK_size 150 (by omega) a).1
  have sb := (cutK_size 150 (by omega) b).1
  have em : m0 f = ((cutK 150 f).size : Int) := by
    have := w64_eq 0 (cutK 150 f) (by omega)
    unfold m0
    rw [show (Int.ofNat 0) = ((0 : Nat) : Int) from rfl, this]; simp
  have emc : ∀ (x c : ByteArray), x.size < 1000 → (cutK 150 c).size < 1000 → w64 (x.size : Int) (cutK 150 c) = ((x ++ cutK 150 c).size : Int) := fun x c h1 h2 => by
    rw [w64_eq _ _ (by omega), ByteArray.size_append]
  have r14 : ∀ x c : ByteArray, P14 (oct (hs shL x)) (hs shL x).2 (cutK 150 c) 0 glL := fun x c => ⟨by have := hs_rest x; have := (cutK_size 150 (by omega) c).1; omega, rfl, rfl⟩
  have r13 : ∀ x : ByteArray, P13 (hs shL x).2 0 glL := fun x => ⟨hs_rest x, rfl, rfl⟩
  have r9 : ∀ x : ByteArray, x.size < 1000 → P9 x 0 glL := fun x h => ⟨by omega, rfl, rfl⟩
  have dg : ∀ x : ByteArray, x.size < 1000 → eqDg (shL.D (oct (hs shL x)) (hs shL x).2 (x.size : Int)) (shL.S x) = true := fun x h => by
    rw [hs_dig x (by omega)]; exact eqDg_self _
  have sz1 : (cutK 150 f ++ cutK 150 a).size < 1000 := by rw [ByteArray.size_append]; omega
  have sz2 : (cutK 150 f ++ cutK 150 b).size < 1000 := by rw [ByteArray.size_append]; omega
  have sz3 : (cutK 150 f ++ cutK 150 a ++ cutK 150 b).size < 1000 := by rw [ByteArray.size_append]; rw [ByteArray.size_append]; omega
  have tail : AllP ([P14 (oct (h1 shL f a)) (h1 shL f a).2 (cutK 150 b) 0 glL,
   P13 (h0 shL f).2 0 glL, P9 (cutK 150 f) 0 glL, eqDg (shL.D (oct (h0 shL f)) (h0 shL f).2 (m0 f)) (shL.S (cutK 150 f)) = true,
   P13 (h1 shL f a).2 0 glL, (cutK 150 f).size + (cutK 150 a).size ≤ 9223372036854775807, P9 (cutK 150 f ++ cutK 150 a) 0 glL, eqDg (shL.D (oct (h1 shL f a)) (h1 shL f a).2 (w64 (m0 f) (cutK 150 a))) (shL.S (cutK 150 f ++ cutK 150 a)) = true,
   P13 (h1 shL f b).2 0 glL, (cutK 150 f).size + (cutK 150 b).size ≤ 9223372036854775807, P9 (cutK 150 f ++ cutK 150 b) 0 glL, eqDg (shL.D (oct (h1 shL f b)) (h1 shL f b).2 (w64 (m0 f) (cutK 150 b))) (shL.S (cutK 150 f ++ cutK 150 b)) = true,
   P13 (h2 shL f a b).2 0 glL, (cutK 150 f).size + (cutK 150 a).size ≤ 9223372036854775807, (cutK 150 f ++ cutK 150 a).size + (cutK 150 b).size ≤ 9223372036854775807, P9 (cutK 150 f ++ cutK 150 a ++ cutK 150 b) 0 glL,
   eqDg (shL.D (oct (h2 shL f a b)) (h2 shL f a b).2 (w64 (w64 (m0 f) (cutK 150 a)) (cutK 150 b))) (shL.S (cutK 150 f ++ cutK 150 a ++ cutK 150 b)) = true,
   (m0 f == IntKind.u64.wrap ((cutK 150 f).size : Int)) = true]) := by
    rw [e2, ea a, ea b, e0, em, emc _ a (by omega) (by omega), emc _ b (by omega) (by omega), emc _ b sz1 (by omega)]
    refine ⟨r14 _ b, r13 _, r9 _ (by omega), dg _ (by omega), r13 _, by omega, r9 _ sz1, dg _ sz1, r13 _, by omega, r9 _ sz2, dg _ sz2, r13 _, by omega, by omega, r9 _ sz3, dg _ sz3, ?_, trivial⟩
    rw [wu64]
    simp only [beq_iff_eq]
    omega
  have head : ∀ r, AllP r → AllP ([Pg 0 glL, cutP 150 f, cutP 150 a, cutP 150 b, P14 iv emp (cutK 150 f) 0 glL] ++ r) := fun r hr =>
    ⟨⟨rfl, rfl⟩, cutP_ok 150 (by omega) f, cutP_ok 150 (by omega) a, cutP_ok 150 (by omega) b, ⟨by rw [show emp.size = 0 from rfl]; omega, rfl, rfl⟩, hr⟩
  unfold LF
  rw [List.append_assoc]
  refine head _ ?_
  cases t
  · refine (⟨?_, ?_, tail⟩ : _ ∧ _ ∧ AllP _)
    · rw [e0]; exact r14 _ a
    · rw [e0]; exact r14 _ b
  · refine (⟨?_, ?_, tail⟩ : _ ∧ _ ∧ AllP _)
    · rw [e0]; exact r14 _ b
    · rw [e0]; exact r14 _ a
theorem lenF_true (f a b : ByteArray) : lenF f a b = true := by
  have sf := (cutK_size 150 (by omega) f).1
  have sa := (cutK_size 150 (by omega) a).1
  have sb := (cutK_size 150 (by omega) b).1
  have em : m0 f = ((cutK 150 f).size : Int) := by
    have := w64_eq 0 (cutK 150 f) (by omega)
    unfold m0
    rw [show (Int.ofNat 0) = ((0 : Nat) : Int) from rfl, this]; simp
  unfold lenF
  rw [em, w64_eq _ _ (by omega), w64_eq _ _ (by omega), wu64, wi64, wi64]
  simp only [beq_iff_eq]
  omega
theorem walk (f a b : ByteArray) (t : Bool) (W : World) (hL : laidMet Tryd.prog laidL W) :
    Calls Tryd.prog 7 #[.string f, .agg #[.string a, .string b], .bool t] W (fun e w' => e = .returned (.bool true) ∧ Below W.heap.size W w') := by
  have go : ∀ (t : Bool), givesV (topR (rawX shL (allG shL)) (run (rawX shL (allG shL)) 60) 7 [.val (.string f), .agg [.val (.string a), .val (.string b)], .bol t] [globS] [true, true, true, true, true]) (.val (.bool (lenF f a b))) (LF shL f a b t) := fun t => by
    cases t
    · exact forks_f shL f a b
    · exact forks_t shL f a b
  refine law_of (f := 7) (args := [.val (.string f), .agg [.val (.string a), .val (.string b)], .bol t]) (vs := [.string f, .agg #[.string a, .string b], .bool t]) ?_ hL fun hr hargs => ?_
  · exact Rs.cons (by simp only [R]) (Rs.cons ⟨_, rfl, Rs.cons (by simp only [R]) (Rs.cons (by simp only [R]) Rs.nil)⟩ (Rs.cons (by simp only [R]) Rs.nil))
  · refine (callsV (X := rawX shL (allG shL)) rfl (rawX_ct shL_F allG_ok) (rawX_lp _ _) 60 (go t) (LF_all f a b t) rfl hr hargs).mono fun e w' hq => ?_
    obtain ⟨v, rfl, hR, hb⟩ := hq
    simp only [R] at hR
    rw [lenF_true] at hR
    exact ⟨_, rfl, hR, hb⟩

set_option maxRecDepth 100000 in
theorem lifted (os : Os) (started : os.Started) (H : Type) (enc : TypeId × Value → H) :
    ReturnsInHanded {} Tryd.checked os 7 .any (fun w args => (Rows.hashForksSpec.pre enc Tryd.prog Tryd.f7 [] false w args ∧ laidMetH Tryd.prog Rows.hashForksRow.laid w) ∧ sizedMet enc Tryd.prog Tryd.f7 (OpenSpec.ofChange Rows.hashForksSpec) false w args)
      (Rows.hashForksSpec.post enc Tryd.prog Tryd.f7 false true false false) := by
  refine returnsInHanded_of_change_and (C := Tryd.checked) (X := fun w _ => laidMetH Tryd.prog Rows.hashForksRow.laid w) (fun _ _ _ hh h => h.of_heap hh) own started (by kernel_rfl) Tryd.func7
    (ChangeSpec.witness_shaped (enc := enc) (C := Tryd.checked) (os := os) (X := fun w _ => laidMetH Tryd.prog Rows.hashForksRow.laid w) false (World.laidAll Tryd.prog os laidL) #[.string ByteArray.empty, .agg #[.string ByteArray.empty, .string ByteArray.empty], .bool false] 8 (World.laidAll_os _ _ _)
      (World.shaped_of_ZipB (by kernel_rfl) (by kernel_rfl)) (by kernel_rfl) (by kernel_rfl) (by kernel_rfl)
      (by rw [MakeChecks.laidMetH_plain _ _ _ (by kernel_rfl)]; exact laidMet_laidAll _ (by kernel_rfl) (by kernel_rfl))) ?_
  intro W base args ds gs before hval0 hW _ hsz0 hL _
  rw [MakeChecks.laidMetH_plain _ _ _ (by kernel_rfl)] at hL
  have hval : ∀ (j : Nat) t v, Tryd.f7.params[j]? = some t → args[j]? = some v → Value.okWide Tryd.prog W .any base t v := hval0
  have hW' := hW
  obtain ⟨p, q, hA0, hV, rfl, hfz, hnd⟩ := hW
  have hA : DataW.TrodAll enc Tryd.prog W 0 (fun _ => true) true Tryd.f7.params.toList args.toList ds p := hA0
  have hK := hA
  rw [Tryd.params7] at hA hval
  obtain ⟨v0, vs0, d0, ds0, p0, q0, hargs, rfl, rfl, h0, r0⟩ := trodAll_cons hA
  obtain ⟨v1, vs1, d1, ds1, p1, q1, rfl, rfl, rfl, h1, r1⟩ := trodAll_cons r0
  obtain ⟨v2, vs2, d2, ds2, p2, q2, rfl, rfl, rfl, h2, r2⟩ := trodAll_cons r1
  obtain ⟨rfl, rfl, rfl⟩ := trodAll_nil r2
  obtain rfl : args = #[v0, v1, v2] := by cases args; simp_all
  obtain ⟨rfl, rfl⟩ := trodVars_none hV
  obtain ⟨z0, rfl, b0⟩ := cell_string Tryd.underlying9 (val_cell (by kernel_rfl) (hval 0 9 v0 rfl rfl))
  obtain ⟨cs1, rfl, k1⟩ := cells_of (P := Tryd.prog) (t := 40) (ts := [9, 9]) (by kernel_rfl) (by kernel_rfl) (by kernel_rfl) (hval 1 40 v1 rfl rfl)
  obtain ⟨x1_0, t1_0, e1_0, o1_0, k1⟩ := k1
  obtain ⟨z1_0, rfl, b1_0⟩ := cell_string Tryd.underlying9 o1_0
  obtain ⟨x1_1, t1_1, e1_1, o1_1, k1⟩ := k1
  obtain ⟨z1_1, rfl, b1_1⟩ := cell_string Tryd.underlying9 o1_1
  simp only [CellsAre] at k1
  obtain rfl : cs1 = #[.string z1_0, .string z1_1] := Array.toList_inj.1 (by rw [e1_0, e1_1, k1])
  obtain ⟨z2, rfl⟩ := cell_bool Tryd.underlying4 (val_cell (by kernel_rfl) (hval 2 4 v2 rfl rfl))
  clear hA0 hval0
  refine (walk z0 z1_0 z1_1 z2  W hL).mono fun e W' ⟨he, bel⟩ => ?_
  subst he
  exact ⟨_, rfl, _, _, _, [], _, [], hW', trodAll_mk1 (shut_bool Tryd.underlying4 _), trodAll_below laidOut bel (by kernel_rfl) hK, rfl, bel.frame _, fun h => by cases h⟩
theorem over : Rows.hashForksRow.holds Tryd.pinned (OpenSpec.ofChange Rows.hashForksSpec) :=
  OpenClaim.holds_of_wide 7 Tryd.f7 rfl rfl rfl rfl rfl rfl rfl ⟨rfl, rfl, rfl, rfl, rfl⟩ rfl rfl rfl rfl rfl (by kernel_rfl) Tryd.func7 (by kernel_rfl)
    (of_decide_eq_true (by kernel_rfl)) (by unfold Func.isWrapper; first | (rw [if_pos (by decide +kernel)]; kernel_rfl) | (rw [if_neg (by decide +kernel)]; exact ⟨rfl, rfl⟩))
    (fun os started H enc _ => lifted os started H enc)
theorem proved : Rows.HashForksCardSaid :=
  Claim7.holds_tied_plain_at .later [] [.data] true (true, "e0fa5907c2e1b4edf385be27c5d160ccce484b095ed7f6520272a764994f0aa5") false over (fun _ h => by cases h) (by kernel_rfl) (fun _ h => by cases h) hashForks_row_tie rfl ⟨rfl, rfl⟩ (by kernel_rfl) rfl
    (fun f fn hf hfn => by
      obtain rfl : f = 7 := Option.some.inj ((show Tryd.prog.funcNamed "plait/plaitlaw06.HashForks" = some 7 by kernel_rfl).symm.trans hf) |>.symm
      obtain rfl : fn = Tryd.f7 := (Option.some.inj (Tryd.func7.symm.trans hfn)).symm
      exact ⟨by kernel_rfl, fun j t ht => by
        rw [Tryd.params7] at ht
        have hm : t ∈ [9, 40, 4] := by simpa using Array.mem_of_getElem? ht
        have hall : ([9, 40, 4].all fun u => !Tryd.prog.wantsStandIn u) = true := by kernel_rfl
        exact (show Tryd.prog.wantsStandIn t = false by simpa using List.all_eq_true.1 hall t hm)⟩)
    (by kernel_rfl)
#print axioms proved
end Go.Proofs.YtgefcokanfbpbaaDoor.hashForks
