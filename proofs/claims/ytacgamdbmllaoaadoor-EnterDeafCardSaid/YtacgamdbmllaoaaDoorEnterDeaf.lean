/-
  EnterDeaf: it returns true, whatever the arguments; they read as before. Its condition: the package's variable holds the words that its own text lays.
-/
import Derived.Test.YtacgamdbmllaoaaDoorK23x
import Derived.Test.YtacgamdbmllaoaaDoorW06w
namespace Go.Proofs.YtacgamdbmllaoaaDoor.enterDeaf
open Go.Ex Go.ChangeShapes Go.WideShapes Go.ChangeAt Go.RowKit
set_option linter.unusedVariables false
set_option linter.unusedSimpArgs false
theorem walk (k0 k1 n0 n1 at_ : Int) (v2 : Value) (ha : 0 ≤ at_ ∧ at_ < 256) (W : World) (hL : laidMet Tryd.prog laidL W) (o2 : RowsAt W 38 cksO v2) :
    Calls Tryd.prog 3 #[.agg #[.int .u64 k0, .int .u64 k1], .agg #[.int .u32 n0, .int .u32 n1], v2, .int .u8 at_] W (fun e w' => e = .returned (.bool true) ∧ Below W.heap.size W w') := by
  obtain ⟨v, hr⟩ := hr_laid hL W.heap.size
  have hg : ∀ wr l, globS.row = some (wr, l) → wr = false := fun wr l he => by simp only [globS, SO.row, Option.some.injEq, Prod.mk.injEq] at he; exact he.1.symm
  have q : ∀ {η : Env} {k : IntKind} {z : Int}, R η (.val (.int k z)) (.int k z) := by intro η k z; simp only [R]
  have fin : ∀ {e : Ending} {w' : World}, (∃ v, e = .returned v ∧ v = .bool true ∧ Below W.heap.size W w') → e = .returned (.bool true) ∧ Below W.heap.size W w' := fun {e w'} ⟨v, e1, e2, hb⟩ => ⟨by rw [e1, e2], hb⟩
  rcases o2 with rfl | ⟨b, o, len, cap, L, rfl, hl, hb, hlen, hc, hf⟩
  · obtain ⟨b0, p0, e1, e2, _, _⟩ := (hr.blk 0 _ rfl).1 _ _ rfl
    have hr' := HR.rowF hr hg (b := b0) (o := p0) 0 (L := []) e2 (fun j x hx => by simp at hx)
    exact (deaf_call k0 k1 n0 n1 at_ 0 [] false ha (fun h => by cases h) hr' (vs := [.agg #[.int .u64 k0, .int .u64 k1], .agg #[.int .u32 n0, .int .u32 n1], .slice none 0 0, .int .u8 at_])
      (Rs.cons ⟨_, rfl, Rs.cons q (Rs.cons q Rs.nil)⟩ (Rs.cons ⟨_, rfl, Rs.cons q (Rs.cons q Rs.nil)⟩ (Rs.cons (by simp only [slT, R]) (Rs.cons q Rs.nil))))).mono fun e w' hq => fin hq
  · have hr' := HR.rowF hr hg cap hb hc
    have hrow : RowOk L len := fun i hi => ⟨by
      have : (i + 1) * 38 ≤ len * 38 := Nat.mul_le_mul_right _ hi
      have e : cksO.length = 38 := rfl
      omega, hf i hi⟩
    exact (deaf_call k0 k1 n0 n1 at_ len L true ha (fun _ => hrow) hr' (vs := [.agg #[.int .u64 k0, .int .u64 k1], .agg #[.int .u32 n0, .int .u32 n1], .slice (some ⟨b, o, none⟩) len cap, .int .u8 at_])
      (Rs.cons ⟨_, rfl, Rs.cons q (Rs.cons q Rs.nil)⟩ (Rs.cons ⟨_, rfl, Rs.cons q (Rs.cons q Rs.nil)⟩ (Rs.cons ⟨b, o, cap, rfl, rfl, hl, rfl⟩ (Rs.cons q Rs.nil))))).mono fun e w' hq => fin hq

set_option maxRecDepth 100000 in
theorem lifted (os : Os) (started : os.Started) (H : Type) (enc : TypeId × Value → H) :
    ReturnsInHanded {} Tryd.checked os 3 .any (fun w args => (Rows.enterDeafSpec.pre enc Tryd.prog Tryd.f3 [] false w args ∧ laidMetH Tryd.prog Rows.enterDeafRow.laid w) ∧ sizedMet enc Tryd.prog Tryd.f3 (OpenSpec.ofChange Rows.enterDeafSpec) false w args)
      (Rows.enterDeafSpec.post enc Tryd.prog Tryd.f3 false true false false) := by
  refine returnsInHanded_of_change_and (C := Tryd.checked) (X := fun w _ => laidMetH Tryd.prog Rows.enterDeafRow.laid w) (fun _ _ _ hh h => h.of_heap hh) own started (by kernel_rfl) Tryd.func3
    (ChangeSpec.witness_shaped (enc := enc) (C := Tryd.checked) (os := os) (X := fun w _ => laidMetH Tryd.prog Rows.enterDeafRow.laid w) false (World.laidAll Tryd.prog os laidL) #[.agg #[.int .u64 0, .int .u64 0], .agg #[.int .u32 0, .int .u32 0], .slice none 0 0, .int .u8 0] 8 (World.laidAll_os _ _ _)
      (World.shaped_of_ZipB (by kernel_rfl) (by kernel_rfl)) (by kernel_rfl) (by kernel_rfl) (by kernel_rfl)
      (by rw [MakeChecks.laidMetH_plain _ _ _ (by kernel_rfl)]; exact laidMet_laidAll _ (by kernel_rfl) (by kernel_rfl))) ?_
  intro W base args ds gs before hval0 hW _ hsz0 hL _
  rw [MakeChecks.laidMetH_plain _ _ _ (by kernel_rfl)] at hL
  have hval : ∀ (j : Nat) t v, Tryd.f3.params[j]? = some t → args[j]? = some v → Value.okWide Tryd.prog W .any base t v := hval0
  have hW' := hW
  obtain ⟨p, q, hA0, hV, rfl, hfz, hnd⟩ := hW
  have hA : DataW.TrodAll enc Tryd.prog W 0 (fun _ => true) true Tryd.f3.params.toList args.toList ds p := hA0
  have hK := hA
  rw [Tryd.params3] at hA hval
  obtain ⟨v0, vs0, d0, ds0, p0, q0, hargs, rfl, rfl, h0, r0⟩ := trodAll_cons hA
  obtain ⟨v1, vs1, d1, ds1, p1, q1, rfl, rfl, rfl, h1, r1⟩ := trodAll_cons r0
  obtain ⟨v2, vs2, d2, ds2, p2, q2, rfl, rfl, rfl, h2, r2⟩ := trodAll_cons r1
  obtain ⟨v3, vs3, d3, ds3, p3, q3, rfl, rfl, rfl, h3, r3⟩ := trodAll_cons r2
  obtain ⟨rfl, rfl, rfl⟩ := trodAll_nil r3
  obtain rfl : args = #[v0, v1, v2, v3] := by cases args; simp_all
  obtain ⟨rfl, rfl⟩ := trodVars_none hV
  obtain ⟨cs0, rfl, k0⟩ := cells_of (P := Tryd.prog) (t := 23) (ts := [22, 22]) (by kernel_rfl) (by kernel_rfl) (by kernel_rfl) (hval 0 23 v0 rfl rfl)
  obtain ⟨x0_0, t0_0, e0_0, o0_0, k0⟩ := k0
  obtain ⟨z0_0, rfl, b0_0⟩ := cell_int Tryd.underlying22 o0_0
  obtain ⟨x0_1, t0_1, e0_1, o0_1, k0⟩ := k0
  obtain ⟨z0_1, rfl, b0_1⟩ := cell_int Tryd.underlying22 o0_1
  simp only [CellsAre] at k0
  obtain rfl : cs0 = #[.int .u64 z0_0, .int .u64 z0_1] := Array.toList_inj.1 (by rw [e0_0, e0_1, k0])
  obtain ⟨cs1, rfl, k1⟩ := cells_of (P := Tryd.prog) (t := 25) (ts := [24, 24]) (by kernel_rfl) (by kernel_rfl) (by kernel_rfl) (hval 1 25 v1 rfl rfl)
  obtain ⟨x1_0, t1_0, e1_0, o1_0, k1⟩ := k1
  obtain ⟨z1_0, rfl, b1_0⟩ := cell_int Tryd.underlying24 o1_0
  obtain ⟨x1_1, t1_1, e1_1, o1_1, k1⟩ := k1
  obtain ⟨z1_1, rfl, b1_1⟩ := cell_int Tryd.underlying24 o1_1
  simp only [CellsAre] at k1
  obtain rfl : cs1 = #[.int .u32 z1_0, .int .u32 z1_1] := Array.toList_inj.1 (by rw [e1_0, e1_1, k1])
  have o2 := open_rows (sz := 38) (depth := 40) (cks := cksO) Tryd.underlying26 (by kernel_rfl) (by kernel_rfl) rfl (by omega) h2 (hval 2 26 v2 rfl rfl)
  obtain ⟨z3, rfl, b3⟩ := cell_int Tryd.underlying5 (val_cell (by kernel_rfl) (hval 3 5 v3 rfl rfl))
  clear hA0 hval0
  refine (walk z0_0 z0_1 z1_0 z1_1 z3 v2 (has_u8 b3) W hL o2).mono fun e W' ⟨he, bel⟩ => ?_
  subst he
  exact ⟨_, rfl, _, _, _, [], _, [], hW', trodAll_mk1 (shut_bool Tryd.underlying4 _), trodAll_below laidOut bel (by kernel_rfl) hK, rfl, bel.frame _, fun h => by cases h⟩
theorem over : Rows.enterDeafRow.holds Tryd.pinned (OpenSpec.ofChange Rows.enterDeafSpec) :=
  OpenClaim.holds_of_wide 3 Tryd.f3 rfl rfl rfl rfl rfl rfl rfl ⟨rfl, rfl, rfl, rfl, rfl⟩ rfl rfl rfl rfl rfl (by kernel_rfl) Tryd.func3 (by kernel_rfl)
    (of_decide_eq_true (by kernel_rfl)) (by unfold Func.isWrapper; first | (rw [if_pos (by decide +kernel)]; kernel_rfl) | (rw [if_neg (by decide +kernel)]; exact ⟨rfl, rfl⟩))
    (fun os started H enc _ => lifted os started H enc)
theorem proved : Rows.EnterDeafCardSaid :=
  Claim7.holds_tied_plain_at .later [] [.data] true (true, "712718fd8bc457794a3f0a1de34878048826cd629d5822be8bb47cfe0c189ce8") false over (fun _ h => by cases h) (by kernel_rfl) (fun _ h => by cases h) enterDeaf_row_tie rfl ⟨rfl, rfl⟩ (by kernel_rfl) rfl
    (fun f fn hf hfn => by
      obtain rfl : f = 3 := Option.some.inj ((show Tryd.prog.funcNamed "plait/plaitlaw23.EnterDeaf" = some 3 by kernel_rfl).symm.trans hf) |>.symm
      obtain rfl : fn = Tryd.f3 := (Option.some.inj (Tryd.func3.symm.trans hfn)).symm
      exact ⟨by kernel_rfl, fun j t ht => by
        rw [Tryd.params3] at ht
        have hm : t ∈ [23, 25, 26, 5] := by simpa using Array.mem_of_getElem? ht
        have hall : ([23, 25, 26, 5].all fun u => !Tryd.prog.wantsStandIn u) = true := by kernel_rfl
        exact (show Tryd.prog.wantsStandIn t = false by simpa using List.all_eq_true.1 hall t hm)⟩)
    (by kernel_rfl)
#print axioms proved
end Go.Proofs.YtacgamdbmllaoaaDoor.enterDeaf
