/-
  KeySides: it returns true, whatever the arguments; they read as before. Its condition: the package's variable holds the words that its own text lays.
-/
import Derived.Test.YtaeokmojogekaaaDoorK08x
import Derived.Test.YtaeokmojogekaaaDoorW06w
namespace Go.Proofs.YtaeokmojogekaaaDoor.keySides
open Go.Ex Go.ChangeShapes Go.WideShapes Go.ChangeAt Go.RowKit
set_option linter.unusedVariables false
set_option linter.unusedSimpArgs false
theorem walk (n m a b n' m' a' b' id : Int) (ip : ByteArray) (hb : Bool) (p : Int) (W : World) (hL : laidMet Tryd.prog laidL W) :
    Calls Tryd.prog 9 #[.agg #[.int .u64 n, .int .u64 m, .int .u32 a, .int .u32 b], .agg #[.int .u64 n', .int .u64 m', .int .u32 a', .int .u32 b'], .agg #[.int .i64 id, .string ip, .bool hb, .int .i64 p]] W (fun e w' => e = .returned (.bool true) ∧ Below W.heap.size W w') :=
  law_of (f := 9) (args := [.agg [.val (.int .u64 n), .val (.int .u64 m), .val (.int .u32 a), .val (.int .u32 b)], .agg [.val (.int .u64 n'), .val (.int .u64 m'), .val (.int .u32 a'), .val (.int .u32 b')], .agg [.val (.int .i64 id), .val (.string ip), .val (.bool hb), .val (.int .i64 p)]]) (vs := [.agg #[.int .u64 n, .int .u64 m, .int .u32 a, .int .u32 b], .agg #[.int .u64 n', .int .u64 m', .int .u32 a', .int .u32 b'], .agg #[.int .i64 id, .string ip, .bool hb, .int .i64 p]])
    (Rs.cons ⟨_, rfl, Rs.cons (by simp only [R]) (Rs.cons (by simp only [R]) (Rs.cons (by simp only [R]) (Rs.cons (by simp only [R]) (Rs.nil))))⟩ (Rs.cons ⟨_, rfl, Rs.cons (by simp only [R]) (Rs.cons (by simp only [R]) (Rs.cons (by simp only [R]) (Rs.cons (by simp only [R]) (Rs.nil))))⟩ (Rs.cons ⟨_, rfl, Rs.cons (by simp only [R]) (Rs.cons (by simp only [R]) (Rs.cons (by simp only [R]) (Rs.cons (by simp only [R]) (Rs.nil))))⟩ Rs.nil))) hL fun hr hargs => sides_call n m a b n' m' a' b' id p ip hb hr hargs

set_option maxRecDepth 100000 in
theorem lifted (os : Os) (started : os.Started) (H : Type) (enc : TypeId × Value → H) :
    ReturnsInHanded {} Tryd.checked os 9 .any (fun w args => (Rows.keySidesSpec.pre enc Tryd.prog Tryd.f9 [] false w args ∧ laidMetH Tryd.prog Rows.keySidesRow.laid w) ∧ sizedMet enc Tryd.prog Tryd.f9 (OpenSpec.ofChange Rows.keySidesSpec) false w args)
      (Rows.keySidesSpec.post enc Tryd.prog Tryd.f9 false true false false) := by
  refine returnsInHanded_of_change_and (C := Tryd.checked) (X := fun w _ => laidMetH Tryd.prog Rows.keySidesRow.laid w) (fun _ _ _ hh h => h.of_heap hh) own started (by kernel_rfl) Tryd.func9
    (ChangeSpec.witness_shaped (enc := enc) (C := Tryd.checked) (os := os) (X := fun w _ => laidMetH Tryd.prog Rows.keySidesRow.laid w) false (World.laidAll Tryd.prog os laidL) #[.agg #[.int .u64 0, .int .u64 0, .int .u32 0, .int .u32 0], .agg #[.int .u64 0, .int .u64 0, .int .u32 0, .int .u32 0], .agg #[.int .i64 0, .string ByteArray.empty, .bool false, .int .i64 0]] 8 (World.laidAll_os _ _ _)
      (World.shaped_of_ZipB (by kernel_rfl) (by kernel_rfl)) (by kernel_rfl) (by kernel_rfl) (by kernel_rfl)
      (by rw [MakeChecks.laidMetH_plain _ _ _ (by kernel_rfl)]; exact laidMet_laidAll _ (by kernel_rfl) (by kernel_rfl))) ?_
  intro W base args ds gs before hval0 hW _ hsz0 hL _
  rw [MakeChecks.laidMetH_plain _ _ _ (by kernel_rfl)] at hL
  have hval : ∀ (j : Nat) t v, Tryd.f9.params[j]? = some t → args[j]? = some v → Value.okWide Tryd.prog W .any base t v := hval0
  have hW' := hW
  obtain ⟨p, q, hA0, hV, rfl, hfz, hnd⟩ := hW
  have hA : DataW.TrodAll enc Tryd.prog W 0 (fun _ => true) true Tryd.f9.params.toList args.toList ds p := hA0
  have hK := hA
  rw [Tryd.params9] at hA hval
  obtain ⟨v0, vs0, d0, ds0, p0, q0, hargs, rfl, rfl, h0, r0⟩ := trodAll_cons hA
  obtain ⟨v1, vs1, d1, ds1, p1, q1, rfl, rfl, rfl, h1, r1⟩ := trodAll_cons r0
  obtain ⟨v2, vs2, d2, ds2, p2, q2, rfl, rfl, rfl, h2, r2⟩ := trodAll_cons r1
  obtain ⟨rfl, rfl, rfl⟩ := trodAll_nil r2
  obtain rfl : args = #[v0, v1, v2] := by cases args; simp_all
  obtain ⟨rfl, rfl⟩ := trodVars_none hV
  obtain ⟨cs0, rfl, k0⟩ := cells_of (P := Tryd.prog) (t := 30) (ts := [22, 22, 24, 24]) (by kernel_rfl) (by kernel_rfl) (by kernel_rfl) (hval 0 30 v0 rfl rfl)
  obtain ⟨x0_0, t0_0, e0_0, o0_0, k0⟩ := k0
  obtain ⟨z0_0, rfl, b0_0⟩ := cell_int Tryd.underlying22 o0_0
  obtain ⟨x0_1, t0_1, e0_1, o0_1, k0⟩ := k0
  obtain ⟨z0_1, rfl, b0_1⟩ := cell_int Tryd.underlying22 o0_1
  obtain ⟨x0_2, t0_2, e0_2, o0_2, k0⟩ := k0
  obtain ⟨z0_2, rfl, b0_2⟩ := cell_int Tryd.underlying24 o0_2
  obtain ⟨x0_3, t0_3, e0_3, o0_3, k0⟩ := k0
  obtain ⟨z0_3, rfl, b0_3⟩ := cell_int Tryd.underlying24 o0_3
  simp only [CellsAre] at k0
  obtain rfl : cs0 = #[.int .u64 z0_0, .int .u64 z0_1, .int .u32 z0_2, .int .u32 z0_3] := Array.toList_inj.1 (by rw [e0_0, e0_1, e0_2, e0_3, k0])
  obtain ⟨cs1, rfl, k1⟩ := cells_of (P := Tryd.prog) (t := 30) (ts := [22, 22, 24, 24]) (by kernel_rfl) (by kernel_rfl) (by kernel_rfl) (hval 1 30 v1 rfl rfl)
  obtain ⟨x1_0, t1_0, e1_0, o1_0, k1⟩ := k1
  obtain ⟨z1_0, rfl, b1_0⟩ := cell_int Tryd.underlying22 o1_0
  obtain ⟨x1_1, t1_1, e1_1, o1_1, k1⟩ := k1
  obtain ⟨z1_1, rfl, b1_1⟩ := cell_int Tryd.underlying22 o1_1
  obtain ⟨x1_2, t1_2, e1_2, o1_2, k1⟩ := k1
  obtain ⟨z1_2, rfl, b1_2⟩ := cell_int Tryd.underlying24 o1_2
  obtain ⟨x1_3, t1_3, e1_3, o1_3, k1⟩ := k1
  obtain ⟨z1_3, rfl, b1_3⟩ := cell_int Tryd.underlying24 o1_3
  simp only [CellsAre] at k1
  obtain rfl : cs1 = #[.int .u64 z1_0, .int .u64 z1_1, .int .u32 z1_2, .int .u32 z1_3] := Array.toList_inj.1 (by rw [e1_0, e1_1, e1_2, e1_3, k1])
  obtain ⟨cs2, rfl, k2⟩ := cells_of (P := Tryd.prog) (t := 32) (ts := [3, 9, 4, 3]) (by kernel_rfl) (by kernel_rfl) (by kernel_rfl) (hval 2 32 v2 rfl rfl)
  obtain ⟨x2_0, t2_0, e2_0, o2_0, k2⟩ := k2
  obtain ⟨z2_0, rfl, b2_0⟩ := cell_int Tryd.underlying3 o2_0
  obtain ⟨x2_1, t2_1, e2_1, o2_1, k2⟩ := k2
  obtain ⟨z2_1, rfl, b2_1⟩ := cell_string Tryd.underlying9 o2_1
  obtain ⟨x2_2, t2_2, e2_2, o2_2, k2⟩ := k2
  obtain ⟨z2_2, rfl⟩ := cell_bool Tryd.underlying4 o2_2
  obtain ⟨x2_3, t2_3, e2_3, o2_3, k2⟩ := k2
  obtain ⟨z2_3, rfl, b2_3⟩ := cell_int Tryd.underlying3 o2_3
  simp only [CellsAre] at k2
  obtain rfl : cs2 = #[.int .i64 z2_0, .string z2_1, .bool z2_2, .int .i64 z2_3] := Array.toList_inj.1 (by rw [e2_0, e2_1, e2_2, e2_3, k2])
  clear hA0 hval0
  refine (walk z0_0 z0_1 z0_2 z0_3 z1_0 z1_1 z1_2 z1_3 z2_0 z2_1 z2_2 z2_3  W hL).mono fun e W' ⟨he, bel⟩ => ?_
  subst he
  exact ⟨_, rfl, _, _, _, [], _, [], hW', trodAll_mk1 (shut_bool Tryd.underlying4 _), trodAll_below laidOut bel (by kernel_rfl) hK, rfl, bel.frame _, fun h => by cases h⟩
theorem over : Rows.keySidesRow.holds Tryd.pinned (OpenSpec.ofChange Rows.keySidesSpec) :=
  OpenClaim.holds_of_wide 9 Tryd.f9 rfl rfl rfl rfl rfl rfl rfl ⟨rfl, rfl, rfl, rfl, rfl⟩ rfl rfl rfl rfl rfl (by kernel_rfl) Tryd.func9 (by kernel_rfl)
    (of_decide_eq_true (by kernel_rfl)) (by unfold Func.isWrapper; first | (rw [if_pos (by decide +kernel)]; kernel_rfl) | (rw [if_neg (by decide +kernel)]; exact ⟨rfl, rfl⟩))
    (fun os started H enc _ => lifted os started H enc)
theorem proved : Rows.KeySidesCardSaid :=
  Claim7.holds_tied_plain_at .later [] [.data] true (true, "30f185f298864e8d828eafb7e3d869b00cbf2cc7c0e2e53b1ddd7212857a4ba5") false over (fun _ h => by cases h) (by kernel_rfl) (fun _ h => by cases h) keySides_row_tie rfl ⟨rfl, rfl⟩ (by kernel_rfl) rfl
    (fun f fn hf hfn => by
      obtain rfl : f = 9 := Option.some.inj ((show Tryd.prog.funcNamed "plait/plaitlaw08.KeySides" = some 9 by kernel_rfl).symm.trans hf) |>.symm
      obtain rfl : fn = Tryd.f9 := (Option.some.inj (Tryd.func9.symm.trans hfn)).symm
      exact ⟨by kernel_rfl, fun j t ht => by
        rw [Tryd.params9] at ht
        have hm : t ∈ [30, 30, 32] := by simpa using Array.mem_of_getElem? ht
        have hall : ([30, 30, 32].all fun u => !Tryd.prog.wantsStandIn u) = true := by kernel_rfl
        exact (show Tryd.prog.wantsStandIn t = false by simpa using List.all_eq_true.1 hall t hm)⟩)
    (by kernel_rfl)
#print axioms proved
end Go.Proofs.YtaeokmojogekaaaDoor.keySides
