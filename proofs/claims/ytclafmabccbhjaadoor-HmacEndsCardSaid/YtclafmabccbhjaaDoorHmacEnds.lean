/-
  HmacEnds: it returns true, whatever the arguments; they read as before. Its condition: the package's variable holds the words that its own text lays.
-/
import Derived.Test.YtclafmabccbhjaaDoorK07w
import Derived.Test.YtclafmabccbhjaaDoorW06w
namespace Go.Proofs.YtclafmabccbhjaaDoor.hmacEnds
open Go.Ex Go.ChangeShapes Go.WideShapes Go.ChangeAt Go.RowKit
set_option linter.unusedVariables false
set_option linter.unusedSimpArgs false
theorem walk (z0 z1 z2 z3 z4 z5 z6 z7 z8 z9 z10 z11 z12 z13 z14 z15 z16 z17 z18 z19 z20 z21 z22 z23 z24 z25 z26 z27 z28 z29 z30 z31 n : Int) (a b : ByteArray) (hn : -9223372036854775808 ≤ n ∧ n < 9223372036854775808) (ha : a.size ≤ 140737488355328) (hb : b.size ≤ 140737488355328) (W : World) (hL : laidMet Tryd.prog laidL W) :
    Calls Tryd.prog 4 #[.agg #[.int .u8 z0, .int .u8 z1, .int .u8 z2, .int .u8 z3, .int .u8 z4, .int .u8 z5, .int .u8 z6, .int .u8 z7, .int .u8 z8, .int .u8 z9, .int .u8 z10, .int .u8 z11, .int .u8 z12, .int .u8 z13, .int .u8 z14, .int .u8 z15, .int .u8 z16, .int .u8 z17, .int .u8 z18, .int .u8 z19, .int .u8 z20, .int .u8 z21, .int .u8 z22, .int .u8 z23, .int .u8 z24, .int .u8 z25, .int .u8 z26, .int .u8 z27, .int .u8 z28, .int .u8 z29, .int .u8 z30, .int .u8 z31], .int .i64 n, .string a, .string b] W (fun e w' => e = .returned (.bool true) ∧ Below W.heap.size W w') :=
  law_of (f := 4) (args := [.agg [.val (.int .u8 z0), .val (.int .u8 z1), .val (.int .u8 z2), .val (.int .u8 z3), .val (.int .u8 z4), .val (.int .u8 z5), .val (.int .u8 z6), .val (.int .u8 z7), .val (.int .u8 z8), .val (.int .u8 z9), .val (.int .u8 z10), .val (.int .u8 z11), .val (.int .u8 z12), .val (.int .u8 z13), .val (.int .u8 z14), .val (.int .u8 z15), .val (.int .u8 z16), .val (.int .u8 z17), .val (.int .u8 z18), .val (.int .u8 z19), .val (.int .u8 z20), .val (.int .u8 z21), .val (.int .u8 z22), .val (.int .u8 z23), .val (.int .u8 z24), .val (.int .u8 z25), .val (.int .u8 z26), .val (.int .u8 z27), .val (.int .u8 z28), .val (.int .u8 z29), .val (.int .u8 z30), .val (.int .u8 z31)], .val (.int .i64 n), .val (.string a), .val (.string b)]) (vs := [.agg #[.int .u8 z0, .int .u8 z1, .int .u8 z2, .int .u8 z3, .int .u8 z4, .int .u8 z5, .int .u8 z6, .int .u8 z7, .int .u8 z8, .int .u8 z9, .int .u8 z10, .int .u8 z11, .int .u8 z12, .int .u8 z13, .int .u8 z14, .int .u8 z15, .int .u8 z16, .int .u8 z17, .int .u8 z18, .int .u8 z19, .int .u8 z20, .int .u8 z21, .int .u8 z22, .int .u8 z23, .int .u8 z24, .int .u8 z25, .int .u8 z26, .int .u8 z27, .int .u8 z28, .int .u8 z29, .int .u8 z30, .int .u8 z31], .int .i64 n, .string a, .string b])
    (Rs.cons ⟨_, rfl, Rs.cons (by simp only [R]) (Rs.cons (by simp only [R]) (Rs.cons (by simp only [R]) (Rs.cons (by simp only [R]) (Rs.cons (by simp only [R]) (Rs.cons (by simp only [R]) (Rs.cons (by simp only [R]) (Rs.cons (by simp only [R]) (Rs.cons (by simp only [R]) (Rs.cons (by simp only [R]) (Rs.cons (by simp only [R]) (Rs.cons (by simp only [R]) (Rs.cons (by simp only [R]) (Rs.cons (by simp only [R]) (Rs.cons (by simp only [R]) (Rs.cons (by simp only [R]) (Rs.cons (by simp only [R]) (Rs.cons (by simp only [R]) (Rs.cons (by simp only [R]) (Rs.cons (by simp only [R]) (Rs.cons (by simp only [R]) (Rs.cons (by simp only [R]) (Rs.cons (by simp only [R]) (Rs.cons (by simp only [R]) (Rs.cons (by simp only [R]) (Rs.cons (by simp only [R]) (Rs.cons (by simp only [R]) (Rs.cons (by simp only [R]) (Rs.cons (by simp only [R]) (Rs.cons (by simp only [R]) (Rs.cons (by simp only [R]) (Rs.cons (by simp only [R]) (Rs.nil))))))))))))))))))))))))))))))))⟩ (Rs.cons (by simp only [R]) (Rs.cons (by simp only [R]) (Rs.cons (by simp only [R]) (Rs.nil))))) hL fun {η} hr hargs => ends_call (fun i => [z0, z1, z2, z3, z4, z5, z6, z7, z8, z9, z10, z11, z12, z13, z14, z15, z16, z17, z18, z19, z20, z21, z22, z23, z24, z25, z26, z27, z28, z29, z30, z31].getD i 0) n a b ha hr (show Rs η [cells32 (fun i => [z0, z1, z2, z3, z4, z5, z6, z7, z8, z9, z10, z11, z12, z13, z14, z15, z16, z17, z18, z19, z20, z21, z22, z23, z24, z25, z26, z27, z28, z29, z30, z31].getD i 0), .val (.int .i64 n), .val (.string a), .val (.string b)] _ from hargs)

set_option maxRecDepth 100000 in
theorem lifted (os : Os) (started : os.Started) (H : Type) (enc : TypeId × Value → H) :
    ReturnsInHanded {} Tryd.checked os 4 .any (fun w args => (Rows.hmacEndsSpec.pre enc Tryd.prog Tryd.f4 [] false w args ∧ laidMetH Tryd.prog Rows.hmacEndsRow.laid w) ∧ sizedMet enc Tryd.prog Tryd.f4 (OpenSpec.ofChange Rows.hmacEndsSpec) false w args)
      (Rows.hmacEndsSpec.post enc Tryd.prog Tryd.f4 false true false false) := by
  refine returnsInHanded_of_change_and (C := Tryd.checked) (X := fun w _ => laidMetH Tryd.prog Rows.hmacEndsRow.laid w) (fun _ _ _ hh h => h.of_heap hh) own started (by kernel_rfl) Tryd.func4
    (ChangeSpec.witness_shaped (enc := enc) (C := Tryd.checked) (os := os) (X := fun w _ => laidMetH Tryd.prog Rows.hmacEndsRow.laid w) false (World.laidAll Tryd.prog os laidL) #[.agg #[.int .u8 0, .int .u8 0, .int .u8 0, .int .u8 0, .int .u8 0, .int .u8 0, .int .u8 0, .int .u8 0, .int .u8 0, .int .u8 0, .int .u8 0, .int .u8 0, .int .u8 0, .int .u8 0, .int .u8 0, .int .u8 0, .int .u8 0, .int .u8 0, .int .u8 0, .int .u8 0, .int .u8 0, .int .u8 0, .int .u8 0, .int .u8 0, .int .u8 0, .int .u8 0, .int .u8 0, .int .u8 0, .int .u8 0, .int .u8 0, .int .u8 0, .int .u8 0], .int .i64 0, .string ByteArray.empty, .string ByteArray.empty] 8 (World.laidAll_os _ _ _)
      (World.shaped_of_ZipB (by kernel_rfl) (by kernel_rfl)) (by kernel_rfl) (by kernel_rfl) (by kernel_rfl)
      (by rw [MakeChecks.laidMetH_plain _ _ _ (by kernel_rfl)]; exact laidMet_laidAll _ (by kernel_rfl) (by kernel_rfl))) ?_
  intro W base args ds gs before hval0 hW _ hsz0 hL _
  rw [MakeChecks.laidMetH_plain _ _ _ (by kernel_rfl)] at hL
  have hval : ∀ (j : Nat) t v, Tryd.f4.params[j]? = some t → args[j]? = some v → Value.okWide Tryd.prog W .any base t v := hval0
  have hW' := hW
  obtain ⟨p, q, hA0, hV, rfl, hfz, hnd⟩ := hW
  have hA : DataW.TrodAll enc Tryd.prog W 0 (fun _ => true) true Tryd.f4.params.toList args.toList ds p := hA0
  have hK := hA
  rw [Tryd.params4] at hA hval
  obtain ⟨v0, vs0, d0, ds0, p0, q0, hargs, rfl, rfl, h0, r0⟩ := trodAll_cons hA
  obtain ⟨v1, vs1, d1, ds1, p1, q1, rfl, rfl, rfl, h1, r1⟩ := trodAll_cons r0
  obtain ⟨v2, vs2, d2, ds2, p2, q2, rfl, rfl, rfl, h2, r2⟩ := trodAll_cons r1
  obtain ⟨v3, vs3, d3, ds3, p3, q3, rfl, rfl, rfl, h3, r3⟩ := trodAll_cons r2
  obtain ⟨rfl, rfl, rfl⟩ := trodAll_nil r3
  obtain rfl : args = #[v0, v1, v2, v3] := by cases args; simp_all
  obtain ⟨rfl, rfl⟩ := trodVars_none hV
  obtain ⟨cs0, rfl, k0⟩ := cells_of (P := Tryd.prog) (t := 23) (ts := [5, 5, 5, 5, 5, 5, 5, 5, 5, 5, 5, 5, 5, 5, 5, 5, 5, 5, 5, 5, 5, 5, 5, 5, 5, 5, 5, 5, 5, 5, 5, 5]) (by kernel_rfl) (by kernel_rfl) (by kernel_rfl) (hval 0 23 v0 rfl rfl)
  obtain ⟨x0_0, t0_0, e0_0, o0_0, k0⟩ := k0
  obtain ⟨z0_0, rfl, b0_0⟩ := cell_int Tryd.underlying5 o0_0
  obtain ⟨x0_1, t0_1, e0_1, o0_1, k0⟩ := k0
  obtain ⟨z0_1, rfl, b0_1⟩ := cell_int Tryd.underlying5 o0_1
  obtain ⟨x0_2, t0_2, e0_2, o0_2, k0⟩ := k0
  obtain ⟨z0_2, rfl, b0_2⟩ := cell_int Tryd.underlying5 o0_2
  obtain ⟨x0_3, t0_3, e0_3, o0_3, k0⟩ := k0
  obtain ⟨z0_3, rfl, b0_3⟩ := cell_int Tryd.underlying5 o0_3
  obtain ⟨x0_4, t0_4, e0_4, o0_4, k0⟩ := k0
  obtain ⟨z0_4, rfl, b0_4⟩ := cell_int Tryd.underlying5 o0_4
  obtain ⟨x0_5, t0_5, e0_5, o0_5, k0⟩ := k0
  obtain ⟨z0_5, rfl, b0_5⟩ := cell_int Tryd.underlying5 o0_5
  obtain ⟨x0_6, t0_6, e0_6, o0_6, k0⟩ := k0
  obtain ⟨z0_6, rfl, b0_6⟩ := cell_int Tryd.underlying5 o0_6
  obtain ⟨x0_7, t0_7, e0_7, o0_7, k0⟩ := k0
  obtain ⟨z0_7, rfl, b0_7⟩ := cell_int Tryd.underlying5 o0_7
  obtain ⟨x0_8, t0_8, e0_8, o0_8, k0⟩ := k0
  obtain ⟨z0_8, rfl, b0_8⟩ := cell_int Tryd.underlying5 o0_8
  obtain ⟨x0_9, t0_9, e0_9, o0_9, k0⟩ := k0
  obtain ⟨z0_9, rfl, b0_9⟩ := cell_int Tryd.underlying5 o0_9
  obtain ⟨x0_10, t0_10, e0_10, o0_10, k0⟩ := k0
  obtain ⟨z0_10, rfl, b0_10⟩ := cell_int Tryd.underlying5 o0_10
  obtain ⟨x0_11, t0_11, e0_11, o0_11, k0⟩ := k0
  obtain ⟨z0_11, rfl, b0_11⟩ := cell_int Tryd.underlying5 o0_11
  obtain ⟨x0_12, t0_12, e0_12, o0_12, k0⟩ := k0
  obtain ⟨z0_12, rfl, b0_12⟩ := cell_int Tryd.underlying5 o0_12
  obtain ⟨x0_13, t0_13, e0_13, o0_13, k0⟩ := k0
  obtain ⟨z0_13, rfl, b0_13⟩ := cell_int Tryd.underlying5 o0_13
  obtain ⟨x0_14, t0_14, e0_14, o0_14, k0⟩ := k0
  obtain ⟨z0_14, rfl, b0_14⟩ := cell_int Tryd.underlying5 o0_14
  obtain ⟨x0_15, t0_15, e0_15, o0_15, k0⟩ := k0
  obtain ⟨z0_15, rfl, b0_15⟩ := cell_int Tryd.underlying5 o0_15
  obtain ⟨x0_16, t0_16, e0_16, o0_16, k0⟩ := k0
  obtain ⟨z0_16, rfl, b0_16⟩ := cell_int Tryd.underlying5 o0_16
  obtain ⟨x0_17, t0_17, e0_17, o0_17, k0⟩ := k0
  obtain ⟨z0_17, rfl, b0_17⟩ := cell_int Tryd.underlying5 o0_17
  obtain ⟨x0_18, t0_18, e0_18, o0_18, k0⟩ := k0
  obtain ⟨z0_18, rfl, b0_18⟩ := cell_int Tryd.underlying5 o0_18
  obtain ⟨x0_19, t0_19, e0_19, o0_19, k0⟩ := k0
  obtain ⟨z0_19, rfl, b0_19⟩ := cell_int Tryd.underlying5 o0_19
  obtain ⟨x0_20, t0_20, e0_20, o0_20, k0⟩ := k0
  obtain ⟨z0_20, rfl, b0_20⟩ := cell_int Tryd.underlying5 o0_20
  obtain ⟨x0_21, t0_21, e0_21, o0_21, k0⟩ := k0
  obtain ⟨z0_21, rfl, b0_21⟩ := cell_int Tryd.underlying5 o0_21
  obtain ⟨x0_22, t0_22, e0_22, o0_22, k0⟩ := k0
  obtain ⟨z0_22, rfl, b0_22⟩ := cell_int Tryd.underlying5 o0_22
  obtain ⟨x0_23, t0_23, e0_23, o0_23, k0⟩ := k0
  obtain ⟨z0_23, rfl, b0_23⟩ := cell_int Tryd.underlying5 o0_23
  obtain ⟨x0_24, t0_24, e0_24, o0_24, k0⟩ := k0
  obtain ⟨z0_24, rfl, b0_24⟩ := cell_int Tryd.underlying5 o0_24
  obtain ⟨x0_25, t0_25, e0_25, o0_25, k0⟩ := k0
  obtain ⟨z0_25, rfl, b0_25⟩ := cell_int Tryd.underlying5 o0_25
  obtain ⟨x0_26, t0_26, e0_26, o0_26, k0⟩ := k0
  obtain ⟨z0_26, rfl, b0_26⟩ := cell_int Tryd.underlying5 o0_26
  obtain ⟨x0_27, t0_27, e0_27, o0_27, k0⟩ := k0
  obtain ⟨z0_27, rfl, b0_27⟩ := cell_int Tryd.underlying5 o0_27
  obtain ⟨x0_28, t0_28, e0_28, o0_28, k0⟩ := k0
  obtain ⟨z0_28, rfl, b0_28⟩ := cell_int Tryd.underlying5 o0_28
  obtain ⟨x0_29, t0_29, e0_29, o0_29, k0⟩ := k0
  obtain ⟨z0_29, rfl, b0_29⟩ := cell_int Tryd.underlying5 o0_29
  obtain ⟨x0_30, t0_30, e0_30, o0_30, k0⟩ := k0
  obtain ⟨z0_30, rfl, b0_30⟩ := cell_int Tryd.underlying5 o0_30
  obtain ⟨x0_31, t0_31, e0_31, o0_31, k0⟩ := k0
  obtain ⟨z0_31, rfl, b0_31⟩ := cell_int Tryd.underlying5 o0_31
  simp only [CellsAre] at k0
  obtain rfl : cs0 = #[.int .u8 z0_0, .int .u8 z0_1, .int .u8 z0_2, .int .u8 z0_3, .int .u8 z0_4, .int .u8 z0_5, .int .u8 z0_6, .int .u8 z0_7, .int .u8 z0_8, .int .u8 z0_9, .int .u8 z0_10, .int .u8 z0_11, .int .u8 z0_12, .int .u8 z0_13, .int .u8 z0_14, .int .u8 z0_15, .int .u8 z0_16, .int .u8 z0_17, .int .u8 z0_18, .int .u8 z0_19, .int .u8 z0_20, .int .u8 z0_21, .int .u8 z0_22, .int .u8 z0_23, .int .u8 z0_24, .int .u8 z0_25, .int .u8 z0_26, .int .u8 z0_27, .int .u8 z0_28, .int .u8 z0_29, .int .u8 z0_30, .int .u8 z0_31] := Array.toList_inj.1 (by rw [e0_0, e0_1, e0_2, e0_3, e0_4, e0_5, e0_6, e0_7, e0_8, e0_9, e0_10, e0_11, e0_12, e0_13, e0_14, e0_15, e0_16, e0_17, e0_18, e0_19, e0_20, e0_21, e0_22, e0_23, e0_24, e0_25, e0_26, e0_27, e0_28, e0_29, e0_30, e0_31, k0])
  obtain ⟨z1, rfl, b1⟩ := cell_int Tryd.underlying3 (val_cell (by kernel_rfl) (hval 1 3 v1 rfl rfl))
  obtain ⟨z2, rfl, b2⟩ := cell_string Tryd.underlying9 (val_cell (by kernel_rfl) (hval 2 9 v2 rfl rfl))
  have zb2 : z2.size ≤ 140737488355328 := by
    obtain ⟨s', e1, e2, _, _⟩ := Go.ChangeMaps.open_string Tryd.underlying9 (hval 2 9 _ rfl rfl) h2
    have e3 := sized_string hsz0 (j := 2) (t := 9) (bytes := s'.data.toList) (by kernel_rfl) (by rw [e2]; rfl)
    have e4 := reachBytes_lt
    injection e1 with e1
    subst e1
    have e5 : z2.size = z2.data.toList.length := by rw [Array.length_toList]; rfl
    omega
  obtain ⟨z3, rfl, b3⟩ := cell_string Tryd.underlying9 (val_cell (by kernel_rfl) (hval 3 9 v3 rfl rfl))
  have zb3 : z3.size ≤ 140737488355328 := by
    obtain ⟨s', e1, e2, _, _⟩ := Go.ChangeMaps.open_string Tryd.underlying9 (hval 3 9 _ rfl rfl) h3
    have e3 := sized_string hsz0 (j := 3) (t := 9) (bytes := s'.data.toList) (by kernel_rfl) (by rw [e2]; rfl)
    have e4 := reachBytes_lt
    injection e1 with e1
    subst e1
    have e5 : z3.size = z3.data.toList.length := by rw [Array.length_toList]; rfl
    omega
  clear hA0 hval0
  refine (walk z0_0 z0_1 z0_2 z0_3 z0_4 z0_5 z0_6 z0_7 z0_8 z0_9 z0_10 z0_11 z0_12 z0_13 z0_14 z0_15 z0_16 z0_17 z0_18 z0_19 z0_20 z0_21 z0_22 z0_23 z0_24 z0_25 z0_26 z0_27 z0_28 z0_29 z0_30 z0_31 z1 z2 z3 (has_i64 b1) zb2 zb3 W hL).mono fun e W' ⟨he, bel⟩ => ?_
  subst he
  exact ⟨_, rfl, _, _, _, [], _, [], hW', trodAll_mk1 (shut_bool Tryd.underlying4 _), trodAll_below laidOut bel (by kernel_rfl) hK, rfl, bel.frame _, fun h => by cases h⟩
theorem over : Rows.hmacEndsRow.holds Tryd.pinned (OpenSpec.ofChange Rows.hmacEndsSpec) :=
  OpenClaim.holds_of_wide 4 Tryd.f4 rfl rfl rfl rfl rfl rfl rfl ⟨rfl, rfl, rfl, rfl, rfl⟩ rfl rfl rfl rfl rfl (by kernel_rfl) Tryd.func4 (by kernel_rfl)
    (of_decide_eq_true (by kernel_rfl)) (by unfold Func.isWrapper; first | (rw [if_pos (by decide +kernel)]; kernel_rfl) | (rw [if_neg (by decide +kernel)]; exact ⟨rfl, rfl⟩))
    (fun os started H enc _ => lifted os started H enc)
theorem proved : Rows.HmacEndsCardSaid :=
  Claim7.holds_tied_plain_at .later [] [.data] true (true, "b40959cacbda0c8b30d30cd09f0c538b42c9e227317d7be0061df96220e0a52f") false over (fun _ h => by cases h) (by kernel_rfl) (fun _ h => by cases h) hmacEnds_row_tie rfl ⟨rfl, rfl⟩ (by kernel_rfl) rfl
    (fun f fn hf hfn => by
      obtain rfl : f = 4 := Option.some.inj ((show Tryd.prog.funcNamed "plait/plaitlaw07.HmacEnds" = some 4 by kernel_rfl).symm.trans hf) |>.symm
      obtain rfl : fn = Tryd.f4 := (Option.some.inj (Tryd.func4.symm.trans hfn)).symm
      exact ⟨by kernel_rfl, fun j t ht => by
        rw [Tryd.params4] at ht
        have hm : t ∈ [23, 3, 9, 9] := by simpa using Array.mem_of_getElem? ht
        have hall : ([23, 3, 9, 9].all fun u => !Tryd.prog.wantsStandIn u) = true := by kernel_rfl
        exact (show Tryd.prog.wantsStandIn t = false by simpa using List.all_eq_true.1 hall t hm)⟩)
    (by kernel_rfl)
#print axioms proved
end Go.Proofs.YtclafmabccbhjaaDoor.hmacEnds
