/-
  KeyMacs: it returns true, whatever the arguments; they read as before. Its condition: the package's variable holds the words that its own text lays.
-/
import Derived.Test.YtaeokmojogekaaaDoorK08M
import Derived.Test.YtaeokmojogekaaaDoorW06w
namespace Go.Proofs.YtaeokmojogekaaaDoor.keyMacs
open Go.Ex Go.ChangeShapes Go.WideShapes Go.ChangeAt Go.RowKit
set_option linter.unusedVariables false
set_option linter.unusedSimpArgs false
theorem bs4_len (n : Int) : (bs4 n).length = 4 := rfl
theorem mac_call (n m a b : Int) (hn : 0 ≤ n ∧ n < 18446744073709551616) (hm : 0 ≤ m ∧ m < 18446744073709551616) {η : Env} {W : World} {vs : List Value} (hr : HR W.heap.size η [globS] W) (hargs : Rs η [.agg [.val (.int .u64 n), .val (.int .u64 m), .val (.int .u32 a), .val (.int .u32 b)]] vs) :
    Calls Tryd.prog 7 vs.toArray W (fun e w' => ∃ v, e = .returned v ∧ R [] (.bol true) v ∧ Below W.heap.size W w') := by
  have en := rb8_eq n hn.1 hn.2
  have em := rb8_eq m hm.1 hm.2
  have hk : (bs8 n ++ bs8 m).length = 16 := rfl
  have ea := mix_eq (bs8 n ++ bs8 m) hk 54 (by omega)
  have eb := mix_eq (bs8 n ++ bs8 m) hk 92 (by omega)
  generalize hM : bs4 a ++ bs4 b = M
  generalize hK : bs8 n ++ bs8 m = K at *
  have hMl : M.length = 8 := by rw [← hM]; rfl
  have e1 : ba (b64r (mxB (fnB K) (54 : Nat)) ++ (rb4 a ++ rb4 b)) = hmI K M := by
    unfold hmI b64r ba
    rw [ea, rb4_eq, rb4_eq, hM, map_idB]; rfl
  have e2 : ba (b64r (mxB (fnB K) (92 : Nat)) ++ (List.range 32).map (byB (shL.S (hmI K M)))) = hmO K (shL.S (hmI K M)) := by
    unfold hmO b64r ba
    rw [eb, map_idB]; rfl
  have s1 : (hmI K M).size ≤ 247 := by rw [← e1]; unfold ba b64r; rw [baS]; simp [rb4]
  have s2 : (hmO K (shL.S (hmI K M))).size ≤ 247 := by rw [← e2]; unfold ba b64r; rw [baS]; simp
  have pm : PM n m a b (ba K) (ba M) (hmR shL.S K M) 0 glL := ⟨by rw [hK], by rw [hM], by unfold ba; simp, rfl, rfl⟩
  exact callsV (X := kmX (mxB (fnB K) (54 : Nat)) (mxB (fnB K) (92 : Nat)) (hmR shL.S K M) (ba K) (ba M) (shL.S (hmI K M)) (hmI K M) (hmR shL.S K M) (hmO K (shL.S (hmI K M)))) rfl
    (guardX_ct (rawP_ct (Raw.or_ok worksG_ok (Raw.or_ok (macG_ok _ _ _) (Raw.or_ok (rsH_ok _) (Raw.or_ok (mixG_ok _ _) (Raw.or_ok (hmW_ok _) joinR_ok))))))) (guardX_lp (rawP_lp _)) 80 (km_gives _ _ _ _ _ _ _ _ _ n m a b)
    ⟨by rw [en, em, hK]; exact ⟨rfl, rfl⟩, ⟨e1, s1, rfl⟩, by rw [en, em, hK]; exact ⟨rfl, rfl⟩, ⟨e2, s2, rfl⟩, pm, eqDg_self _, pm, beq_self_eq_true _, pm, beq_self_eq_true _, ⟨rfl, rfl⟩, trivial⟩ rfl hr hargs
theorem walk (n m a b : Int) (hn : IntKind.u64.has n) (hm : IntKind.u64.has m) (W : World) (hL : laidMet Tryd.prog laidL W) :
    Calls Tryd.prog 7 #[.agg #[.int .u64 n, .int .u64 m, .int .u32 a, .int .u32 b]] W (fun e w' => e = .returned (.bool true) ∧ Below W.heap.size W w') :=
  law_of (f := 7) (args := [.agg [.val (.int .u64 n), .val (.int .u64 m), .val (.int .u32 a), .val (.int .u32 b)]]) (vs := [.agg #[.int .u64 n, .int .u64 m, .int .u32 a, .int .u32 b]])
    (Rs.cons ⟨_, rfl, Rs.cons (by simp only [R]) (Rs.cons (by simp only [R]) (Rs.cons (by simp only [R]) (Rs.cons (by simp only [R]) Rs.nil)))⟩ Rs.nil) hL fun hr hargs => (mac_call n m a b (has_u64 hn) (has_u64 hm) hr hargs).mono fun e w' hq => by
      obtain ⟨v, rfl, hR, hb⟩ := hq
      simp only [R] at hR
      exact ⟨_, rfl, hR, hb⟩

set_option maxRecDepth 100000 in
theorem lifted (os : Os) (started : os.Started) (H : Type) (enc : TypeId × Value → H) :
    ReturnsInHanded {} Tryd.checked os 7 .any (fun w args => (Rows.keyMacsSpec.pre enc Tryd.prog Tryd.f7 [] false w args ∧ laidMetH Tryd.prog Rows.keyMacsRow.laid w) ∧ sizedMet enc Tryd.prog Tryd.f7 (OpenSpec.ofChange Rows.keyMacsSpec) false w args)
      (Rows.keyMacsSpec.post enc Tryd.prog Tryd.f7 false true false false) := by
  refine returnsInHanded_of_change_and (C := Tryd.checked) (X := fun w _ => laidMetH Tryd.prog Rows.keyMacsRow.laid w) (fun _ _ _ hh h => h.of_heap hh) own started (by kernel_rfl) Tryd.func7
    (ChangeSpec.witness_shaped (enc := enc) (C := Tryd.checked) (os := os) (X := fun w _ => laidMetH Tryd.prog Rows.keyMacsRow.laid w) false (World.laidAll Tryd.prog os laidL) #[.agg #[.int .u64 0, .int .u64 0, .int .u32 0, .int .u32 0]] 8 (World.laidAll_os _ _ _)
      (World.shaped_of_ZipB (by kernel_rfl) (by kernel_rfl)) (by kernel_rfl) (by kernel_rfl) (by kernel_rfl)
      (by rw [MakeChecks.laidMetH_plain _ _ _ (by kernel_rfl)]; exact laidMet_laidAll _ (by kernel_rfl) (by kernel_rfl))) ?_
  intro W base args ds gs before hval0 hW _ hsz0 hL _
  rw [MakeChecks.laidMetH_plain _ _ _ (by kernel_rfl)] at hL
  have hval : ∀ (j : Nat) t v, Tryd.f7.params[j]? = some t → args[j]? = some v → Value.okWide Tryd.prog W .any base t v := hval0
  have hW' := hW
  obtain ⟨p, q, hA0, hV, rfl, hfz, hnd⟩ := hW
  have hA : DataW.TrodAll enc Tryd.prog W 0 (fun _ => true) true Tryd.f7.params.toList args.toList ds p := hA0
  have hK := hA
  rw [Tryd.params7] at hA hval
  obtain ⟨v0, vs0, d0, ds0, p0, q0, hargs, rfl, rfl, h0, r0⟩ := trodAll_cons hA
  obtain ⟨rfl, rfl, rfl⟩ := trodAll_nil r0
  obtain rfl : args = #[v0] := by cases args; simp_all
  obtain ⟨rfl, rfl⟩ := trodVars_none hV
  obtain ⟨cs0, rfl, k0⟩ := cells_of (P := Tryd.prog) (t := 30) (ts := [22, 22, 24, 24]) (by kernel_rfl) (by kernel_rfl) (by kernel_rfl) (hval 0 30 v0 rfl rfl)
  obtain ⟨x0_0, t0_0, e0_0, o0_0, k0⟩ := k0
  obtain ⟨z0_0, rfl, b0_0⟩ := cell_int Tryd.underlying22 o0_0
  obtain ⟨x0_1, t0_1, e0_1, o0_1, k0⟩ := k0
  obtain ⟨z0_1, rfl, b0_1⟩ := cell_int Tryd.underlying22 o0_1
  obtain ⟨x0_2, t0_2, e0_2, o0_2, k0⟩ := k0
  obtain ⟨z0_2, rfl, b0_2⟩ := cell_int Tryd.underlying24 o0_2
  obtain ⟨x0_3, t0_3, e0_3, o0_3, k0⟩ := k0
  obtain ⟨z0_3, rfl, b0_3⟩ := cell_int Tryd.underlying24 o0_3
  simp only [CellsAre] at k0
  obtain rfl : cs0 = #[.int .u64 z0_0, .int .u64 z0_1, .int .u32 z0_2, .int .u32 z0_3] := Array.toList_inj.1 (by rw [e0_0, e0_1, e0_2, e0_3, k0])
  clear hA0 hval0
  refine (walk z0_0 z0_1 z0_2 z0_3 b0_0 b0_1 W hL).mono fun e W' ⟨he, bel⟩ => ?_
  subst he
  exact ⟨_, rfl, _, _, _, [], _, [], hW', trodAll_mk1 (shut_bool Tryd.underlying4 _), trodAll_below laidOut bel (by kernel_rfl) hK, rfl, bel.frame _, fun h => by cases h⟩
theorem over : Rows.keyMacsRow.holds Tryd.pinned (OpenSpec.ofChange Rows.keyMacsSpec) :=
  OpenClaim.holds_of_wide 7 Tryd.f7 rfl rfl rfl rfl rfl rfl rfl ⟨rfl, rfl, rfl, rfl, rfl⟩ rfl rfl rfl rfl rfl (by kernel_rfl) Tryd.func7 (by kernel_rfl)
    (of_decide_eq_true (by kernel_rfl)) (by unfold Func.isWrapper; first | (rw [if_pos (by decide +kernel)]; kernel_rfl) | (rw [if_neg (by decide +kernel)]; exact ⟨rfl, rfl⟩))
    (fun os started H enc _ => lifted os started H enc)
theorem proved : Rows.KeyMacsCardSaid :=
  Claim7.holds_tied_plain_at .later [] [.data] true (true, "30f185f298864e8d828eafb7e3d869b00cbf2cc7c0e2e53b1ddd7212857a4ba5") false over (fun _ h => by cases h) (by kernel_rfl) (fun _ h => by cases h) keyMacs_row_tie rfl ⟨rfl, rfl⟩ (by kernel_rfl) rfl
    (fun f fn hf hfn => by
      obtain rfl : f = 7 := Option.some.inj ((show Tryd.prog.funcNamed "plait/plaitlaw08.KeyMacs" = some 7 by kernel_rfl).symm.trans hf) |>.symm
      obtain rfl : fn = Tryd.f7 := (Option.some.inj (Tryd.func7.symm.trans hfn)).symm
      exact ⟨by kernel_rfl, fun j t ht => by
        rw [Tryd.params7] at ht
        have hm : t ∈ [30] := by simpa using Array.mem_of_getElem? ht
        have hall : ([30].all fun u => !Tryd.prog.wantsStandIn u) = true := by kernel_rfl
        exact (show Tryd.prog.wantsStandIn t = false by simpa using List.all_eq_true.1 hall t hm)⟩)
    (by kernel_rfl)
#print axioms proved
end Go.Proofs.YtaeokmojogekaaaDoor.keyMacs
