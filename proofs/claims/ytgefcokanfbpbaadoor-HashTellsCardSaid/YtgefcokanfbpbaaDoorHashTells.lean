/-
  HashTells: it returns true, whatever the arguments; they read as before. Its condition: the package's variable holds the words that its own text lays.
-/
import Derived.Test.YtgefcokanfbpbaaDoorW07e
import Derived.Test.YtgefcokanfbpbaaDoorW06w
namespace Go.Proofs.YtgefcokanfbpbaaDoor.hashTells
open Go.Ex Go.ChangeShapes Go.WideShapes Go.ChangeAt Go.RowKit
set_option linter.unusedVariables false
set_option linter.unusedSimpArgs false
/-! ### HashTells -/
section
variable (q : Sh) (t : ByteArray) (m a : Int)
def tT : ByteArray := cutK 200 t
def tL : ByteArray := tT t ++ ⟨[UInt8.ofNat m.toNat].toArray⟩
def kF : Int := (IntKind.i64.wrap a).tmod (IntKind.i64.wrap (((tT t).size : Int) + 1))
def tF : ByteArray := (tT t).extract (Int.toNat 0) (kF t a).toNat
def rsP (x : ByteArray) : Prop := q.S = shL.S ∧ x.size ≤ 247
noncomputable def XH : Cx := rawP (worksG.or ((rsG q.S).or (sumG q)))
noncomputable def LT : List Prop :=
  [cutP 200 t, IntKind.i64.wrap (((tT t).size : Int) + 1) ≠ 0, (0 : Int) ≤ 0 ∧ 0 ≤ kF t a ∧ kF t a ≤ ((tT t).size : Int), (tT t).size + (⟨[UInt8.ofNat m.toNat].toArray⟩ : ByteArray).size ≤ 9223372036854775807,
   P9 (tT t) 0 glL, rsP q (tT t), eqDg (q.S (tT t)) (q.S (tT t)) = true,
   P9 (tL t m) 0 glL, rsP q (tL t m), eqDg (q.S (tL t m)) (q.S (tL t m)) = true,
   P9 (tF t a) 0 glL, rsP q (tF t a), eqDg (q.S (tF t a)) (q.S (tF t a)) = true, Pg 0 glL]
theorem tells_t : givesV (topR (XH q) (run (XH q) 80) 3 [.val (.string t), .val (.int .u8 m), .val (.int .u8 a)] [.glob 0 glL] [true, true, true]) (.bol true) (LT q t m a) := by
  unfold givesV; kernel_rfl
end
theorem LT_all (t : ByteArray) (m a : Int) (ha : 0 ≤ a ∧ a < 256) : AllP (LT shL t m a) := by
  have sT := (cutK_size 200 (by omega) t).1
  have sT' : (tT t).size ≤ 200 := by unfold tT; omega
  have e1 : IntKind.i64.wrap a = a := by rw [wi64]; omega
  have e2 : IntKind.i64.wrap (((tT t).size : Int) + 1) = ((tT t).size : Int) + 1 := by rw [wi64]; omega
  have ek : kF t a = a % (((tT t).size : Int) + 1) := by unfold kF; rw [e1, e2, Int.tmod_eq_emod_of_nonneg ha.1]
  have k0 : 0 ≤ kF t a := by rw [ek]; exact Int.emod_nonneg _ (by omega)
  have k1 : kF t a < ((tT t).size : Int) + 1 := by rw [ek]; exact Int.emod_lt_of_pos _ (by omega)
  have s1 : (⟨[UInt8.ofNat m.toNat].toArray⟩ : ByteArray).size = 1 := rfl
  have sL : (tL t m).size ≤ 201 := by unfold tL; rw [ByteArray.size_append, s1]; omega
  have sF : (tF t a).size ≤ 200 := by unfold tF; rw [ByteArray.size_extract]; omega
  exact ⟨cutP_ok 200 (by omega) t, by rw [e2]; omega, ⟨by omega, k0, by omega⟩, by rw [s1]; omega, ⟨by omega, rfl, rfl⟩, ⟨rfl, by omega⟩, eqDg_self _, ⟨by omega, rfl, rfl⟩, ⟨rfl, by omega⟩, eqDg_self _, ⟨by omega, rfl, rfl⟩, ⟨rfl, by omega⟩, eqDg_self _, ⟨rfl, rfl⟩, trivial⟩
theorem walk (t : ByteArray) (m a : Int) (hm : IntKind.u8.has m) (ha : IntKind.u8.has a) (W : World) (hL : laidMet Tryd.prog laidL W) :
    Calls Tryd.prog 3 #[.string t, .int .u8 m, .int .u8 a] W (fun e w' => e = .returned (.bool true) ∧ Below W.heap.size W w') := by
  refine law_of (f := 3) (args := [.val (.string t), .val (.int .u8 m), .val (.int .u8 a)]) (vs := [.string t, .int .u8 m, .int .u8 a]) ?_ hL fun hr hargs => ?_
  · exact Rs.cons (by simp only [R]) (Rs.cons (by simp only [R]) (Rs.cons (by simp only [R]) Rs.nil))
  · refine (callsV (X := XH shL) rfl (rawP_ct (Raw.or_ok worksG_ok (Raw.or_ok (rsG_ok _) sumG_ok))) (rawP_lp _) 80 (tells_t shL t m a) (LT_all t m a (has_u8 ha)) rfl hr hargs).mono fun e w' hq => ?_
    obtain ⟨v, rfl, hR, hb⟩ := hq
    simp only [R] at hR
    exact ⟨_, rfl, hR, hb⟩

set_option maxRecDepth 100000 in
theorem lifted (os : Os) (started : os.Started) (H : Type) (enc : TypeId × Value → H) :
    ReturnsInHanded {} Tryd.checked os 3 .any (fun w args => (Rows.hashTellsSpec.pre enc Tryd.prog Tryd.f3 [] false w args ∧ laidMetH Tryd.prog Rows.hashTellsRow.laid w) ∧ sizedMet enc Tryd.prog Tryd.f3 (OpenSpec.ofChange Rows.hashTellsSpec) false w args)
      (Rows.hashTellsSpec.post enc Tryd.prog Tryd.f3 false true false false) := by
  refine returnsInHanded_of_change_and (C := Tryd.checked) (X := fun w _ => laidMetH Tryd.prog Rows.hashTellsRow.laid w) (fun _ _ _ hh h => h.of_heap hh) own started (by kernel_rfl) Tryd.func3
    (ChangeSpec.witness_shaped (enc := enc) (C := Tryd.checked) (os := os) (X := fun w _ => laidMetH Tryd.prog Rows.hashTellsRow.laid w) false (World.laidAll Tryd.prog os laidL) #[.string ByteArray.empty, .int .u8 0, .int .u8 0] 8 (World.laidAll_os _ _ _)
      (World.shaped_of_ZipB (by kernel_rfl) (by kernel_rfl)) (by kernel_rfl) (by kernel_rfl) (by kernel_rfl)
      (by rw [MakeChecks.laidMetH_plain _ _ _ (by kernel_rfl)]; exact laidMet_laidAll _ (by kernel_rfl) (by kernel_rfl))) ?_
  intro W base args ds gs before hval0 hW _ hsz0 hL _
  rw [MakeChecks.laidMetH_plain _ _ _ (by kernel_rfl)] at hL
  have hval : ∀ (j : Nat) t v, Tryd.f3.params[j]? = some t → args[j]? = some v → Value.okWide Tryd.prog W .any base t v := hval0
  have hW' := hW
  obtain ⟨p, q, hA0, hV, rfl, hfz, hnd⟩ := hW
  have hA : DataW.TrodAll enc Tryd.prog W 0 (fun _ => true) true Tryd.f3.params.toList args.toList ds p := hA0
  have hK := hA
  rw [Tryd.params3] at hA hval
  obtain ⟨v0, vs0, d0, ds0, p0, q0, hargs, rfl, rfl, h0, r0⟩ := trodAll_cons hA
  obtain ⟨v1, vs1, d1, ds1, p1, q1, rfl, rfl, rfl, h1, r1⟩ := trodAll_cons r0
  obtain ⟨v2, vs2, d2, ds2, p2, q2, rfl, rfl, rfl, h2, r2⟩ := trodAll_cons r1
  obtain ⟨rfl, rfl, rfl⟩ := trodAll_nil r2
  obtain rfl : args = #[v0, v1, v2] := by cases args; simp_all
  obtain ⟨rfl, rfl⟩ := trodVars_none hV
  obtain ⟨z0, rfl, b0⟩ := cell_string Tryd.underlying9 (val_cell (by kernel_rfl) (hval 0 9 v0 rfl rfl))
  obtain ⟨z1, rfl, b1⟩ := cell_int Tryd.underlying5 (val_cell (by kernel_rfl) (hval 1 5 v1 rfl rfl))
  obtain ⟨z2, rfl, b2⟩ := cell_int Tryd.underlying5 (val_cell (by kernel_rfl) (hval 2 5 v2 rfl rfl))
  clear hA0 hval0
  refine (walk z0 z1 z2 b1 b2 W hL).mono fun e W' ⟨he, bel⟩ => ?_
  subst he
  exact ⟨_, rfl, _, _, _, [], _, [], hW', trodAll_mk1 (shut_bool Tryd.underlying4 _), trodAll_below laidOut bel (by kernel_rfl) hK, rfl, bel.frame _, fun h => by cases h⟩
theorem over : Rows.hashTellsRow.holds Tryd.pinned (OpenSpec.ofChange Rows.hashTellsSpec) :=
  OpenClaim.holds_of_wide 3 Tryd.f3 rfl rfl rfl rfl rfl rfl rfl ⟨rfl, rfl, rfl, rfl, rfl⟩ rfl rfl rfl rfl rfl (by kernel_rfl) Tryd.func3 (by kernel_rfl)
    (of_decide_eq_true (by kernel_rfl)) (by unfold Func.isWrapper; first | (rw [if_pos (by decide +kernel)]; kernel_rfl) | (rw [if_neg (by decide +kernel)]; exact ⟨rfl, rfl⟩))
    (fun os started H enc _ => lifted os started H enc)
theorem proved : Rows.HashTellsCardSaid :=
  Claim7.holds_tied_plain_at .later [] [.data] true (true, "e0fa5907c2e1b4edf385be27c5d160ccce484b095ed7f6520272a764994f0aa5") false over (fun _ h => by cases h) (by kernel_rfl) (fun _ h => by cases h) hashTells_row_tie rfl ⟨rfl, rfl⟩ (by kernel_rfl) rfl
    (fun f fn hf hfn => by
      obtain rfl : f = 3 := Option.some.inj ((show Tryd.prog.funcNamed "plait/plaitlaw06.HashTells" = some 3 by kernel_rfl).symm.trans hf) |>.symm
      obtain rfl : fn = Tryd.f3 := (Option.some.inj (Tryd.func3.symm.trans hfn)).symm
      exact ⟨by kernel_rfl, fun j t ht => by
        rw [Tryd.params3] at ht
        have hm : t ∈ [9, 5, 5] := by simpa using Array.mem_of_getElem? ht
        have hall : ([9, 5, 5].all fun u => !Tryd.prog.wantsStandIn u) = true := by kernel_rfl
        exact (show Tryd.prog.wantsStandIn t = false by simpa using List.all_eq_true.1 hall t hm)⟩)
    (by kernel_rfl)
#print axioms proved
end Go.Proofs.YtgefcokanfbpbaaDoor.hashTells
