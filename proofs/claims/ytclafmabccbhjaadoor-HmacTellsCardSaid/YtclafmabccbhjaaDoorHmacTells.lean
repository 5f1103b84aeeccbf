/-
  HmacTells: it returns true, whatever the arguments; they read as before. Its condition: the package's variable holds the words that its own text lays.
-/
import Derived.Test.YtclafmabccbhjaaDoorK07m
import Derived.Test.YtclafmabccbhjaaDoorK07p
import Derived.Test.YtclafmabccbhjaaDoorW06w
namespace Go.Proofs.YtclafmabccbhjaaDoor.hmacTells
open Go.Ex Go.ChangeShapes Go.WideShapes Go.ChangeAt Go.RowKit
set_option linter.unusedVariables false
set_option linter.unusedSimpArgs false
/-! ### HmacTells -/
noncomputable def XT (O : OfF) (M : MxF) (S : ByteArray → List Int) : Cx := mX (worksG.or ((ofN O).or ((mixN M).or (rsB S))))
noncomputable def LTh (O : OfF) (M : MxF) (S : ByteArray → List Int) (k t : ByteArray) : List Prop :=
  [cutP 200 k, cutP 200 t, POf O (cutK 200 k) (cutK 200 t) 0 glL, PMx M (cutK 200 k), (M 54 (cutK 200 k)).size + (cutK 200 t).size ≤ 9223372036854775807, S = shL.S ∧ (M 54 (cutK 200 k) ++ cutK 200 t).size ≤ 631, PMx M (cutK 200 k),
   (M 92 (cutK 200 k)).size + (ba (dgB (S (M 54 (cutK 200 k) ++ cutK 200 t)))).size ≤ 9223372036854775807, S = shL.S ∧ (M 92 (cutK 200 k) ++ ba (dgB (S (M 54 (cutK 200 k) ++ cutK 200 t)))).size ≤ 631,
   eqDg (O (cutK 200 k) (cutK 200 t)) (S (M 92 (cutK 200 k) ++ ba (dgB (S (M 54 (cutK 200 k) ++ cutK 200 t))))) = true, Pg 0 glL]
theorem tells_gives (O : OfF) (M : MxF) (S : ByteArray → List Int) (k t : ByteArray) : givesV (topR (XT O M S) (run (XT O M S) 80) 3 [.val (.string k), .val (.string t)] [.glob 0 glL] [true]) (.bol true) (LTh O M S k t) := by
  unfold givesV; kernel_rfl
theorem baB (x y : List UInt8) : ba x ++ ba y = ba (x ++ y) := ByteArray.mk_append_mk ..
theorem ref_eq (k t : ByteArray) : ofW k t = shL.S (mxW 92 k ++ ba (dgB (shL.S (mxW 54 k ++ t)))) := by
  unfold ofW hmU hmO hmJ
  rw [map_idB, ← baB]; rfl
theorem mxW_size (y : Int) (k : ByteArray) : (mxW y k).size = 64 := by
  show (mxT y (keyN k)).toArray.size = 64
  unfold mxT; simp
theorem walk (k t : ByteArray) (W : World) (hL : laidMet Tryd.prog laidL W) :
    Calls Tryd.prog 3 #[.string k, .string t] W (fun e w' => e = .returned (.bool true) ∧ Below W.heap.size W w') := by
  have sk := (cutK_size 200 (by omega) k).1
  have st := (cutK_size 200 (by omega) t).1
  have d32 : ∀ w, (ba (dgB w)).size = 32 := fun w => by rw [baL_size]; unfold dgB; simp
  have pm : PMx mxW (cutK 200 k) := ⟨rfl, by omega⟩
  refine law_of (f := 3) (args := [.val (.string k), .val (.string t)]) (vs := [.string k, .string t]) (Rs.cons (by simp only [R]) (Rs.cons (by simp only [R]) Rs.nil)) hL fun hr hargs => ?_
  refine (callsV (X := XT ofW mxW shL.S) rfl (mX_ct (Raw.or_ok worksG_ok (Raw.or_ok (ofN_ok _) (Raw.or_ok (mixN_ok _) (rsB_ok _))))) (mX_lp _) 80 (tells_gives ofW mxW shL.S k t)
    ⟨cutP_ok 200 (by omega) k, cutP_ok 200 (by omega) t, ⟨rfl, by omega, by omega, rfl, rfl⟩, pm, by rw [mxW_size]; omega, ⟨rfl, by rw [ByteArray.size_append, mxW_size]; omega⟩, pm, by rw [mxW_size, d32]; omega, ⟨rfl, by rw [ByteArray.size_append, mxW_size, d32]; omega⟩, by rw [ref_eq]; exact eqDg_self _, ⟨rfl, rfl⟩, trivial⟩ rfl hr hargs).mono fun e w' hq => ?_
  obtain ⟨v, rfl, hR, hb⟩ := hq
  simp only [R] at hR
  exact ⟨_, rfl, hR, hb⟩

set_option maxRecDepth 100000 in
theorem lifted (os : Os) (started : os.Started) (H : Type) (enc : TypeId × Value → H) :
    ReturnsInHanded {} Tryd.checked os 3 .any (fun w args => (Rows.hmacTellsSpec.pre enc Tryd.prog Tryd.f3 [] false w args ∧ laidMetH Tryd.prog Rows.hmacTellsRow.laid w) ∧ sizedMet enc Tryd.prog Tryd.f3 (OpenSpec.ofChange Rows.hmacTellsSpec) false w args)
      (Rows.hmacTellsSpec.post enc Tryd.prog Tryd.f3 false true false false) := by
  refine returnsInHanded_of_change_and (C := Tryd.checked) (X := fun w _ => laidMetH Tryd.prog Rows.hmacTellsRow.laid w) (fun _ _ _ hh h => h.of_heap hh) own started (by kernel_rfl) Tryd.func3
    (ChangeSpec.witness_shaped (enc := enc) (C := Tryd.checked) (os := os) (X := fun w _ => laidMetH Tryd.prog Rows.hmacTellsRow.laid w) false (World.laidAll Tryd.prog os laidL) #[.string ByteArray.empty, .string ByteArray.empty] 8 (World.laidAll_os _ _ _)
      (World.shaped_of_ZipB (by kernel_rfl) (by kernel_rfl)) (by kernel_rfl) (by kernel_rfl) (by kernel_rfl)
      (by rw [MakeChecks.laidMetH_plain _ _ _ (by kernel_rfl)]; exact laidMet_laidAll _ (by kernel_rfl) (by kernel_rfl))) ?_
  intro W base args ds gs before hval0 hW _ hsz0 hL _
  rw [MakeChecks.laidMetH_plain _ _ _ (by kernel_rfl)] at hL
  have hval : ∀ (j : Nat) t v, Tryd.f3.params[j]? = some t → args[j]? = some v → Value.okWide Tryd.prog W .any base t v := hval0
  have hW' := hW
  obtain ⟨p, q, hA0, hV, rfl, hfz, hnd⟩ := hW
  have hA : DataW.TrodAll enc Tryd.prog W 0 (fun _ => true) true Tryd.f3.params.toList args.toList ds p := hA0
  have hK := hA
  rw [Tryd.params3] at hA hval
  obtain ⟨v0, vs0, d0, ds0, p0, q0, hargs, rfl, rfl, h0, r0⟩ := trodAll_cons hA
  obtain ⟨v1, vs1, d1, ds1, p1, q1, rfl, rfl, rfl, h1, r1⟩ := trodAll_cons r0
  obtain ⟨rfl, rfl, rfl⟩ := trodAll_nil r1
  obtain rfl : args = #[v0, v1] := by cases args; simp_all
  obtain ⟨rfl, rfl⟩ := trodVars_none hV
  obtain ⟨z0, rfl, b0⟩ := cell_string Tryd.underlying9 (val_cell (by kernel_rfl) (hval 0 9 v0 rfl rfl))
  obtain ⟨z1, rfl, b1⟩ := cell_string Tryd.underlying9 (val_cell (by kernel_rfl) (hval 1 9 v1 rfl rfl))
  clear hA0 hval0
  refine (walk z0 z1  W hL).mono fun e W' ⟨he, bel⟩ => ?_
  subst he
  exact ⟨_, rfl, _, _, _, [], _, [], hW', trodAll_mk1 (shut_bool Tryd.underlying4 _), trodAll_below laidOut bel (by kernel_rfl) hK, rfl, bel.frame _, fun h => by cases h⟩
theorem over : Rows.hmacTellsRow.holds Tryd.pinned (OpenSpec.ofChange Rows.hmacTellsSpec) :=
  OpenClaim.holds_of_wide 3 Tryd.f3 rfl rfl rfl rfl rfl rfl rfl ⟨rfl, rfl, rfl, rfl, rfl⟩ rfl rfl rfl rfl rfl (by kernel_rfl) Tryd.func3 (by kernel_rfl)
    (of_decide_eq_true (by kernel_rfl)) (by unfold Func.isWrapper; first | (rw [if_pos (by decide +kernel)]; kernel_rfl) | (rw [if_neg (by decide +kernel)]; exact ⟨rfl, rfl⟩))
    (fun os started H enc _ => lifted os started H enc)
theorem proved : Rows.HmacTellsCardSaid :=
  Claim7.holds_tied_plain_at .later [] [.data] true (true, "b40959cacbda0c8b30d30cd09f0c538b42c9e227317d7be0061df96220e0a52f") false over (fun _ h => by cases h) (by kernel_rfl) (fun _ h => by cases h) hmacTells_row_tie rfl ⟨rfl, rfl⟩ (by kernel_rfl) rfl
    (fun f fn hf hfn => by
      obtain rfl : f = 3 := Option.some.inj ((show Tryd.prog.funcNamed "plait/plaitlaw07.HmacTells" = some 3 by kernel_rfl).symm.trans hf) |>.symm
      obtain rfl : fn = Tryd.f3 := (Option.some.inj (Tryd.func3.symm.trans hfn)).symm
      exact ⟨by kernel_rfl, fun j t ht => by
        rw [Tryd.params3] at ht
        have hm : t ∈ [9, 9] := by simpa using Array.mem_of_getElem? ht
        have hall : ([9, 9].all fun u => !Tryd.prog.wantsStandIn u) = true := by kernel_rfl
        exact (show Tryd.prog.wantsStandIn t = false by simpa using List.all_eq_true.1 hall t hm)⟩)
    (by kernel_rfl)
#print axioms proved
end Go.Proofs.YtclafmabccbhjaaDoor.hmacTells
