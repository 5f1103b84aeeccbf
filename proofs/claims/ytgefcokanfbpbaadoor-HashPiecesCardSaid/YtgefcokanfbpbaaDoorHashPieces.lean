/-
  HashPieces: it returns true, whatever the arguments; they read as before. Its condition: the package's variable holds the words that its own text lays.
-/
import Derived.Test.YtgefcokanfbpbaaDoorK06p
import Derived.Test.YtgefcokanfbpbaaDoorW06w
import Derived.Test.YtgefcokanfbpbaaDoorR02
namespace Go.Proofs.YtgefcokanfbpbaaDoor.hashPieces
open Go.Ex Go.ChangeShapes Go.WideShapes Go.ChangeAt Go.RowKit
set_option linter.unusedVariables false
set_option linter.unusedSimpArgs false
theorem walk (t : ByteArray) (v1 : Value) (W : World) (hL : laidMet Tryd.prog laidL W) (o1 : BytesAt W v1) :
    Calls Tryd.prog 6 #[.string t, v1] W (fun e w' => e = .returned (.bool true) ∧ Below W.heap.size W w') := by
  obtain ⟨v, hr⟩ := hr_laid hL W.heap.size
  have hg : ∀ wr l, globS.row = some (wr, l) → wr = false := fun wr l he => by simp only [globS, SO.row, Option.some.injEq, Prod.mk.injEq] at he; exact he.1.symm
  have fin : ∀ {e : Ending} {w' : World}, (∃ v, e = .returned v ∧ v = .bool true ∧ Below W.heap.size W w') → e = .returned (.bool true) ∧ Below W.heap.size W w' := fun {e w'} ⟨v, e1, e2, hb⟩ => ⟨by rw [e1, e2], hb⟩
  rcases o1 with rfl | ⟨b, o, len, cap, L, rfl, hl, hb, hlen, hc, hf⟩
  · obtain ⟨b0, p0, e1, e2, _, _⟩ := (hr.blk 0 _ rfl).1 _ _ rfl
    have hr' := HR.rowF hr hg (b := b0) (o := p0) 0 (L := []) e2 (fun j x hx => by simp at hx)
    exact (call6 false t 0 [] (fun h => by cases h) hr' (vs := [.string t, .slice none 0 0]) (Rs.cons (by simp only [R]) (Rs.cons (by simp only [slH, R]) Rs.nil))).mono fun e w' hq => fin hq
  · have hr' := HR.rowF hr hg cap hb hc
    have hrow : RowB L len := fun i hi => by
      obtain ⟨z, h1, h2, h3⟩ := hf i hi
      have e : cellAt L i = .int .u8 z := by
        unfold cellAt; rw [List.getD_eq_getElem?_getD, h1]; rfl
      refine ⟨⟨by show i + 1 ≤ L.length; omega, ?_, trivial⟩, ?_⟩
      · rw [e]; rfl
      · rw [e]; exact ⟨h2, h3⟩
    exact (call6 true t len L (fun _ => hrow) hr' (vs := [.string t, .slice (some ⟨b, o, none⟩) len cap]) (Rs.cons (by simp only [R]) (Rs.cons ⟨b, o, cap, rfl, rfl, hl, rfl⟩ Rs.nil))).mono fun e w' hq => fin hq

set_option maxRecDepth 100000 in
theorem lifted (os : Os) (started : os.Started) (H : Type) (enc : TypeId × Value → H) :
    ReturnsInHanded {} Tryd.checked os 6 .any (fun w args => (Rows.hashPiecesSpec.pre enc Tryd.prog Tryd.f6 [] false w args ∧ laidMetH Tryd.prog Rows.hashPiecesRow.laid w) ∧ sizedMet enc Tryd.prog Tryd.f6 (OpenSpec.ofChange Rows.hashPiecesSpec) false w args)
      (Rows.hashPiecesSpec.post enc Tryd.prog Tryd.f6 false true false false) := by
  refine returnsInHanded_of_change_and (C := Tryd.checked) (X := fun w _ => laidMetH Tryd.prog Rows.hashPiecesRow.laid w) (fun _ _ _ hh h => h.of_heap hh) own started (by kernel_rfl) Tryd.func6
    (ChangeSpec.witness_shaped (enc := enc) (C := Tryd.checked) (os := os) (X := fun w _ => laidMetH Tryd.prog Rows.hashPiecesRow.laid w) false (World.laidAll Tryd.prog os laidL) #[.string ByteArray.empty, .slice none 0 0] 8 (World.laidAll_os _ _ _)
      (World.shaped_of_ZipB (by kernel_rfl) (by kernel_rfl)) (by kernel_rfl) (by kernel_rfl) (by kernel_rfl)
      (by rw [MakeChecks.laidMetH_plain _ _ _ (by kernel_rfl)]; exact laidMet_laidAll _ (by kernel_rfl) (by kernel_rfl))) ?_
  intro W base args ds gs before hval0 hW _ hsz0 hL _
  rw [MakeChecks.laidMetH_plain _ _ _ (by kernel_rfl)] at hL
  have hval : ∀ (j : Nat) t v, Tryd.f6.params[j]? = some t → args[j]? = some v → Value.okWide Tryd.prog W .any base t v := hval0
  have hW' := hW
  obtain ⟨p, q, hA0, hV, rfl, hfz, hnd⟩ := hW
  have hA : DataW.TrodAll enc Tryd.prog W 0 (fun _ => true) true Tryd.f6.params.toList args.toList ds p := hA0
  have hK := hA
  rw [Tryd.params6] at hA hval
  obtain ⟨v0, vs0, d0, ds0, p0, q0, hargs, rfl, rfl, h0, r0⟩ := trodAll_cons hA
  obtain ⟨v1, vs1, d1, ds1, p1, q1, rfl, rfl, rfl, h1, r1⟩ := trodAll_cons r0
  obtain ⟨rfl, rfl, rfl⟩ := trodAll_nil r1
  obtain rfl : args = #[v0, v1] := by cases args; simp_all
  obtain ⟨rfl, rfl⟩ := trodVars_none hV
  obtain ⟨z0, rfl, b0⟩ := cell_string Tryd.underlying9 (val_cell (by kernel_rfl) (hval 0 9 v0 rfl rfl))
  have o1 := open_u8s (Tryd.underlying22) (Tryd.underlying5) (by kernel_rfl) h1 (hval 1 22 v1 rfl rfl)
  clear hA0 hval0
  refine (walk z0 v1 W hL o1).mono fun e W' ⟨he, bel⟩ => ?_
  subst he
  exact ⟨_, rfl, _, _, _, [], _, [], hW', trodAll_mk1 (shut_bool Tryd.underlying4 _), trodAll_below laidOut bel (by kernel_rfl) hK, rfl, bel.frame _, fun h => by cases h⟩
theorem over : Rows.hashPiecesRow.holds Tryd.pinned (OpenSpec.ofChange Rows.hashPiecesSpec) :=
  OpenClaim.holds_of_wide 6 Tryd.f6 rfl rfl rfl rfl rfl rfl rfl ⟨rfl, rfl, rfl, rfl, rfl⟩ rfl rfl rfl rfl rfl (by kernel_rfl) Tryd.func6 (by kernel_rfl)
    (of_decide_eq_true (by kernel_rfl)) (by unfold Func.isWrapper; first | (rw [if_pos (by decide +kernel)]; kernel_rfl) | (rw [if_neg (by decide +kernel)]; exact ⟨rfl, rfl⟩))
    (fun os started H enc _ => lifted os started H enc)
theorem proved : Rows.HashPiecesCardSaid :=
  Claim7.holds_tied_plain_at .later [] [.data] true (true, "e0fa5907c2e1b4edf385be27c5d160ccce484b095ed7f6520272a764994f0aa5") false over (fun _ h => by cases h) (by kernel_rfl) (fun _ h => by cases h) hashPieces_row_tie rfl ⟨rfl, rfl⟩ (by kernel_rfl) rfl
    (fun f fn hf hfn => by
      obtain rfl : f = 6 := Option.some.inj ((show Tryd.prog.funcNamed "plait/plaitlaw06.HashPieces" = some 6 by kernel_rfl).symm.trans hf) |>.symm
      obtain rfl : fn = Tryd.f6 := (Option.some.inj (Tryd.func6.symm.trans hfn)).symm
      exact ⟨by kernel_rfl, fun j t ht => by
        rw [Tryd.params6] at ht
        have hm : t ∈ [9, 22] := by simpa using Array.mem_of_getElem? ht
        have hall : ([9, 22].all fun u => !Tryd.prog.wantsStandIn u) = true := by kernel_rfl
        exact (show Tryd.prog.wantsStandIn t = false by simpa using List.all_eq_true.1 hall t hm)⟩)
    (by kernel_rfl)
#print axioms proved
end Go.Proofs.YtgefcokanfbpbaaDoor.hashPieces
