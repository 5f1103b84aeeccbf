/-
  KeyTells: it returns true, whatever the arguments; they read as before. Its condition: the package's variable holds the words that its own text lays.
-/
import Derived.Test.YtaeokmojogekaaaDoorK08A
import Derived.Test.YtaeokmojogekaaaDoorW07e
import Derived.Test.YtaeokmojogekaaaDoorW06w
namespace Go.Proofs.YtaeokmojogekaaaDoor.keyTells
open Go.Ex Go.ChangeShapes Go.WideShapes Go.ChangeAt Go.RowKit
set_option linter.unusedVariables false
set_option linter.unusedSimpArgs false
/-! ### KeyTells -/
def rd (n : Int) : Int := IntKind.u64.wrap (n.tdiv 256)
def rb (n : Int) : UInt8 := UInt8.ofNat (IntKind.u8.wrap (n.tmod 256)).toNat
def rb8 (n : Int) : List UInt8 := [rb (rd (rd (rd (rd (rd (rd (rd n))))))), rb (rd (rd (rd (rd (rd (rd n)))))), rb (rd (rd (rd (rd (rd n))))), rb (rd (rd (rd (rd n)))), rb (rd (rd (rd n))), rb (rd (rd n)), rb (rd n), rb n]
def rn (n b : Int) : Int := IntKind.u64.wrap (IntKind.u64.wrap (n * 256) + IntKind.u64.wrap b)
def tokR (w : List Int) : Int := IntKind.u32.wrap (rn (rn (rn (rn 0 (dB w 0)) (dB w 1)) (dB w 2)) (dB w 3))
def idsR (w : List Int) : Int := rn (rn (rn (rn (rn (rn (rn (rn 0 (dB w 24)) (dB w 25)) (dB w 26)) (dB w 27)) (dB w 28)) (dB w 29)) (dB w 30)) (dB w 31)
noncomputable def ktX (w : List Int) (t0 : ByteArray) : Cx := guardX [23, 21, 25, 12, 14] (rawP (worksG.or ((tokG w t0).or (rsW w t0))))
noncomputable def LKt (w : List Int) (t0 : ByteArray) (n : Int) : List Prop :=
  [((ba (bs8 n)).toList == (ba (rb8 n)).toList) = true, PT n t0 w 0 glL, PR (ba (rb8 n)) t0 w, (tokW w == tokR w) = true, PT n t0 w 0 glL, PR (ba (rb8 n)) t0 w, (idsW w == idsR w) = true, Pg 0 glL]
theorem kt_gives (w : List Int) (t0 : ByteArray) (n : Int) : givesV (topR (ktX w t0) (run (ktX w t0) 80) 3 [.val (.int .u64 n)] [.glob 0 glL] [true, true, true]) (.bol true) (LKt w t0 n) := by
  unfold givesV; kernel_rfl
theorem rb8_eq (n : Int) (h0 : 0 ≤ n) (h1 : n < 18446744073709551616) : rb8 n = bs8 n := by
  have d : ∀ m : Int, 0 ≤ m → m < 18446744073709551616 → rd m = shB m ∧ 0 ≤ shB m ∧ shB m < 18446744073709551616 := fun m h0 h1 => by
    rw [shB_eq m h0]
    refine ⟨?_, by omega, by omega⟩
    unfold rd
    rw [Int.tdiv_eq_ediv_of_nonneg h0, wu64]; omega
  have b : ∀ m : Int, 0 ≤ m → rb m = bb m := fun m h0 => by
    unfold rb bb
    rw [Int.tmod_eq_emod_of_nonneg h0, wu8, wu8]
    congr 2; omega
  obtain ⟨e1, p1, q1⟩ := d n h0 h1
  obtain ⟨e2, p2, q2⟩ := d _ p1 q1
  obtain ⟨e3, p3, q3⟩ := d _ p2 q2
  obtain ⟨e4, p4, q4⟩ := d _ p3 q3
  obtain ⟨e5, p5, q5⟩ := d _ p4 q4
  obtain ⟨e6, p6, q6⟩ := d _ p5 q5
  obtain ⟨e7, p7, q7⟩ := d _ p6 q6
  unfold rb8 bs8
  rw [e1, e2, e3, e4, e5, e6, e7, b _ h0, b _ p1, b _ p2, b _ p3, b _ p4, b _ p5, b _ p6, b _ p7]
theorem rn_eq (n b : Int) (h0 : 0 ≤ n) (h : n < 72057594037927936) (b0 : 0 ≤ b) (b1 : b < 256) : rn n b = nxB n (UInt8.ofNat b.toNat) := by
  have e : ((UInt8.ofNat b.toNat).toNat : Int) = b := by rw [UInt8.toNat_ofNat']; omega
  rw [nxB_eq n _ h0 h, e]
  unfold rn
  rw [wu64, wu64, wu64]; omega
theorem dB_rng (w : List Int) (i : Nat) : 0 ≤ dB w i ∧ dB w i < 256 := by unfold dB; rw [wu8]; omega
theorem rnN (n : Int) (w : List Int) (i : Nat) (B : Int) (h0 : 0 ≤ n) (hB : n < B) (hB2 : B ≤ 72057594037927936) : rn n (dB w i) = nxB n (byB w i) ∧ 0 ≤ nxB n (byB w i) ∧ nxB n (byB w i) < B * 256 := by
  have hd := dB_rng w i
  refine ⟨rn_eq n _ h0 (by omega) hd.1 hd.2, ?_, ?_⟩ <;> rw [nxB_eq n _ h0 (by omega)] <;> have := (byB w i).toNat_lt <;> omega
theorem tokR_eq (w : List Int) : tokR w = tokW w := by
  obtain ⟨e0, p0, q0⟩ := rnN 0 w 0 1 (by omega) (by omega) (by omega)
  obtain ⟨e1, p1, q1⟩ := rnN _ w 1 _ p0 q0 (by omega)
  obtain ⟨e2, p2, q2⟩ := rnN _ w 2 _ p1 q1 (by omega)
  obtain ⟨e3, p3, q3⟩ := rnN _ w 3 _ p2 q2 (by omega)
  unfold tokR tokW
  rw [e0, e1, e2, e3]
theorem idsR_eq (w : List Int) : idsR w = idsW w := by
  obtain ⟨e0, p0, q0⟩ := rnN 0 w 24 1 (by omega) (by omega) (by omega)
  obtain ⟨e1, p1, q1⟩ := rnN _ w 25 _ p0 q0 (by omega)
  obtain ⟨e2, p2, q2⟩ := rnN _ w 26 _ p1 q1 (by omega)
  obtain ⟨e3, p3, q3⟩ := rnN _ w 27 _ p2 q2 (by omega)
  obtain ⟨e4, p4, q4⟩ := rnN _ w 28 _ p3 q3 (by omega)
  obtain ⟨e5, p5, q5⟩ := rnN _ w 29 _ p4 q4 (by omega)
  obtain ⟨e6, p6, q6⟩ := rnN _ w 30 _ p5 q5 (by omega)
  obtain ⟨e7, p7, q7⟩ := rnN _ w 31 _ p6 q6 (by omega)
  unfold idsR idsW
  rw [e0, e1, e2, e3, e4, e5, e6, e7]
theorem walk (n : Int) (hn : IntKind.u64.has n) (W : World) (hL : laidMet Tryd.prog laidL W) :
    Calls Tryd.prog 3 #[.int .u64 n] W (fun e w' => e = .returned (.bool true) ∧ Below W.heap.size W w') := by
  obtain ⟨h0, h1⟩ := has_u64 hn
  have er := rb8_eq n h0 h1
  have pt : PT n (ba (bs8 n)) (shL.S (ba (bs8 n))) 0 glL := ⟨rfl, rfl, rfl, rfl⟩
  have pr : PR (ba (rb8 n)) (ba (bs8 n)) (shL.S (ba (bs8 n))) := ⟨by rw [er], by unfold ba; rw [baS, bs8_len]; omega, rfl⟩
  refine law_of (f := 3) (args := [.val (.int .u64 n)]) (vs := [.int .u64 n]) (Rs.cons (by simp only [R]) Rs.nil) hL fun hr hargs => ?_
  refine (callsV (X := ktX (shL.S (ba (bs8 n))) (ba (bs8 n))) rfl (guardX_ct (rawP_ct (Raw.or_ok worksG_ok (Raw.or_ok (tokG_ok _ _) (rsW_ok _ _))))) (guardX_lp (rawP_lp _)) 80 (kt_gives _ _ n) ⟨by rw [er]; exact beq_self_eq_true _, pt, pr, by rw [tokR_eq]; exact beq_self_eq_true _, pt, pr, by rw [idsR_eq]; exact beq_self_eq_true _, ⟨rfl, rfl⟩, trivial⟩ rfl hr hargs).mono fun e w' hq => ?_
  obtain ⟨v, rfl, hR, hb⟩ := hq
  simp only [R] at hR
  exact ⟨_, rfl, hR, hb⟩

set_option maxRecDepth 100000 in
theorem lifted (os : Os) (started : os.Started) (H : Type) (enc : TypeId × Value → H) :
    ReturnsInHanded {} Tryd.checked os 3 .any (fun w args => (Rows.keyTellsSpec.pre enc Tryd.prog Tryd.f3 [] false w args ∧ laidMetH Tryd.prog Rows.keyTellsRow.laid w) ∧ sizedMet enc Tryd.prog Tryd.f3 (OpenSpec.ofChange Rows.keyTellsSpec) false w args)
      (Rows.keyTellsSpec.post enc Tryd.prog Tryd.f3 false true false false) := by
  refine returnsInHanded_of_change_and (C := Tryd.checked) (X := fun w _ => laidMetH Tryd.prog Rows.keyTellsRow.laid w) (fun _ _ _ hh h => h.of_heap hh) own started (by kernel_rfl) Tryd.func3
    (ChangeSpec.witness_shaped (enc := enc) (C := Tryd.checked) (os := os) (X := fun w _ => laidMetH Tryd.prog Rows.keyTellsRow.laid w) false (World.laidAll Tryd.prog os laidL) #[.int .u64 0] 8 (World.laidAll_os _ _ _)
      (World.shaped_of_ZipB (by kernel_rfl) (by kernel_rfl)) (by kernel_rfl) (by kernel_rfl) (by kernel_rfl)
      (by rw [MakeChecks.laidMetH_plain _ _ _ (by kernel_rfl)]; exact laidMet_laidAll _ (by kernel_rfl) (by kernel_rfl))) ?_
  intro W base args ds gs before hval0 hW _ hsz0 hL _
  rw [MakeChecks.laidMetH_plain _ _ _ (by kernel_rfl)] at hL
  have hval : ∀ (j : Nat) t v, Tryd.f3.params[j]? = some t → args[j]? = some v → Value.okWide Tryd.prog W .any base t v := hval0
  have hW' := hW
  obtain ⟨p, q, hA0, hV, rfl, hfz, hnd⟩ := hW
  have hA : DataW.TrodAll enc Tryd.prog W 0 (fun _ => true) true Tryd.f3.params.toList args.toList ds p := hA0
  have hK := hA
  rw [Tryd.params3] at hA hval
  obtain ⟨v0, vs0, d0, ds0, p0, q0, hargs, rfl, rfl, h0, r0⟩ := trodAll_cons hA
  obtain ⟨rfl, rfl, rfl⟩ := trodAll_nil r0
  obtain rfl : args = #[v0] := by cases args; simp_all
  obtain ⟨rfl, rfl⟩ := trodVars_none hV
  obtain ⟨z0, rfl, b0⟩ := cell_int Tryd.underlying22 (val_cell (by kernel_rfl) (hval 0 22 v0 rfl rfl))
  clear hA0 hval0
  refine (walk z0 b0 W hL).mono fun e W' ⟨he, bel⟩ => ?_
  subst he
  exact ⟨_, rfl, _, _, _, [], _, [], hW', trodAll_mk1 (shut_bool Tryd.underlying4 _), trodAll_below laidOut bel (by kernel_rfl) hK, rfl, bel.frame _, fun h => by cases h⟩
theorem over : Rows.keyTellsRow.holds Tryd.pinned (OpenSpec.ofChange Rows.keyTellsSpec) :=
  OpenClaim.holds_of_wide 3 Tryd.f3 rfl rfl rfl rfl rfl rfl rfl ⟨rfl, rfl, rfl, rfl, rfl⟩ rfl rfl rfl rfl rfl (by kernel_rfl) Tryd.func3 (by kernel_rfl)
    (of_decide_eq_true (by kernel_rfl)) (by unfold Func.isWrapper; first | (rw [if_pos (by decide +kernel)]; kernel_rfl) | (rw [if_neg (by decide +kernel)]; exact ⟨rfl, rfl⟩))
    (fun os started H enc _ => lifted os started H enc)
theorem proved : Rows.KeyTellsCardSaid :=
  Claim7.holds_tied_plain_at .later [] [.data] true (true, "30f185f298864e8d828eafb7e3d869b00cbf2cc7c0e2e53b1ddd7212857a4ba5") false over (fun _ h => by cases h) (by kernel_rfl) (fun _ h => by cases h) keyTells_row_tie rfl ⟨rfl, rfl⟩ (by kernel_rfl) rfl
    (fun f fn hf hfn => by
      obtain rfl : f = 3 := Option.some.inj ((show Tryd.prog.funcNamed "plait/plaitlaw08.KeyTells" = some 3 by kernel_rfl).symm.trans hf) |>.symm
      obtain rfl : fn = Tryd.f3 := (Option.some.inj (Tryd.func3.symm.trans hfn)).symm
      exact ⟨by kernel_rfl, fun j t ht => by
        rw [Tryd.params3] at ht
        have hm : t ∈ [22] := by simpa using Array.mem_of_getElem? ht
        have hall : ([22].all fun u => !Tryd.prog.wantsStandIn u) = true := by kernel_rfl
        exact (show Tryd.prog.wantsStandIn t = false by simpa using List.all_eq_true.1 hall t hm)⟩)
    (by kernel_rfl)
#print axioms proved
end Go.Proofs.YtaeokmojogekaaaDoor.keyTells
