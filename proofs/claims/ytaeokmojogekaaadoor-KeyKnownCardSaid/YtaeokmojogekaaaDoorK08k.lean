/-
  Walks of functions, reckoned through, and what they give (part K08k). No condition beyond what each says. By an AI agent.
-/
import Derived.Test.YtaeokmojogekaaaDoorK08w
import Derived.Test.YtaeokmojogekaaaDoorK08h3
namespace Go.Proofs.YtaeokmojogekaaaDoor
open Go.Ex
open Go.RowKit (Below)
set_option linter.unusedVariables false
set_option maxRecDepth 1000000
/-! ### KeyKnown -/
def okL (k t : Nat) : Bool := (k == 16 && (t == 8 || t == 7 || t == 3)) || (k == 0 && t == 8)
theorem hm_callK (k t : List UInt8) (h : okL k.length t.length = true) {B : Nat} {η : Env} {hp : List SO} {j : Nat} {w : World} {vs : List Value} (hr : HR B η hp w) (hj : hp[j]? = some globS) (hargs : Rs [] [.bts false k, .bts false t] vs) :
    Calls Tryd.prog 21 vs.toArray w (fun e w' => ∃ v, e = .returned v ∧ R [] (dgS (hmR shL.S k t)) v ∧ Below w.heap.size w w') := by
  obtain ⟨v, hv⟩ := HR.glob hr hj (by decide)
  have hl : k.length ≤ 16 ∧ t.length ≤ 8 := by
    unfold okL at h
    simp only [Bool.or_eq_true, Bool.and_eq_true, beq_iff_eq] at h
    omega
  have hp : hmP shL k t := by
    unfold okL at h
    simp only [Bool.or_eq_true, Bool.and_eq_true, beq_iff_eq] at h
    rcases h with ⟨h1, (h2 | h2) | h2⟩ | ⟨h1, h2⟩
    · exact hml_16_8 shL k t h1 h2
    · exact hml_16_7 shL k t h1 h2
    · exact hml_16_3 shL k t h1 h2
    · exact hml_0_8 shL k t h1 h2
  have p1 : P9 (hmI k t) 0 glL := ⟨by unfold hmI; rw [baS, List.length_append, mixL_len _ _ (by omega), List.length_map]; omega, rfl, rfl⟩
  have p2 : P9 (hmO k (shL.S (hmI k t))) 0 glL := ⟨by unfold hmO; rw [baS, List.length_append, mixL_len _ _ (by omega), List.length_map]; unfold dgL; rw [List.length_map, List.length_range]; omega, rfl, rfl⟩
  exact callsV (X := rawX shL (sumG shL)) rfl (rawX_ct shL_F sumG_ok) (rawX_lp _ _) 80 hp ⟨p1, p2, trivial⟩ (dgS_free _) (hv _) (Rs.free _ _ rfl hargs)
/-- Told codes, by a table: keys, texts, and what is named. -/
def PK (k t : List UInt8) (v : List Int) (g : Nat) (gl : List SV) : Prop := okL k.length t.length = true ∧ hmR shL.S k t = v ∧ g = 0 ∧ gl = glL
noncomputable def hmK (T : List (List UInt8 × List UInt8 × List Int)) : Raw := fun f args hp =>
  if f = 21 then
    match args, hp with
    | [.bts _ k, .bts _ t], .glob g gl :: _ =>
      match T.find? (fun e => e.1 == k && e.2.1 == t) with
      | some e => some (dgS e.2.2, .pr (PK e.1 e.2.1 e.2.2 g gl))
      | none => none
    | _, _ => none
  else none
theorem hmK_ok (T : List (List UInt8 × List UInt8 × List Int)) : (hmK T).Ok := by
  intro f args hp s c h hc B η w vs hr hargs
  unfold hmK at h
  split at h
  · rename_i hf; subst hf
    split at h
    · rename_i b1 k b2 t g gl r
      split at h
      · rename_i e he
        simp only [Option.some.injEq, Prod.mk.injEq] at h
        obtain ⟨rfl, rfl⟩ := h
        obtain ⟨h1, h2, rfl, rfl⟩ := hc
        have hm := List.find?_some he
        simp only [Bool.and_eq_true, beq_iff_eq] at hm
        obtain ⟨rfl, rfl⟩ := hm
        rw [← h2]
        refine hm_callK _ _ h1 hr (j := 0) rfl ?_
        obtain ⟨a, x, rfl, g1, g2⟩ := hargs.cons_inv
        obtain ⟨a2, x2, rfl, g3, g4⟩ := g2.cons_inv
        simp only [Rs] at g4; subst g4
        exact Rs.cons (by simpa only [R] using g1) (Rs.cons (by simpa only [R] using g3) Rs.nil)
      · simp at h
    · simp at h
  · simp at h
def z8 : List UInt8 := [0, 0, 0, 0, 0, 0, 0, 0]
def f8 : List UInt8 := [255, 255, 255, 255, 255, 255, 255, 255]
/-- Mac, by its first key. -/
noncomputable def macK (h : Int → List Int × ByteArray × ByteArray) : Raw := fun f args hp =>
  match args with
  | [x, y, z, t] => match x.val? with
    | some (.int .u64 n) => macG (h n).1 (h n).2.1 (h n).2.2 f [x, y, z, t] hp
    | _ => none
  | _ => none
theorem macK_ok (h : Int → List Int × ByteArray × ByteArray) : (macK h).Ok := by
  intro f args hp s c hh hc B η w vs hr hargs
  unfold macK at hh
  split at hh
  · split at hh
    · exact macG_ok _ _ _ f _ hp s c hh hc B η w vs hr hargs
    · simp at hh
  · simp at hh
noncomputable def knR (w vz ve va vf : List Int) : Raw :=
  worksG.or ((macK fun n => if n = 0 then (vz, ba (z8 ++ z8), ba z8) else (vf, ba (f8 ++ f8), ba [255, 255, 255, 255, 0, 0, 0, 0])).or <| (tokG w (ba z8)).or ((sumW w (ba z8)).or ((hmK [(z8 ++ z8, z8, vz), ([], z8, ve), (f8 ++ z8, [255, 0, 0], va), (f8 ++ f8, [255, 255, 255, 255, 0, 0, 0, 0], vf)]).or joinR)))
noncomputable def LKn (w vz ve va vf : List Int) : List Prop :=
  [PS (ba z8) (ba z8) w 0 glL, PM 0 0 0 0 (ba (z8 ++ z8)) (ba z8) vz 0 glL, Pg 0 glL, PT 0 (ba z8) w 0 glL, (tokW w == tokW w) = true, PK (z8 ++ z8) z8 vz 0 glL, eqDg vz vz = true, PK [] z8 ve 0 glL, eqDg vz ve = true, PK (f8 ++ z8) [255, 0, 0] va 0 glL, PK (f8 ++ z8) [255, 0, 0] va 0 glL, ((end8 va).toList == (end8 va).toList) = true,
   PM 18446744073709551615 18446744073709551615 4294967295 0 (ba (f8 ++ f8)) (ba [255, 255, 255, 255, 0, 0, 0, 0]) vf 0 glL, PK (f8 ++ f8) [255, 255, 255, 255, 0, 0, 0, 0] vf 0 glL]
noncomputable def knV (vf : List Int) : SV := .val (.bool ((byL vf 0 8).toList == (byL vf 0 8).toList))
theorem known_gives (w vz ve va vf : List Int) : givesV (topR (hmX (knR w vz ve va vf)) (run (hmX (knR w vz ve va vf)) 80) 6 [] [globS] [true, true, true, true]) (knV vf) (LKn w vz ve va vf) := by
  unfold givesV; kernel_rfl
theorem mix_z (k : Int) (h : mixB k 0 = UInt8.ofNat (Int.toNat k)) : mixL k (z8 ++ z8) = mixL k [] := by
  unfold mixL
  have e : (z8 ++ z8).map (mixB k) = List.replicate 16 (UInt8.ofNat (Int.toNat k)) := by
    show [mixB k 0, mixB k 0, mixB k 0, mixB k 0, mixB k 0, mixB k 0, mixB k 0, mixB k 0, mixB k 0, mixB k 0, mixB k 0, mixB k 0, mixB k 0, mixB k 0, mixB k 0, mixB k 0] = _
    rw [h]; rfl
  rw [e]; rfl
theorem hm_zero (S : ByteArray → List Int) (t : List UInt8) : hmR S (z8 ++ z8) t = hmR S [] t := by
  unfold hmR hmO hmI
  rw [mix_z 54 (by decide), mix_z 92 (by decide)]
theorem known_call {η : Env} {W : World} {vs : List Value} (hr : HR W.heap.size η [globS] W) (hargs : Rs η [] vs) :
    Calls Tryd.prog 6 vs.toArray W (fun e w' => ∃ v, e = .returned v ∧ v = .bool true ∧ Below W.heap.size W w') := by
  have hok : (knR (shL.S (ba z8)) (hmR shL.S (z8 ++ z8) z8) (hmR shL.S [] z8) (hmR shL.S (f8 ++ z8) [255, 0, 0]) (hmR shL.S (f8 ++ f8) [255, 255, 255, 255, 0, 0, 0, 0])).Ok :=
    Raw.or_ok worksG_ok (Raw.or_ok (macK_ok _) (Raw.or_ok (tokG_ok _ _) (Raw.or_ok (sumW_ok _ _) (Raw.or_ok (hmK_ok _) joinR_ok))))
  have ps : PS (ba z8) (ba z8) (shL.S (ba z8)) 0 glL := ⟨rfl, by decide, rfl, rfl, rfl⟩
  have pt : PT 0 (ba z8) (shL.S (ba z8)) 0 glL := ⟨by decide, rfl, rfl, rfl⟩
  have pm0 : PM 0 0 0 0 (ba (z8 ++ z8)) (ba z8) (hmR shL.S (z8 ++ z8) z8) 0 glL := ⟨by decide, by decide, rfl, rfl, rfl⟩
  have pm1 : PM 18446744073709551615 18446744073709551615 4294967295 0 (ba (f8 ++ f8)) (ba [255, 255, 255, 255, 0, 0, 0, 0]) (hmR shL.S (f8 ++ f8) [255, 255, 255, 255, 0, 0, 0, 0]) 0 glL := ⟨by decide, by decide, rfl, rfl, rfl⟩
  have pk : ∀ k t : List UInt8, okL k.length t.length = true → PK k t (hmR shL.S k t) 0 glL := fun k t h => ⟨h, rfl, rfl, rfl⟩
  refine (callsV (X := hmX _) rfl (hmX_ct hok) (hmX_lp _) 80 (known_gives _ _ _ _ _) ⟨ps, pm0, ⟨rfl, rfl⟩, pt, beq_self_eq_true _, pk _ _ rfl, eqDg_self _, pk _ _ rfl, ?_, pk _ _ rfl, pk _ _ rfl, beq_self_eq_true _, pm1, pk _ _ rfl, trivial⟩ rfl hr hargs).mono fun e w' hq => ?_
  · rw [hm_zero]; exact eqDg_self _
  · obtain ⟨v, rfl, hR, hb⟩ := hq
    unfold knV at hR
    simp only [R, beq_self_eq_true] at hR
    exact ⟨_, rfl, hR, hb⟩
end Go.Proofs.YtaeokmojogekaaaDoor
