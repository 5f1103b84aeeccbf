/-
  Walks of functions, reckoned through, and what they give (part K23w). No condition beyond what each says. By an AI agent.
-/
import Derived.Test.YtacgamdbmllaoaaDoorK23h
import Derived.Test.YtacgamdbmllaoaaDoorW06sn
namespace Go.Proofs.YtacgamdbmllaoaaDoor
open Go.Ex
open Go.RowKit (Below)
set_option linter.unusedVariables false
set_option maxRecDepth 1000000
/-! ### told codes -/
theorem byB_told (l : List UInt8) (i : Nat) (hi : i < 32) : byB (shL.S ⟨l.toArray⟩) i = UInt8.ofNat (bN (shN l) i) := by
  have q := shN_ok l
  unfold byB
  rw [dB_N q.1 q.2 hi]; rfl
noncomputable def inL (k t : List UInt8) : List UInt8 := mixL 54 k ++ t.map idB
noncomputable def outLk (k : List UInt8) (d : List Nat) : List UInt8 := mixL 92 k ++ (d.map UInt8.ofNat).map idB
noncomputable def hmN (k t : List UInt8) (i : Nat) : Nat := bN (shN (outLk k (digN (inL k t)))) i
theorem dgL_told (l : List UInt8) : dgL (shL.S ⟨l.toArray⟩) = (digN l).map UInt8.ofNat := by
  have q := shN_ok l
  unfold dgL digN
  rw [List.map_map]
  refine List.map_congr_left fun i hi => ?_
  rw [dB_N q.1 q.2 (by simpa using hi)]; rfl
theorem hmR_told (k t : List UInt8) (i : Nat) (hi : i < 32) : byB (hmR shL.S k t) i = UInt8.ofNat (hmN k t i) := by
  unfold hmR hmO
  have e : hmI k t = ⟨(inL k t).toArray⟩ := rfl
  rw [e, dgL_told]
  exact byB_told (outLk k (digN (inL k t))) i hi
def k12 : List UInt8 := [0, 0, 0, 0, 0, 0, 0, 1, 0, 0, 0, 0, 0, 0, 0, 2]
def t54 : List UInt8 := [0, 0, 0, 5, 0, 0, 0, 4]
def t45 : List UInt8 := [0, 0, 0, 4, 0, 0, 0, 5]
theorem odd_N : (UInt8.ofNat (hmN k12 t54 0) == UInt8.ofNat (hmN k12 t45 0)) = false := by kernel_rfl
theorem lg_head (n m a b : Int) : (lgW n m a b)[0]? = some (byB (macW n m a b) 0) := rfl
def tl (l : List UInt8) : List UInt8 := (ByteArray.mk l.toArray).toList
def eqT (x y : List UInt8) : Bool := tl x == tl y
theorem eqT_self (x : List UInt8) : eqT x x = true := beq_self_eq_true _
theorem eqT_eq {x y : List UInt8} (h : eqT x y = true) : x = y := by
  unfold eqT tl at h
  have h := eq_of_beq h
  have h2 : ByteArray.mk x.toArray = ByteArray.mk y.toArray := by
    apply ByteArray.ext
    have h3 := congrArg List.toArray h
    rw [ByteArray.toList_eq, ByteArray.toList_eq] at h
    simpa using h
  have := congrArg (fun b : ByteArray => b.data.toList) h2
  simpa using this
theorem odd_ne : eqT (lgW 1 2 5 4) (lgW 1 2 4 5) = false := by
  cases h : eqT (lgW 1 2 5 4) (lgW 1 2 4 5) with
  | false => rfl
  | true =>
    have e := congrArg (fun l : List UInt8 => l[0]?) (eqT_eq h)
    simp only [lg_head, Option.some.injEq] at e
    have e1 : byB (macW 1 2 5 4) 0 = UInt8.ofNat (hmN k12 t54 0) := hmR_told k12 t54 0 (by omega)
    have e2 : byB (macW 1 2 4 5) 0 = UInt8.ofNat (hmN k12 t45 0) := hmR_told k12 t45 0 (by omega)
    rw [e1, e2] at e
    have := odd_N
    rw [e] at this
    simp at this
/-! ### works -/
def eqBA (x y : List UInt8) : Bool := (ByteArray.mk x.toArray) == (ByteArray.mk y.toArray)
theorem eqBA_self (x : List UInt8) : eqBA x x = true := by
  show (x.toArray == x.toArray) = true
  exact beq_self_eq_true _
noncomputable def wkR (T : Int → Int) (S L : TxF) : Raw := (enG T S L).or ((tokF T).or (cutF S L))
theorem wkR_ok (T : Int → Int) (S L : TxF) : (wkR T S L).Ok := Raw.or_ok (enG_ok T S L) (Raw.or_ok (tokF_ok _) (cutF_ok _ _))
noncomputable def wkX (g : Raw) : Cx := guardX [46, 50, 31, 26, 27, 17] (rawP g)
noncomputable def LWk (T : Int → Int) (S L : TxF) : List Prop :=
  [PSf S 0 glL, PTf T 0 glL, 0 = 0 ∧ glL = glL, ((3 : Int) == 3) = true, PTf T 0 glL, (IntKind.u32.wrap (T 2 + 1) == T 2) = false, (!(IntKind.u32.wrap (T 2 + 1) == T 2)) = true, ((3 : Int) == 3) = true, PTf T 0 glL, (T 2 == T 2) = true, PSf S 0 glL, ((3 : Int) == 3) = true, PSf S 0 glL, eqT (S 2 1 5 4) (S 2 1 5 4) = true,
   PLf L 0 glL, PLf L 0 glL, PLf L 0 glL, (!(eqT (L 1 2 5 4) (L 1 2 4 5))) = true, PLf L 0 glL, PTf T 0 glL, ((T 2 == T 2 && true) && true) = true, (T 2 == T 2) = true, PSf S 0 glL, ((eqBA (S 2 1 5 4) (S 2 1 5 4) && true) && true) = true, eqT (S 2 1 5 4) (S 2 1 5 4) = true,
   PLf L 0 glL, ((eqBA (L 1 2 4 5) (L 1 2 4 5) && true) && true) = true]
theorem works_gives (T : Int → Int) (S L : TxF) : givesV (topR (wkX (wkR T S L)) (run (wkX (wkR T S L)) 80) 9 [] [globS] [true, false, true, true, true, true, true, true, true, true, true, true, true]) (.val (.bool (eqT (L 1 2 4 5) (L 1 2 4 5)))) (LWk T S L) := by
  unfold givesV; kernel_rfl
theorem next_ne (x : Int) : (IntKind.u32.wrap (x + 1) == x) = false := by
  rw [wu32]
  simp
  omega
theorem call9w {B : Nat} {η : Env} {hp : List SO} {k : Nat} {w : World} {vs : List Value} (hr : HR B η hp w) (hk : hp[k]? = some globS) (hargs : Rs [] [] vs) :
    Calls Tryd.prog 9 vs.toArray w (fun e w' => ∃ v, e = .returned v ∧ R [] (.bol true) v ∧ Below w.heap.size w w') := by
  obtain ⟨v, hv⟩ := HR.glob hr hk (by decide)
  have hok : (wkR tkT shW lgW).Ok := wkR_ok _ _ _
  have ps : PSf shW 0 glL := ⟨rfl, rfl, rfl⟩
  have pl : PLf lgW 0 glL := ⟨rfl, rfl, rfl⟩
  have pt : PTf tkT 0 glL := ⟨rfl, rfl, rfl⟩
  refine (callsV (X := wkX _) rfl (guardX_ct (rawP_ct hok)) (guardX_lp (rawP_lp _)) 80 (works_gives tkT shW lgW) ⟨ps, pt, ⟨rfl, rfl⟩, rfl, pt, next_ne _, by rw [next_ne]; rfl, rfl, pt, beq_self_eq_true _, ps, rfl, ps, eqT_self _, pl, pl, pl, by rw [odd_ne]; rfl, pl, pt, by rw [beq_self_eq_true]; rfl, beq_self_eq_true _, ps, by rw [eqBA_self]; rfl, eqT_self _, pl, by rw [eqBA_self]; rfl, trivial⟩ rfl (hv _) (Rs.free _ _ rfl hargs)).mono fun e w' hq => ?_
  obtain ⟨v, rfl, hR, hb⟩ := hq
  rw [eqT_self] at hR
  exact ⟨v, rfl, by simp only [R] at hR ⊢; exact hR, hb⟩
def Pg (g : Nat) (gl : List SV) : Prop := g = 0 ∧ gl = glL
def worksG : Raw := fun f args hp =>
  if f = 9 then
    match args, hp with
    | [], .glob g gl :: _ => some (.bol true, .pr (Pg g gl))
    | _, _ => none
  else none
theorem worksG_ok : worksG.Ok := by
  intro f args hp s c h hc B η w vs hr hargs
  unfold worksG at h
  split at h
  · rename_i hf; subst hf
    split at h
    · rename_i g gl r
      simp only [Option.some.injEq, Prod.mk.injEq] at h
      obtain ⟨rfl, rfl⟩ := h
      obtain ⟨rfl, rfl⟩ := hc
      exact call9w hr (k := 0) rfl (by simp only [Rs] at hargs; subst hargs; exact Rs.nil)
    · simp at h
  · simp at h
noncomputable def enR (T : Int → Int) (S L : TxF) : Raw := worksG.or (wkR T S L)
theorem enR_ok : (enR tkT shW lgW).Ok := Raw.or_ok worksG_ok (wkR_ok _ _ _)
end Go.Proofs.YtacgamdbmllaoaaDoor
