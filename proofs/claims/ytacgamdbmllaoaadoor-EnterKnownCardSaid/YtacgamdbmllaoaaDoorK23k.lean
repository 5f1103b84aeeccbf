/-
  Walks of functions, reckoned through, and what they give (part K23k). No condition beyond what each says. By an AI agent.
-/
import Derived.Test.YtacgamdbmllaoaaDoorK23w
namespace Go.Proofs.YtacgamdbmllaoaaDoor
open Go.Ex
open Go.RowKit (Below)
set_option linter.unusedVariables false
set_option maxRecDepth 1000000
/-! ### what is refused, and what is said too early -/
def synO (i tok n : Int) : SV := optS (.num .i64 1) i0 (.val (.int .i64 i)) (.val (.int .u32 tok)) (.val (.int .u32 n)) s0
def thO (m : ByteArray) : SV := optS (.num .i64 1) (.num .i64 2) i0 (.num .u32 0) (.num .u32 0) (.val (.string m))
theorem r12 (T : Int → Int) (S L : TxF) (o p id n ot : Int) : givesV (topR (sX T S L) (run (sX T S L) 80) 12 [.ptr 2 0] (hE 0 81 o p id n ot false) []) opt0 [] := by unfold givesV; kernel_rfl
theorem r15 (T : Int → Int) (S L : TxF) (o p id n ot : Int) : givesV (topR (sX T S L) (run (sX T S L) 80) 15 [.ptr 2 0] (hE 1 82 o p id n ot false) []) opt0 [] := by unfold givesV; kernel_rfl
theorem r10 (T : Int → Int) (S L : TxF) (o p id n ot i tok n' : Int) : givesV (topR (sX T S L) (run (sX T S L) 80) 10 [.ptr 2 0, synO i tok n'] (hE 0 81 o p id n ot false) []) (.bol false) [] := by unfold givesV; kernel_rfl
theorem r14o (T : Int → Int) (S L : TxF) (o p id n ot : Int) : givesV (topR (sX T S L) (run (sX T S L) 80) 14 [.ptr 2 0, opt0] (hE 0 81 o p id n ot false) []) (.bol false) [] := by unfold givesV; kernel_rfl
theorem r14a (T : Int → Int) (S L : TxF) (o p id n ot : Int) : givesV (topR (sX T S L) (run (sX T S L) 80) 14 [.ptr 2 0, opt0] (hE 1 82 o p id n ot false) []) (.bol false) [] := by unfold givesV; kernel_rfl
theorem r14t (T : Int → Int) (S L : TxF) (o p id n ot : Int) (m : ByteArray) : givesV (topR (sX T S L) (run (sX T S L) 80) 14 [.ptr 2 0, thO m] (hE 1 82 o p id n ot false) []) (.bol false) [] := by unfold givesV; kernel_rfl
theorem r13 (T : Int → Int) (S L : TxF) (o p id n ot : Int) : givesV (topR (sX T S L) (run (sX T S L) 80) 13 [.ptr 2 0, opt0] (hE 1 82 o p id n ot false) []) (.bol false) [] := by unfold givesV; kernel_rfl
theorem key3 (T : Int → Int) (S L : TxF) {B : Nat} {η : Env} {r : List SO} {w : World} {vs : List Value} (hr : HR B η (.glob 0 glL :: r) w) {k b : Nat} {wr wb : Bool} {z : Int} {t : TypeId} {o p id n ot : SV} {o' p' id' n' ot' : Int} {hd : Bool}
    (hk : (SO.glob 0 glL :: r)[k]? = some (.cells wr (enK b z t))) (hb : (SO.glob 0 glL :: r)[b]? = some (.cells wb [o, p, id, n, ot, .bol hd]))
    (h1 : numV .u64 o = some o') (h2 : numV .u64 p = some p') (h3 : numV .i64 id = some id') (h4 : numV .u32 n = some n') (h5 : numV .u32 ot = some ot') {rest : List SV} (hargs : Rs η (.ptr k 0 :: rest) vs)
    {f : FuncId} {s' : SV} {Ls : List Prop} {ans : List Bool} (hrf : frees rest = true) (hsf : s'.free = true) (hA : AllP Ls)
    (hgv : givesV (topR (sX T S L) (run (sX T S L) 80) f (.ptr 2 0 :: rest) (hE z t o' p' id' n' ot' hd) ans) s' Ls) :
    Calls Tryd.prog f vs.toArray w (fun e w' => ∃ v, e = .returned v ∧ R [] s' v ∧ Below w.heap.size w w') := by
  obtain ⟨v0, vb, vk, e2, hth⟩ := HR.three hr (k0 := 0) rfl hb hk (by decide) (by simp only [frees, numV_free h1, numV_free h2, numV_free h3, numV_free h4, numV_free h5, SV.free, Bool.and_self])
  have h6 := hr_cells (k := 1) (wr := false) (hth w.heap.size) (l' := bsL o' p' id' n' ot' hd) rfl rfl (fun i a a' ha ha' v hv => by
    match i with
    | 0 => simp [bsL] at ha ha'; subst ha; subst ha'; exact numV_R h1 hv
    | 1 => simp [bsL] at ha ha'; subst ha; subst ha'; exact numV_R h2 hv
    | 2 => simp [bsL] at ha ha'; subst ha; subst ha'; exact numV_R h3 hv
    | 3 => simp [bsL] at ha ha'; subst ha; subst ha'; exact numV_R h4 hv
    | 4 => simp [bsL] at ha ha'; subst ha; subst ha'; exact numV_R h5 hv
    | 5 => simp [bsL] at ha ha'; subst ha; subst ha'; exact hv
    | i + 6 => simp at ha)
  have hct : CtOk (sX T S L) := enX_ct (Raw.or_ok (tokF_ok _) (cutF_ok _ _))
  refine callsV (X := sX T S L) rfl hct (enX_lp _) 80 hgv hA hsf (η := [v0, vb, vk]) h6 ?_
  obtain ⟨a, x, rfl, g1, g2⟩ := hargs.cons_inv
  obtain ⟨b', o', x1, x2⟩ := g1
  rw [e2] at x1
  simp only [Option.some.injEq] at x1
  subst x1
  exact Rs.cons ⟨b', o', rfl, x2⟩ (Rs.free _ _ hrf g2)
def zerO : List SV := [i0, i0, i0, bf, bf, .num .u64 0, .num .u64 0, i0, .num .u16 0, i0, bf, i0, .num .u32 0, .num .u32 0, s0, bf, bf, bf, .num .u64 0, bf, bf, .num .u64 0, .num .u32 0, i0, bf, .num .u16 0, bf, i0, s0, bf, i0, s0, s0, bf, .num .u64 0, .num .u64 0, i0, i0]
def isZ : SV → Bool
  | .agg l => sameL l zerO
  | _ => false
theorem isZ_eq {x : SV} (h : isZ x = true) : x = opt0 := by
  unfold isZ at h
  split at h
  · rw [sameL_eq h]; rfl
  · simp at h
def preS : List SV := [.num .i64 1, i0, i0, bf, bf, .num .u64 0, .num .u64 0, i0, .num .u16 0, i0, bf]
def postS : List SV := [s0, bf, bf, bf, .num .u64 0, bf, bf, .num .u64 0, .num .u32 0, i0, bf, .num .u16 0, bf, i0, s0, bf, i0, s0, s0, bf, .num .u64 0, .num .u64 0, i0, i0]
def synOf : SV → Option (Int × Int × Int)
  | .agg l => match l.drop 11 with
    | .val (.int .i64 i) :: .val (.int .u32 t) :: .val (.int .u32 n) :: r => if sameL (l.take 11) preS && sameL r postS then some (i, t, n) else none
    | _ => none
  | _ => none
theorem synOf_eq {x : SV} {i t n : Int} (h : synOf x = some (i, t, n)) : x = synO i t n := by
  unfold synOf at h
  split at h
  · rename_i l
    split at h
    · rename_i i' t' n' r hd
      split at h
      · rename_i hs
        simp only [Bool.and_eq_true] at hs
        simp only [Option.some.injEq, Prod.mk.injEq] at h
        obtain ⟨rfl, rfl, rfl⟩ := h
        have e1 := sameL_eq hs.1
        have e2 := sameL_eq hs.2
        rw [← List.take_append_drop 11 l, e1, hd, e2]; rfl
      · simp at h
    · simp at h
  · simp at h
noncomputable def noV (f : FuncId) (z : Int) (t : TypeId) (rest : List SV) : Option SV :=
  match rest with
  | [] => if (f = 12 ∧ z = 0 ∧ t = 81) ∨ (f = 15 ∧ z = 1 ∧ t = 82) then some opt0 else none
  | [x] =>
    if f = 10 ∧ z = 0 ∧ t = 81 then (if (synOf x).isSome then some (.bol false) else none)
    else if f = 14 ∧ z = 0 ∧ t = 81 then (if isZ x then some (.bol false) else none)
    else if f = 14 ∧ z = 1 ∧ t = 82 then (if isZ x || (macOf x).isSome then some (.bol false) else none)
    else if f = 13 ∧ z = 1 ∧ t = 82 then (if isZ x then some (.bol false) else none)
    else none
  | _ => none
noncomputable def noG2 (T : Int → Int) (S L : TxF) : Raw := fun f args hp =>
  match args, hp with
  | .ptr k 0 :: rest, .glob g gl :: _ =>
    match hp[k]? with
    | some (.cells _ [.ptr b 0, .num .i64 z, .ifc t (.agg [.ptr b' 0])]) =>
      if b' = b then
        match hp[b]? with
        | some (.cells _ [o, p, id, n, ot, .bol false]) =>
          match numV .u64 o, numV .u64 p, numV .i64 id, numV .u32 n, numV .u32 ot with
          | some o, some p, some id, some n, some ot =>
            match noV f z t rest with
            | some s => some (s, .pr (Pg g gl))
            | none => none
          | _, _, _, _, _ => none
        | _ => none
      else none
    | _ => none
  | _, _ => none
theorem noG2_ok (T : Int → Int) (S L : TxF) : (noG2 T S L).Ok := by
  intro f args hp s c h hc B η w vs hr hargs
  unfold noG2 at h
  split at h
  · rename_i k rest g gl r
    split at h
    · rename_i wr b z t b' hk
      split at h
      · rename_i hbb; subst hbb
        split at h
        · rename_i wb o p id n ot hb
          split at h
          · rename_i o' p' id' n' ot' h1 h2 h3 h4 h5
            split at h
            · rename_i s1 hv
              simp only [Option.some.injEq, Prod.mk.injEq] at h
              obtain ⟨rfl, rfl⟩ := h
              obtain ⟨rfl, rfl⟩ := hc
              unfold noV at hv
              split at hv
              · split at hv
                · rename_i hcase
                  simp only [Option.some.injEq] at hv; subst hv
                  rcases hcase with ⟨rfl, rfl, rfl⟩ | ⟨rfl, rfl, rfl⟩
                  · exact key3 (Ls := []) T S L hr hk hb h1 h2 h3 h4 h5 hargs rfl rfl trivial (r12 T S L o' p' id' n' ot')
                  · exact key3 (Ls := []) T S L hr hk hb h1 h2 h3 h4 h5 hargs rfl rfl trivial (r15 T S L o' p' id' n' ot')
                · simp at hv
              · rename_i x
                split at hv
                · rename_i hcase
                  obtain ⟨rfl, rfl, rfl⟩ := hcase
                  split at hv
                  · rename_i hx
                    simp only [Option.some.injEq] at hv; subst hv
                    obtain ⟨⟨i, tk, nn⟩, hx⟩ := Option.isSome_iff_exists.1 hx
                    have := synOf_eq hx
                    subst this
                    exact key3 (Ls := []) T S L hr hk hb h1 h2 h3 h4 h5 hargs rfl rfl trivial (r10 T S L o' p' id' n' ot' i tk nn)
                  · simp at hv
                · split at hv
                  · rename_i hcase
                    obtain ⟨rfl, rfl, rfl⟩ := hcase
                    split at hv
                    · rename_i hx
                      simp only [Option.some.injEq] at hv; subst hv
                      have := isZ_eq hx
                      subst this
                      exact key3 (Ls := []) T S L hr hk hb h1 h2 h3 h4 h5 hargs rfl rfl trivial (r14o T S L o' p' id' n' ot')
                    · simp at hv
                  · split at hv
                    · rename_i hcase
                      obtain ⟨rfl, rfl, rfl⟩ := hcase
                      split at hv
                      · rename_i hx
                        simp only [Option.some.injEq] at hv; subst hv
                        simp only [Bool.or_eq_true] at hx
                        rcases hx with hx | hx
                        · have := isZ_eq hx
                          subst this
                          exact key3 (Ls := []) T S L hr hk hb h1 h2 h3 h4 h5 hargs rfl rfl trivial (r14a T S L o' p' id' n' ot')
                        · obtain ⟨m, hx⟩ := Option.isSome_iff_exists.1 hx
                          have := macOf_eq hx
                          subst this
                          exact key3 (Ls := []) T S L hr hk hb h1 h2 h3 h4 h5 hargs rfl rfl trivial (r14t T S L o' p' id' n' ot' m)
                      · simp at hv
                    · split at hv
                      · rename_i hcase
                        obtain ⟨rfl, rfl, rfl⟩ := hcase
                        split at hv
                        · rename_i hx
                          simp only [Option.some.injEq] at hv; subst hv
                          have := isZ_eq hx
                          subst this
                          exact key3 (Ls := []) T S L hr hk hb h1 h2 h3 h4 h5 hargs rfl rfl trivial (r13 T S L o' p' id' n' ot')
                        · simp at hv
                      · simp at hv
              · simp at hv
            · simp at h
          · simp at h
        · simp at h
      · simp at h
    · simp at h
  · simp at h
end Go.Proofs.YtacgamdbmllaoaaDoor
