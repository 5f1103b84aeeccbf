/-
  Walks of functions, reckoned through, and what they give (part K23h). No condition beyond what each says. By an AI agent.
-/
import Derived.Test.YtacgamdbmllaoaaDoorK23t
namespace Go.Proofs.YtacgamdbmllaoaaDoor
open Go.Ex
open Go.RowKit (Below)
set_option linter.unusedVariables false
set_option maxRecDepth 1000000
/-! ### what a handshake says: contracts that read its two blocks, wherever they lie -/
theorem frz {B B' : Nat} {η : Env} {w : World} {k : Nat} {wr : Bool} {l : List SV} (hb : BR B η w k (.cells wr l)) : BR B' η w k (.cells false l) :=
  ⟨fun wr' l' hro => by
    obtain ⟨b, p, q1, q2, q3, q4⟩ := hb.1 wr l rfl
    simp only [SO.row, Option.some.injEq, Prod.mk.injEq] at hro
    obtain ⟨rfl, rfl⟩ := hro
    exact ⟨b, p, q1, q2, (fun e => by cases e), fun i s hi => ⟨(q4 i s hi).1, fun e => by cases e⟩⟩, trivial⟩
def enK (b : Nat) (z : Int) (t : TypeId) : List SV := [.ptr b 0, .num .i64 z, .ifc t (.agg [.ptr b 0])]
theorem HR.three {B : Nat} {η : Env} {hp : List SO} {w : World} (h : HR B η hp w) {k0 kb k g : Nat} {wb wr : Bool} {gl lb : List SV} {z : Int} {t : TypeId} (h0 : hp[k0]? = some (.glob g gl)) (hb : hp[kb]? = some (.cells wb lb))
    (hk : hp[k]? = some (.cells wr (enK kb z t))) (hgf : frees gl = true) (hf : frees lb = true) :
    ∃ v0 vb vk, η[k]? = some vk ∧ ∀ B', HR B' [v0, vb, vk] [.glob g gl, .cells false lb, .cells false (enK 1 z t)] w := by
  have l0 : k0 < η.length := by rw [h.len]; exact (List.getElem?_eq_some_iff.1 h0).1
  have l1 : kb < η.length := by rw [h.len]; exact (List.getElem?_eq_some_iff.1 hb).1
  have l2 : k < η.length := by rw [h.len]; exact (List.getElem?_eq_some_iff.1 hk).1
  have e0 := List.getElem?_eq_getElem l0
  have e1 := List.getElem?_eq_getElem l1
  have e2 := List.getElem?_eq_getElem l2
  refine ⟨η[k0], η[kb], η[k], e2, fun B' => ⟨rfl, fun j o hj => ?_, ?_⟩⟩
  · match j, hj with
    | 0, hj =>
      simp at hj; subst hj
      have hbb := BR.glob_at (k' := 0) (η' := [η[k0], η[kb], η[k]]) hgf (fun x hx => by rw [e0] at hx; simpa using hx) (h.blk k0 _ h0)
      exact ⟨fun wr' l' hro => by
        obtain ⟨b, p, q1, q2, q3, q4⟩ := hbb.1 wr' l' hro
        simp only [SO.row, Option.some.injEq, Prod.mk.injEq] at hro
        obtain ⟨rfl, rfl⟩ := hro
        exact ⟨b, p, q1, q2, (fun e => by cases e), q4⟩, hbb.2⟩
    | 1, hj =>
      simp at hj; subst hj
      exact frz (BR.cells_at (k' := 1) (η' := [η[k0], η[kb], η[k]]) hf (fun x hx => by rw [e1] at hx; simpa using hx) (h.blk kb _ hb))
    | 2, hj =>
      simp at hj; subst hj
      have hr := BR.renOn (π := fun _ => 1) (k' := 2) (η' := [η[k0], η[kb], η[k]]) (fun i hi x hx => by
        have : i = kb := by simpa [SO.idxs, enK, idxss, SV.idxs] using hi
        subst this
        rw [e1] at hx; simpa using hx) (fun x hx => by rw [e2] at hx; simpa using hx) (h.blk k _ hk)
      exact frz hr
    | j + 3, hj => simp at hj
  · intro k₁ k₂ s₁ s₂ l₁ wr₂ l₂ b₁ o₁ b₂ o₂ h1 r1 h2 r2 hne q1 q2
    match k₁, h1 with
    | 0, h1 => simp at h1; subst h1; simp [SO.row] at r1
    | 1, h1 => simp at h1; subst h1; simp [SO.row] at r1
    | 2, h1 => simp at h1; subst h1; simp [SO.row] at r1
    | j + 3, h1 => simp at h1
def i0 : SV := .num .i64 0
def s0 : SV := .bts true []
def bf : SV := .bol false
def optS (sub form id tok non mac : SV) : SV := .agg [sub, i0, i0, bf, bf, .num .u64 0, .num .u64 0, i0, .num .u16 0, form, bf, id, tok, non, mac, bf, bf, bf, .num .u64 0, bf, bf, .num .u64 0, .num .u32 0, i0, bf, .num .u16 0, bf, i0, s0, bf, i0, s0, s0, bf, .num .u64 0, .num .u64 0, i0, i0]
def opt0 : SV := optS i0 i0 i0 (.num .u32 0) (.num .u32 0) s0
def txS (l : List UInt8) : SV := .val (.string ⟨l.toArray⟩)
def bsL (o p id n ot : Int) (hd : Bool) : List SV := [.val (.int .u64 o), .val (.int .u64 p), .val (.int .i64 id), .val (.int .u32 n), .val (.int .u32 ot), .bol hd]
noncomputable def hE (z : Int) (t : TypeId) (o p id n ot : Int) (hd : Bool) : List SO := [globS, .cells false (bsL o p id n ot hd), .cells false (enK 1 z t)]
noncomputable def sX (T : Int → Int) (S L : TxF) : Cx := enX ((tokF T).or (cutF S L))
/-- What is given, by function, kind of end, and whether the other one was heard. -/
noncomputable def enV (T : Int → Int) (S L : TxF) (f : FuncId) (z : Int) (t : TypeId) (o p id n ot : Int) (hd : Bool) (rest : List SV) : Option (SV × (Nat → List SV → Prop)) :=
  if f = 11 ∧ z = 0 ∧ t = 81 then (match rest with | [] => some (optS (.num .i64 1) i0 (.val (.int .i64 id)) (.val (.int .u32 (T p))) (.val (.int .u32 n)) s0, PTf T) | _ => none)
  else if f = 11 ∧ z = 1 ∧ t = 82 then (match rest with | [] => some (opt0, fun g gl => g = 0 ∧ gl = glL) | _ => none)
  else if f = 12 ∧ z = 1 ∧ t = 82 then (match rest with | [] => some (if hd then optS (.num .i64 1) (.num .i64 1) (.val (.int .i64 id)) (.num .u32 0) (.val (.int .u32 n)) (txS (S o p n ot)) else opt0, PSf S) | _ => none)
  else if f = 15 ∧ z = 0 ∧ t = 81 then (match rest with | [] => some (if hd then optS (.num .i64 1) (.num .i64 2) i0 (.num .u32 0) (.num .u32 0) (txS (L o p n ot)) else opt0, PLf L) | _ => none)
  else none
theorem e11t (T : Int → Int) (S L : TxF) (o p id n ot : Int) : givesV (topR (sX T S L) (run (sX T S L) 80) 11 [.ptr 2 0] (hE 0 81 o p id n ot true) []) (optS (.num .i64 1) i0 (.val (.int .i64 id)) (.val (.int .u32 (T p))) (.val (.int .u32 n)) s0) [PTf T 0 glL] := by unfold givesV; kernel_rfl
theorem e11at (T : Int → Int) (S L : TxF) (o p id n ot : Int) : givesV (topR (sX T S L) (run (sX T S L) 80) 11 [.ptr 2 0] (hE 1 82 o p id n ot true) []) opt0 [] := by unfold givesV; kernel_rfl
theorem e11f (T : Int → Int) (S L : TxF) (o p id n ot : Int) : givesV (topR (sX T S L) (run (sX T S L) 80) 11 [.ptr 2 0] (hE 0 81 o p id n ot false) []) (optS (.num .i64 1) i0 (.val (.int .i64 id)) (.val (.int .u32 (T p))) (.val (.int .u32 n)) s0) [PTf T 0 glL] := by unfold givesV; kernel_rfl
theorem e11af (T : Int → Int) (S L : TxF) (o p id n ot : Int) : givesV (topR (sX T S L) (run (sX T S L) 80) 11 [.ptr 2 0] (hE 1 82 o p id n ot false) []) opt0 [] := by unfold givesV; kernel_rfl
theorem e12t (T : Int → Int) (S L : TxF) (o p id n ot : Int) : givesV (topR (sX T S L) (run (sX T S L) 80) 12 [.ptr 2 0] (hE 1 82 o p id n ot true) []) (optS (.num .i64 1) (.num .i64 1) (.val (.int .i64 id)) (.num .u32 0) (.val (.int .u32 n)) (txS (S o p n ot))) [PSf S 0 glL] := by unfold givesV; kernel_rfl
theorem e12f (T : Int → Int) (S L : TxF) (o p id n ot : Int) : givesV (topR (sX T S L) (run (sX T S L) 80) 12 [.ptr 2 0] (hE 1 82 o p id n ot false) []) opt0 [PSf S 0 glL] := by unfold givesV; kernel_rfl
theorem e15t (T : Int → Int) (S L : TxF) (o p id n ot : Int) : givesV (topR (sX T S L) (run (sX T S L) 80) 15 [.ptr 2 0] (hE 0 81 o p id n ot true) []) (optS (.num .i64 1) (.num .i64 2) i0 (.num .u32 0) (.num .u32 0) (txS (L o p n ot))) [PLf L 0 glL] := by unfold givesV; kernel_rfl
theorem e15f (T : Int → Int) (S L : TxF) (o p id n ot : Int) : givesV (topR (sX T S L) (run (sX T S L) 80) 15 [.ptr 2 0] (hE 0 81 o p id n ot false) []) opt0 [PLf L 0 glL] := by unfold givesV; kernel_rfl
theorem e14t (T : Int → Int) (S L : TxF) (o p id n ot : Int) (m : ByteArray) : givesV (topR (sX T S L) (run (sX T S L) 80) 14 [.ptr 2 0, optS (.num .i64 1) (.num .i64 2) i0 (.num .u32 0) (.num .u32 0) (.val (.string m))] (hE 1 82 o p id n ot true) []) (.val (.bool (m.toList == (ByteArray.mk (L p o ot n).toArray).toList))) [PLf L 0 glL] := by unfold givesV; kernel_rfl
def numV (k : IntKind) : SV → Option Int
  | .num k' z => if k' = k then some z else none
  | .val (.int k' z) => if k' = k then some z else none
  | _ => none
theorem numV_R {k : IntKind} {s : SV} {z : Int} {η : Env} {v : Value} (h : numV k s = some z) (hR : R η s v) : R η (.val (.int k z)) v := by
  unfold numV at h
  split at h
  · split at h
    · rename_i e; subst e
      simp only [Option.some.injEq] at h; subst h
      simpa only [R] using hR
    · simp at h
  · split at h
    · rename_i e; subst e
      simp only [Option.some.injEq] at h; subst h
      simpa only [R] using hR
    · simp at h
  · simp at h
theorem numV_free {k : IntKind} {s : SV} {z : Int} (h : numV k s = some z) : s.free = true := by
  unfold numV at h
  split at h <;> first | rfl | simp at h
def same1 : SV → SV → Bool
  | .num k z, .num k' z' => decide (k = k') && decide (z = z')
  | .bol b, .bol b' => b == b'
  | .bts true [], .bts true [] => true
  | _, _ => false
theorem same1_eq {a b : SV} (h : same1 a b = true) : a = b := by
  unfold same1 at h
  split at h
  · simp only [Bool.and_eq_true, decide_eq_true_eq] at h
    rw [h.1, h.2]
  · simp only [beq_iff_eq] at h; rw [h]
  · rfl
  · simp at h
def sameL : List SV → List SV → Bool
  | [], [] => true
  | a :: l, b :: m => same1 a b && sameL l m
  | _, _ => false
theorem sameL_eq : ∀ {l m : List SV}, sameL l m = true → l = m
  | [], [], _ => rfl
  | a :: l, b :: m, h => by
    simp only [sameL, Bool.and_eq_true] at h
    rw [same1_eq h.1, sameL_eq h.2]
  | [], _ :: _, h => by simp [sameL] at h
  | _ :: _, [], h => by simp [sameL] at h
def preO : List SV := [.num .i64 1, i0, i0, bf, bf, .num .u64 0, .num .u64 0, i0, .num .u16 0, .num .i64 2, bf, i0, .num .u32 0, .num .u32 0]
def postO : List SV := [bf, bf, bf, .num .u64 0, bf, bf, .num .u64 0, .num .u32 0, i0, bf, .num .u16 0, bf, i0, s0, bf, i0, s0, s0, bf, .num .u64 0, .num .u64 0, i0, i0]
def macOf : SV → Option ByteArray
  | .agg l => match l.drop 14 with
    | .val (.string m) :: r => if sameL (l.take 14) preO && sameL r postO then some m else none
    | _ => none
  | _ => none
theorem macOf_eq {x : SV} {m : ByteArray} (h : macOf x = some m) : x = optS (.num .i64 1) (.num .i64 2) i0 (.num .u32 0) (.num .u32 0) (.val (.string m)) := by
  unfold macOf at h
  split at h
  · rename_i l
    split at h
    · rename_i m' r hd
      split at h
      · rename_i hs
        simp only [Bool.and_eq_true] at hs
        simp only [Option.some.injEq] at h; subst h
        have e1 := sameL_eq hs.1
        have e2 := sameL_eq hs.2
        rw [← List.take_append_drop 14 l, e1, hd, e2]; rfl
      · simp at h
    · simp at h
  · simp at h
noncomputable def enG (T : Int → Int) (S L : TxF) : Raw := fun f args hp =>
  match args, hp with
  | .ptr k 0 :: rest, .glob g gl :: _ =>
    match hp[k]? with
    | some (.cells _ [.ptr b 0, .num .i64 z, .ifc t (.agg [.ptr b' 0])]) =>
      if b' = b then
        match hp[b]? with
        | some (.cells _ [o, p, id, n, ot, .bol hd]) =>
          match numV .u64 o, numV .u64 p, numV .i64 id, numV .u32 n, numV .u32 ot with
          | some o, some p, some id, some n, some ot =>
            if f = 14 ∧ z = 1 ∧ t = 82 ∧ hd = true then
              (match rest with
              | [x] => match macOf x with
                | some m => some (.val (.bool (m.toList == (ByteArray.mk (L p o ot n).toArray).toList)), .pr (PLf L g gl))
                | none => none
              | _ => none)
            else match enV T S L f z t o p id n ot hd rest with
              | some (s, c) => some (s, .pr (c g gl))
              | none => none
          | _, _, _, _, _ => none
        | _ => none
      else none
    | _ => none
  | _, _ => none
theorem enG_ok (T : Int → Int) (S L : TxF) : (enG T S L).Ok := by
  intro f args hp s c h hc B η w vs hr hargs
  unfold enG at h
  split at h
  · rename_i k rest g gl r
    split at h
    · rename_i wr b z t b' hk
      split at h
      · rename_i hbb; subst hbb
        split at h
        · rename_i wb o p id n ot hd hb
          split at h
          · rename_i o' p' id' n' ot' h1 h2 h3 h4 h5
            -- on the three blocks
            have key : g = 0 → gl = glL → ∀ (f : FuncId) (rest' : List SV) (s' : SV) (Ls : List Prop) (ans : List Bool), frees rest' = true → Rs η rest' vs.tail → s'.free = true → AllP Ls →
                givesV (topR (sX T S L) (run (sX T S L) 80) f (.ptr 2 0 :: rest') (hE z t o' p' id' n' ot' hd) ans) s' Ls →
                Calls Tryd.prog f vs.toArray w (fun e w' => ∃ v, e = .returned v ∧ R [] s' v ∧ Below w.heap.size w w') := by
              intro hg0 hgl f rest' s' Ls ans hrf hrest hsf hA hgv
              subst hg0; subst hgl
              obtain ⟨v0, vb, vk, e2, hth⟩ := HR.three hr (k0 := 0) rfl hb hk (by decide) (by simp only [frees, numV_free h1, numV_free h2, numV_free h3, numV_free h4, numV_free h5, SV.free, Bool.and_self])
              have h6 := hr_cells (k := 1) (wr := false) (hth w.heap.size) (l' := bsL o' p' id' n' ot' hd) rfl rfl (fun i a a' ha ha' v hv => by
                match i with
                | 0 => simp [bsL] at ha ha'; subst ha; subst ha'; exact numV_R h1 hv
                | 1 => simp [bsL] at ha ha'; subst ha; subst ha'; exact numV_R h2 hv
                | 2 => simp [bsL] at ha ha'; subst ha; subst ha'; exact numV_R h3 hv
                | 3 => simp [bsL] at ha ha'; subst ha; subst ha'; exact numV_R h4 hv
                | 4 => simp [bsL] at ha ha'; subst ha; subst ha'; exact numV_R h5 hv
                | 5 => simp [bsL] at ha ha'; subst ha; subst ha'; exact hv
                | i + 6 => simp at ha)
              have hct : CtOk (sX T S L) := enX_ct (Raw.or_ok (tokF_ok _) (cutF_ok _ _))
              refine callsV (X := sX T S L) rfl hct (enX_lp _) 80 hgv hA hsf (η := [v0, vb, vk]) h6 ?_
              obtain ⟨a, x, rfl, g1, g2⟩ := hargs.cons_inv
              obtain ⟨b', o', x1, x2⟩ := g1
              rw [e2] at x1
              simp only [Option.some.injEq] at x1
              subst x1
              exact Rs.cons ⟨b', o', rfl, x2⟩ (Rs.free _ _ hrf (by simpa using hrest))
            have hrest : Rs η rest vs.tail := by
              obtain ⟨a, x, rfl, g1, g2⟩ := hargs.cons_inv
              exact g2
            split at h
            · rename_i hcase
              obtain ⟨rfl, rfl, rfl, rfl⟩ := hcase
              split at h
              · rename_i x
                split at h
                rotate_left
                · simp at h
                rename_i m hmx
                have hx := macOf_eq hmx
                subst hx
                simp only [Option.some.injEq, Prod.mk.injEq] at h
                obtain ⟨rfl, rfl⟩ := h
                obtain ⟨q1, q2, q3⟩ := hc
                exact key q2 q3 14 [optS (.num .i64 1) (.num .i64 2) i0 (.num .u32 0) (.num .u32 0) (.val (.string m))] _ [PLf L 0 glL] [] rfl hrest rfl ⟨⟨q1, rfl, rfl⟩, trivial⟩ (e14t T S L o' p' id' n' ot' m)
              · simp at h
            · split at h
              · rename_i s1 c1 hv
                simp only [Option.some.injEq, Prod.mk.injEq] at h
                obtain ⟨rfl, rfl⟩ := h
                have hc : c1 g gl := hc
                unfold enV at hv
                split at hv
                · rename_i hcase
                  obtain ⟨rfl, rfl, rfl⟩ := hcase
                  split at hv
                  · simp only [Option.some.injEq, Prod.mk.injEq] at hv
                    obtain ⟨rfl, rfl⟩ := hv
                    obtain ⟨q1, q2, q3⟩ := hc
                    exact (by cases hd with | true => exact key q2 q3 11 [] _ [PTf T 0 glL] [] rfl hrest rfl ⟨⟨q1, rfl, rfl⟩, trivial⟩ (e11t T S L o' p' id' n' ot') | false => exact key q2 q3 11 [] _ [PTf T 0 glL] [] rfl hrest rfl ⟨⟨q1, rfl, rfl⟩, trivial⟩ (e11f T S L o' p' id' n' ot'))
                  · simp at hv
                · split at hv
                  · rename_i hcase
                    obtain ⟨rfl, rfl, rfl⟩ := hcase
                    split at hv
                    · simp only [Option.some.injEq, Prod.mk.injEq] at hv
                      obtain ⟨rfl, rfl⟩ := hv
                      obtain ⟨q2, q3⟩ := hc
                      exact (by cases hd with | true => exact key q2 q3 11 [] _ [] [] rfl hrest rfl trivial (e11at T S L o' p' id' n' ot') | false => exact key q2 q3 11 [] _ [] [] rfl hrest rfl trivial (e11af T S L o' p' id' n' ot'))
                    · simp at hv
                  · split at hv
                    · rename_i hcase
                      obtain ⟨rfl, rfl, rfl⟩ := hcase
                      split at hv
                      · simp only [Option.some.injEq, Prod.mk.injEq] at hv
                        obtain ⟨rfl, rfl⟩ := hv
                        obtain ⟨q1, q2, q3⟩ := hc
                        cases hd with
                        | true => exact key q2 q3 12 [] _ [PSf S 0 glL] [] rfl hrest rfl ⟨⟨q1, rfl, rfl⟩, trivial⟩ (e12t T S L o' p' id' n' ot')
                        | false => exact key q2 q3 12 [] _ [PSf S 0 glL] [] rfl hrest rfl ⟨⟨q1, rfl, rfl⟩, trivial⟩ (e12f T S L o' p' id' n' ot')
                      · simp at hv
                    · split at hv
                      · rename_i hcase
                        obtain ⟨rfl, rfl, rfl⟩ := hcase
                        split at hv
                        · simp only [Option.some.injEq, Prod.mk.injEq] at hv
                          obtain ⟨rfl, rfl⟩ := hv
                          obtain ⟨q1, q2, q3⟩ := hc
                          cases hd with
                          | true => exact key q2 q3 15 [] _ [PLf L 0 glL] [] rfl hrest rfl ⟨⟨q1, rfl, rfl⟩, trivial⟩ (e15t T S L o' p' id' n' ot')
                          | false => exact key q2 q3 15 [] _ [PLf L 0 glL] [] rfl hrest rfl ⟨⟨q1, rfl, rfl⟩, trivial⟩ (e15f T S L o' p' id' n' ot')
                        · simp at hv
                      · simp at hv
              · simp at h
          · simp at h
        · simp at h
      · simp at h
    · simp at h
  · simp at h
end Go.Proofs.YtacgamdbmllaoaaDoor
