/-
  Walks of functions, reckoned through, and what they give (part K07m). No condition beyond what each says. By an AI agent.
-/
import Derived.Test.YtclafmabccbhjaaDoorK07r
namespace Go.Proofs.YtclafmabccbhjaaDoor
open Go.Ex
open Go.RowKit (Below)
set_option linter.unusedVariables false
set_option maxRecDepth 1000000
theorem mt_t (s : ByteArray) (c : Nat → Int) (y : Int) (d d' : Nat → Value) : ∀ t, 1 ≤ t → t < 64 → mrt s c y t d d'
  | 0, h, _ => absurd h (by omega)
  | 1, _, _ => mt_1 _ _ _ _ _
  | 2, _, _ => mt_2 _ _ _ _ _
  | 3, _, _ => mt_3 _ _ _ _ _
  | 4, _, _ => mt_4 _ _ _ _ _
  | 5, _, _ => mt_5 _ _ _ _ _
  | 6, _, _ => mt_6 _ _ _ _ _
  | 7, _, _ => mt_7 _ _ _ _ _
  | 8, _, _ => mt_8 _ _ _ _ _
  | 9, _, _ => mt_9 _ _ _ _ _
  | 10, _, _ => mt_10 _ _ _ _ _
  | 11, _, _ => mt_11 _ _ _ _ _
  | 12, _, _ => mt_12 _ _ _ _ _
  | 13, _, _ => mt_13 _ _ _ _ _
  | 14, _, _ => mt_14 _ _ _ _ _
  | 15, _, _ => mt_15 _ _ _ _ _
  | 16, _, _ => mt_16 _ _ _ _ _
  | 17, _, _ => mt_17 _ _ _ _ _
  | 18, _, _ => mt_18 _ _ _ _ _
  | 19, _, _ => mt_19 _ _ _ _ _
  | 20, _, _ => mt_20 _ _ _ _ _
  | 21, _, _ => mt_21 _ _ _ _ _
  | 22, _, _ => mt_22 _ _ _ _ _
  | 23, _, _ => mt_23 _ _ _ _ _
  | 24, _, _ => mt_24 _ _ _ _ _
  | 25, _, _ => mt_25 _ _ _ _ _
  | 26, _, _ => mt_26 _ _ _ _ _
  | 27, _, _ => mt_27 _ _ _ _ _
  | 28, _, _ => mt_28 _ _ _ _ _
  | 29, _, _ => mt_29 _ _ _ _ _
  | 30, _, _ => mt_30 _ _ _ _ _
  | 31, _, _ => mt_31 _ _ _ _ _
  | 32, _, _ => mt_32 _ _ _ _ _
  | 33, _, _ => mt_33 _ _ _ _ _
  | 34, _, _ => mt_34 _ _ _ _ _
  | 35, _, _ => mt_35 _ _ _ _ _
  | 36, _, _ => mt_36 _ _ _ _ _
  | 37, _, _ => mt_37 _ _ _ _ _
  | 38, _, _ => mt_38 _ _ _ _ _
  | 39, _, _ => mt_39 _ _ _ _ _
  | 40, _, _ => mt_40 _ _ _ _ _
  | 41, _, _ => mt_41 _ _ _ _ _
  | 42, _, _ => mt_42 _ _ _ _ _
  | 43, _, _ => mt_43 _ _ _ _ _
  | 44, _, _ => mt_44 _ _ _ _ _
  | 45, _, _ => mt_45 _ _ _ _ _
  | 46, _, _ => mt_46 _ _ _ _ _
  | 47, _, _ => mt_47 _ _ _ _ _
  | 48, _, _ => mt_48 _ _ _ _ _
  | 49, _, _ => mt_49 _ _ _ _ _
  | 50, _, _ => mt_50 _ _ _ _ _
  | 51, _, _ => mt_51 _ _ _ _ _
  | 52, _, _ => mt_52 _ _ _ _ _
  | 53, _, _ => mt_53 _ _ _ _ _
  | 54, _, _ => mt_54 _ _ _ _ _
  | 55, _, _ => mt_55 _ _ _ _ _
  | 56, _, _ => mt_56 _ _ _ _ _
  | 57, _, _ => mt_57 _ _ _ _ _
  | 58, _, _ => mt_58 _ _ _ _ _
  | 59, _, _ => mt_59 _ _ _ _ _
  | 60, _, _ => mt_60 _ _ _ _ _
  | 61, _, _ => mt_61 _ _ _ _ _
  | 62, _, _ => mt_62 _ _ _ _ _
  | 63, _, _ => mt_63 _ _ _ _ _
  | t + 64, _, h => absurd h (by omega)
theorem mf_t (s : ByteArray) (c : Nat → Int) (y : Int) (d d' : Nat → Value) : ∀ t, 1 ≤ t → t < 64 → mrf s c y t d d'
  | 0, h, _ => absurd h (by omega)
  | 1, _, _ => mf_1 _ _ _ _ _
  | 2, _, _ => mf_2 _ _ _ _ _
  | 3, _, _ => mf_3 _ _ _ _ _
  | 4, _, _ => mf_4 _ _ _ _ _
  | 5, _, _ => mf_5 _ _ _ _ _
  | 6, _, _ => mf_6 _ _ _ _ _
  | 7, _, _ => mf_7 _ _ _ _ _
  | 8, _, _ => mf_8 _ _ _ _ _
  | 9, _, _ => mf_9 _ _ _ _ _
  | 10, _, _ => mf_10 _ _ _ _ _
  | 11, _, _ => mf_11 _ _ _ _ _
  | 12, _, _ => mf_12 _ _ _ _ _
  | 13, _, _ => mf_13 _ _ _ _ _
  | 14, _, _ => mf_14 _ _ _ _ _
  | 15, _, _ => mf_15 _ _ _ _ _
  | 16, _, _ => mf_16 _ _ _ _ _
  | 17, _, _ => mf_17 _ _ _ _ _
  | 18, _, _ => mf_18 _ _ _ _ _
  | 19, _, _ => mf_19 _ _ _ _ _
  | 20, _, _ => mf_20 _ _ _ _ _
  | 21, _, _ => mf_21 _ _ _ _ _
  | 22, _, _ => mf_22 _ _ _ _ _
  | 23, _, _ => mf_23 _ _ _ _ _
  | 24, _, _ => mf_24 _ _ _ _ _
  | 25, _, _ => mf_25 _ _ _ _ _
  | 26, _, _ => mf_26 _ _ _ _ _
  | 27, _, _ => mf_27 _ _ _ _ _
  | 28, _, _ => mf_28 _ _ _ _ _
  | 29, _, _ => mf_29 _ _ _ _ _
  | 30, _, _ => mf_30 _ _ _ _ _
  | 31, _, _ => mf_31 _ _ _ _ _
  | 32, _, _ => mf_32 _ _ _ _ _
  | 33, _, _ => mf_33 _ _ _ _ _
  | 34, _, _ => mf_34 _ _ _ _ _
  | 35, _, _ => mf_35 _ _ _ _ _
  | 36, _, _ => mf_36 _ _ _ _ _
  | 37, _, _ => mf_37 _ _ _ _ _
  | 38, _, _ => mf_38 _ _ _ _ _
  | 39, _, _ => mf_39 _ _ _ _ _
  | 40, _, _ => mf_40 _ _ _ _ _
  | 41, _, _ => mf_41 _ _ _ _ _
  | 42, _, _ => mf_42 _ _ _ _ _
  | 43, _, _ => mf_43 _ _ _ _ _
  | 44, _, _ => mf_44 _ _ _ _ _
  | 45, _, _ => mf_45 _ _ _ _ _
  | 46, _, _ => mf_46 _ _ _ _ _
  | 47, _, _ => mf_47 _ _ _ _ _
  | 48, _, _ => mf_48 _ _ _ _ _
  | 49, _, _ => mf_49 _ _ _ _ _
  | 50, _, _ => mf_50 _ _ _ _ _
  | 51, _, _ => mf_51 _ _ _ _ _
  | 52, _, _ => mf_52 _ _ _ _ _
  | 53, _, _ => mf_53 _ _ _ _ _
  | 54, _, _ => mf_54 _ _ _ _ _
  | 55, _, _ => mf_55 _ _ _ _ _
  | 56, _, _ => mf_56 _ _ _ _ _
  | 57, _, _ => mf_57 _ _ _ _ _
  | 58, _, _ => mf_58 _ _ _ _ _
  | 59, _, _ => mf_59 _ _ _ _ _
  | 60, _, _ => mf_60 _ _ _ _ _
  | 61, _, _ => mf_61 _ _ _ _ _
  | 62, _, _ => mf_62 _ _ _ _ _
  | 63, _, _ => mf_63 _ _ _ _ _
  | t + 64, _, h => absurd h (by omega)
noncomputable def stMM (s : ByteArray) (c : Nat → Int) (y : Int) (t : Nat) (d : Nat → Value) : St := if t = 0 then stM0 s y d else stM s c y t d
def CB (s : ByteArray) (t : Nat) (c : Nat → Int) : Prop := ∀ j, j < t → c j = byteAt s (j : Int)
theorem CB.next {s : ByteArray} {t : Nat} {c : Nat → Int} (h : CB s t c) {v : Int} (hv : v = byteAt s (t : Int)) : CB s (t + 1) (upd c t v) := fun j hj => by
  unfold upd
  by_cases e : j = t
  · subst e; rw [if_pos rfl, hv]
  · rw [if_neg e]; exact h j (by omega)
theorem byteAt_out {s : ByteArray} {t : Nat} (h : ¬ (t : Int) < (s.size : Int)) : (0 : Int) = byteAt s (t : Int) := by
  unfold byteAt; rw [dif_neg (by simp; omega)]
theorem loop21 (s : ByteArray) (y : Int) (d : Nat → Value) : WpE Tryd.prog (.loop c21L) 2 (stM0 s y d) (fun r => r.e = .exit id21 ∧ ∃ c, CB s 64 c ∧ WeakF 2 r.st (fun d => stM s c y 64 d)) := by
  have go := WpE.loopF (P := Tryd.prog) (c := c21L) (n0 := 2) (γ := {p : Nat × (Nat → Int) // p.1 ≤ 64 ∧ CB s p.1 p.2} × (Nat → Value)) (S := fun g => stMM s g.1.1.2 y g.1.1.1 g.2) (m := fun g => 64 - g.1.1.1) (F := fun r => r.e = .exit id21 ∧ ∃ c, CB s 64 c ∧ WeakF 2 r.st (fun d => stM s c y 64 d)) (fun g => ?_) (⟨(0, fun _ => 0), Nat.zero_le _, fun j hj => absurd hj (Nat.not_lt_zero _)⟩, d)
  · exact go
  obtain ⟨⟨⟨t, c⟩, ht, hc⟩, d⟩ := g
  show WpE Tryd.prog c21L 2 (stMM s c y t d) _
  simp only at ht hc
  by_cases h : t < 64
  · have nx : ∃ c', CB s (t + 1) c' ∧ WpE Tryd.prog c21L 2 (stMM s c y t d) (fun r => r.e = .normal ∧ WeakF 2 r.st (fun d' => stMM s c' y (t + 1) d')) := by
      by_cases hs : (t : Int) < (s.size : Int)
      · refine ⟨upd c t (byteAt s (t : Int)), hc.next rfl, ?_⟩
        by_cases h0 : t = 0
        · subst h0
          exact wpE_X (X := XM) rfl XM_ct XM_lp (s := stM0 s y d) (T := fun d' => stM s (upd c 0 (byteAt s ((0 : Nat) : Int))) y 1 d') (m0t s y c d) ⟨by simpa using hs, ⟨by omega, hs⟩, trivial⟩
        · have e2 : stMM s c y t d = stM s c y t d := by unfold stMM; rw [if_neg h0]
          rw [e2]
          exact wpE_X (X := XM) rfl XM_ct XM_lp (T := fun d' => stM s (upd c t (byteAt s (t : Int))) y (t + 1) d') (fun d' => mt_t s c y d d' t (by omega) h) ⟨by simpa using hs, ⟨by omega, hs⟩, trivial⟩
      · refine ⟨upd c t 0, hc.next (byteAt_out hs), ?_⟩
        by_cases h0 : t = 0
        · subst h0
          exact wpE_X (X := XM) rfl XM_ct XM_lp (s := stM0 s y d) (T := fun d' => stM s (upd c 0 0) y 1 d') (m0f s y c d) ⟨by simpa using hs, trivial⟩
        · have e2 : stMM s c y t d = stM s c y t d := by unfold stMM; rw [if_neg h0]
          rw [e2]
          exact wpE_X (X := XM) rfl XM_ct XM_lp (T := fun d' => stM s (upd c t 0) y (t + 1) d') (fun d' => mf_t s c y d d' t (by omega) h) ⟨by simpa using hs, trivial⟩
    obtain ⟨c', hc', hw⟩ := nx
    refine hw.mono fun r hr => .inl ⟨hr.1, _, hr.2, fun d' => ⟨(⟨(t + 1, c'), h, hc'⟩, d'), ?_, rfl⟩⟩
    show 64 - (t + 1) < 64 - t
    omega
  · have e : t = 64 := by omega
    subst e
    exact (wpE_X (X := XM) rfl XM_ct XM_lp (t21_x s c y d) trivial).mono fun r hr => .inr ⟨by rw [hr.1]; exact (fun e => by cases e), hr.1, c, hc, hr.2⟩
theorem wpE_to21 {X : Cx} (hX : X.P = Tryd.prog) (hct : CtOk X) (hlp : LpOk X) {c : Code} {s t : St} {L : List Prop} (h : goodR (run X 80 c s.tm s.hp []) .normal L) (hL : AllP L) (ht : t = (finOf (run X 80 c s.tm s.hp [])).st) : WpE Tryd.prog c 2 s (fun r => r.e = .normal ∧ r.st = t) :=
  (wpE_run hX hct hlp h hL).mono fun r hr => ⟨hr.1, by rw [hr.2, ht]⟩
theorem seq_to21 {x y : Code} {s t : St} {G : Fin → Prop} (h : WpE Tryd.prog x 2 s (fun r => r.e = .normal ∧ r.st = t)) (k : WpE Tryd.prog y 2 t G) : WpE Tryd.prog (.seq x y) 2 s G :=
  WpE.seq h (fun r hr _ => by rw [hr.2]; exact k) (fun r hr hne => absurd hr.1 hne)
/-- Behind the key's length: the key is of 64 bytes at most. -/
theorem tail21 (s : ByteArray) (y : Int) (d : Nat → Value) : WpE Tryd.prog (.seq c21c (.seq (.seq c21d (.block id21 (.loop c21L))) c21r)) 2 (stC s y d) (fun f => f.e = .ret ∧ ∃ c d, CB s 64 c ∧ f = f21 s c y d) := by
  refine seq_to21 (t := s21d s y d) (wpE_to21 (X := XM) rfl XM_ct XM_lp (t21_c s y d) trivial rfl) ?_
  refine WpE.seq (F := fun f => f.e = .normal ∧ ∃ c, CB s 64 c ∧ WeakF 2 f.st (fun d => stM s c y 64 d)) (WpE.seq (wpE_X (X := XM) rfl XM_ct XM_lp (s := s21d s y d) (t21_d s y d) trivial) (fun r hr hn => ?_) (fun r hr hne => absurd hr.1 hne)) (fun r hr hn => ?_) (fun r hr hne => absurd hr.1 hne)
  · refine wpE_weakF hr.2 fun d => WpE.block (loop21 s y d) fun f hf => ?_
    obtain ⟨h1, c, h2, h3⟩ := hf
    have := unblk (T := fun d => stM s c y 64 d) ⟨h1, h3⟩
    exact ⟨this.1, c, h2, this.2⟩
  · obtain ⟨_, c, hc, hw⟩ := hr
    exact wpE_weakF hw fun d => (wpE_run (X := XM) rfl XM_ct XM_lp (s := stM s c y 64 d) (t21_ret s c y d) trivial).mono fun f hf => ⟨hf.1, c, d, hc, hf.2⟩
theorem stCb_weak (s : ByteArray) (h : ¬ s.size ≤ 64) (y : Int) (d : Nat → Value) : Weak 2 (stCb (shL.S s) y d) (stC (keyN s) y d) := by
  have e : keyN s = ⟨(dgB (shL.S s)).toArray⟩ := by unfold keyN; rw [if_neg h]
  intro ds B w₀ η μ a w hn hs
  refine Weak.tm (n0 := 2) (s := stCb (shL.S s) y d) (t := stC (keyN s) y d) rfl rfl (fun i a b ha hb => ?_) hn hs
  match i with
  | 0 =>
    simp only [stCb, List.cons_append, List.getElem?_cons_zero, Option.some.injEq] at ha
    simp only [stC, List.cons_append, List.getElem?_cons_zero, Option.some.injEq] at hb
    subst ha; subst hb
    rw [e]
    exact fun η v hv => by simp only [R] at hv ⊢; exact hv
  | i + 1 =>
    have : a = b := by
      simp only [stCb, List.cons_append, List.getElem?_cons_succ] at ha
      simp only [stC, List.cons_append, List.getElem?_cons_succ] at hb
      rw [ha] at hb; exact Option.some.inj hb
    subst this
    exact fun η v hv => hv
theorem body21 (s : ByteArray) (hs : s.size ≤ 631) (y : Int) : WpE Tryd.prog (code 21) 2 (s21 s y) (fun f => f.e = .ret ∧ ∃ c d, CB (keyN s) 64 c ∧ f = f21 (keyN s) c y d) := by
  rw [code21]
  refine seq_to21 (t := s21b s y) (wpE_to21 (X := XM) rfl XM_ct XM_lp (t21_a s y) trivial rfl) ?_
  by_cases h : s.size ≤ 64
  · have e : keyN s = s := by unfold keyN; rw [if_pos h]
    rw [e]
    refine WpE.seq (wpE_X (X := XM) rfl XM_ct XM_lp (s := s21b s y) (t21_bf s y) ⟨by simp; omega, trivial⟩) (fun r hr hn => ?_) (fun r hr hne => absurd hr.1 hne)
    exact wpE_weakF hr.2 fun d => tail21 s y d
  · have e : keyN s = ⟨(dgB (shL.S s)).toArray⟩ := by unfold keyN; rw [if_neg h]
    refine WpE.seq (wpE_X (X := XMs shL.S) rfl (rawP_ct (rsB_ok _)) (rawP_lp _) (s := s21b s y) (t21_bt shL.S s y) ⟨by simp; omega, ⟨rfl, hs⟩, trivial⟩) (fun r hr hn => ?_) (fun r hr hne => absurd hr.1 hne)
    exact wpE_weakF hr.2 fun d => WpE.weak (stCb_weak s h y d) (tail21 (keyN s) y d)
def mxT (y : Int) (s : ByteArray) : List UInt8 := (List.range 64).map fun j : Nat => UInt8.ofNat (xB (byteAt s (j : Int)) y).toNat
theorem mxC_eq {s : ByteArray} {c : Nat → Int} (h : CB s 64 c) (y : Int) : mxC c y = mxT y s :=
  List.map_congr_left fun j hj => by rw [h j (by simpa using hj)]
theorem call21 (s : ByteArray) (hs : s.size ≤ 631) (y : Int) {w : World} {vs : List Value} (hargs : Rs [] [.val (.string s), .val (.int .u8 y)] vs) :
    Calls Tryd.prog 21 vs.toArray w (fun e w' => ∃ v, e = .returned v ∧ R [] (.val (.string ⟨(mxT y (keyN s)).toArray⟩)) v ∧ Below w.heap.size w w') := by
  have hb0 := body21 s hs y
  unfold s21 at hb0
  rw [← fn21_tm] at hb0
  refine (calls_of_wpE fn21_at fn21_body (args := [.val (.string s), .val (.int .u8 y)]) (hp := [.dead, .dead]) (F := fun f => f.e = .ret ∧ ∃ c d, CB (keyN s) 64 c ∧ f = f21 (keyN s) c y d) (G := fun s' _ => s' = .bts false (mxT y (keyN s))) hb0 (fun f hf => ⟨.inr hf.1, .bts false (mxT y (keyN s)), by obtain ⟨c, d, hc, e⟩ := hf.2; rw [e, ← mxC_eq hc]; exact t21_res _ _ _ d, rfl⟩) (HR.dead2 w) (Nat.le_refl _) (Rs.free _ _ rfl hargs)).mono fun e w' hq => ?_
  obtain ⟨v, μ, s', hp', e1, e2, e3, e4, rfl⟩ := hq
  exact ⟨v, e1, by simp only [R] at e2 ⊢; exact e2, e4⟩
abbrev MxF := Int → ByteArray → ByteArray
noncomputable def mxW : MxF := fun y s => ⟨(mxT y (keyN s)).toArray⟩
def PMx (M : MxF) (s : ByteArray) : Prop := M = mxW ∧ s.size ≤ 631
/-- mixed, named. -/
noncomputable def mixN (M : MxF) : Raw := fun f args hp =>
  if f = 21 then
    match args with
    | [x, .num .u8 y] =>
      match x.val? with
      | some (.string s) => some (.val (.string (M y s)), .pr (PMx M s))
      | _ => none
    | _ => none
  else none
theorem mixN_ok (M : MxF) : (mixN M).Ok := by
  intro f args hp s c h hc B η W vs hr hargs
  unfold mixN at h
  split at h
  · rename_i hf; subst hf
    split at h
    · rename_i x y
      split at h
      · rename_i k hk
        simp only [Option.some.injEq, Prod.mk.injEq] at h
        obtain ⟨rfl, rfl⟩ := h
        obtain ⟨rfl, hs⟩ := hc
        refine call21 k hs y ?_
        obtain ⟨v0, r0, rfl, g0, k0⟩ := hargs.cons_inv
        obtain ⟨v1, r1, rfl, g1, k1⟩ := k0.cons_inv
        simp only [Rs] at k1; subst k1
        exact Rs.cons (by simp only [R]; exact SV.val?_R hk g0) (Rs.cons (by simpa only [R] using g1) Rs.nil)
      · simp at h
    · simp at h
  · simp at h
end Go.Proofs.YtclafmabccbhjaaDoor
