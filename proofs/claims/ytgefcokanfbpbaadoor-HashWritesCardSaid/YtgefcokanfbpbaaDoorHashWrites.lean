/-
  HashWrites: it returns true, whatever the arguments; they read as before. Its condition: the package's variable holds the words that its own text lays.
-/
import Derived.Test.YtgefcokanfbpbaaDoorW07e
import Derived.Test.YtgefcokanfbpbaaDoorW06w
import Derived.Test.YtgefcokanfbpbaaDoorR00
namespace Go.Proofs.YtgefcokanfbpbaaDoor.hashWrites
open Go.Ex Go.ChangeShapes Go.WideShapes Go.ChangeAt Go.RowKit
set_option linter.unusedVariables false
set_option linter.unusedSimpArgs false
/-! ### HashWrites -/
noncomputable def XW (q : Sh) : Cx := rawX q (worksG.or ((rsB q.S).or (sumG q)))
noncomputable def hwL (q : Sh) : List Int → ByteArray → Int → ByteArray → List ByteArray → List Prop
  | _, rest, _, all, [] => [P13 rest 0 glL, q.S = shL.S ∧ all.size ≤ 631]
  | ini, rest, m, all, t :: l =>
    [cutP 100 t, P14 ini rest (cutK 100 t) 0 glL, all.size + (cutK 100 t).size ≤ 9223372036854775807, P13 (q.F ini (rest ++ cutK 100 t)).2 0 glL, q.S = shL.S ∧ (all ++ cutK 100 t).size ≤ 631,
     (!eqDg (q.D (oct (q.F ini (rest ++ cutK 100 t))) (q.F ini (rest ++ cutK 100 t)).2 (w64 m (cutK 100 t))) (q.S (all ++ cutK 100 t))) = false,
     (w64 m (cutK 100 t) != IntKind.u64.wrap ((all ++ cutK 100 t).size : Int)) = false] ++
    hwL q (oct (q.F ini (rest ++ cutK 100 t))) (q.F ini (rest ++ cutK 100 t)).2 (w64 m (cutK 100 t)) (all ++ cutK 100 t) l
noncomputable def hwV (q : Sh) : List Int → ByteArray → Int → ByteArray → List ByteArray → Bool
  | ini, rest, m, all, [] => eqDg (q.D ini rest m) (q.S all)
  | ini, rest, m, all, t :: l => hwV q (oct (q.F ini (rest ++ cutK 100 t))) (q.F ini (rest ++ cutK 100 t)).2 (w64 m (cutK 100 t)) (all ++ cutK 100 t) l
def hW (ss : List ByteArray) : List SO := [.glob 0 glL, .cells false (ss.map fun s => .val (.string s)), .cells false [], .dead]
theorem hw_1 (q : Sh) (s0 : ByteArray) : givesV (topR (XW q) (run (XW q) 80) 5 [.sle 1 0 1 3] (hW [s0]) [false, false]) (.val (.bool (hwV q iv emp (Int.ofNat 0) emp [s0]))) (Pg 0 glL :: hwL q iv emp (Int.ofNat 0) emp [s0]) := by
  unfold givesV; kernel_rfl
theorem hw_2 (q : Sh) (s0 s1 : ByteArray) : givesV (topR (XW q) (run (XW q) 80) 5 [.sle 1 0 2 3] (hW [s0, s1]) [false, false, false, false]) (.val (.bool (hwV q iv emp (Int.ofNat 0) emp [s0, s1]))) (Pg 0 glL :: hwL q iv emp (Int.ofNat 0) emp [s0, s1]) := by
  unfold givesV; kernel_rfl
theorem hw_3 (q : Sh) (s0 s1 s2 : ByteArray) : givesV (topR (XW q) (run (XW q) 80) 5 [.sle 1 0 3 3] (hW [s0, s1, s2]) [false, false, false, false, false, false]) (.val (.bool (hwV q iv emp (Int.ofNat 0) emp [s0, s1, s2]))) (Pg 0 glL :: hwL q iv emp (Int.ofNat 0) emp [s0, s1, s2]) := by
  unfold givesV; kernel_rfl
theorem hw_4 (q : Sh) (s0 s1 s2 s3 : ByteArray) : givesV (topR (XW q) (run (XW q) 80) 5 [.sle 1 0 4 3] (hW [s0, s1, s2, s3]) [false, false, false, false, false, false, false, false]) (.val (.bool (hwV q iv emp (Int.ofNat 0) emp [s0, s1, s2, s3]))) (Pg 0 glL :: hwL q iv emp (Int.ofNat 0) emp [s0, s1, s2, s3]) := by
  unfold givesV; kernel_rfl
theorem hw_5 (q : Sh) (s0 s1 s2 s3 s4 : ByteArray) : givesV (topR (XW q) (run (XW q) 80) 5 [.sle 1 0 5 3] (hW [s0, s1, s2, s3, s4]) [false, false, false, false, false, false, false, false, false, false]) (.val (.bool (hwV q iv emp (Int.ofNat 0) emp [s0, s1, s2, s3, s4]))) (Pg 0 glL :: hwL q iv emp (Int.ofNat 0) emp [s0, s1, s2, s3, s4]) := by
  unfold givesV; kernel_rfl
theorem hw_0 (q : Sh) : givesV (topR (XW q) (run (XW q) 80) 5 [.val (.slice none 0 0)] [.glob 0 glL] []) (.val (.bool (hwV q iv emp (Int.ofNat 0) emp []))) (Pg 0 glL :: hwL q iv emp (Int.ofNat 0) emp []) := by
  unfold givesV; kernel_rfl
theorem hw_00 (q : Sh) (s0 : ByteArray) : givesV (topR (XW q) (run (XW q) 80) 5 [.sle 1 0 0 3] (hW []) []) (.val (.bool (hwV q iv emp (Int.ofNat 0) emp []))) (Pg 0 glL :: hwL q iv emp (Int.ofNat 0) emp []) := by
  unfold givesV; kernel_rfl
noncomputable def hwN (q : Sh) (n : Nat) (b : Bool) : Nat → List Int → ByteArray → Int → ByteArray → List ByteArray → List Prop
  | i, _, rest, _, all, [] => [decide ((i : Int) < (n : Int)) = b, P13 rest 0 glL, q.S = shL.S ∧ all.size ≤ 631]
  | i, ini, rest, m, all, t :: l =>
    [decide ((i : Int) < (n : Int)) = true, (i : Int) < (n : Int), (i : Int) < (n : Int), cutP 100 t, P14 ini rest (cutK 100 t) 0 glL, all.size + (cutK 100 t).size ≤ 9223372036854775807, P13 (q.F ini (rest ++ cutK 100 t)).2 0 glL, q.S = shL.S ∧ (all ++ cutK 100 t).size ≤ 631,
     (!eqDg (q.D (oct (q.F ini (rest ++ cutK 100 t))) (q.F ini (rest ++ cutK 100 t)).2 (w64 m (cutK 100 t))) (q.S (all ++ cutK 100 t))) = false,
     (w64 m (cutK 100 t) != IntKind.u64.wrap ((all ++ cutK 100 t).size : Int)) = false] ++
    hwN q n b (i + 1) (oct (q.F ini (rest ++ cutK 100 t))) (q.F ini (rest ++ cutK 100 t)).2 (w64 m (cutK 100 t)) (all ++ cutK 100 t) l
theorem hw_6t (q : Sh) (n : Nat) (s0 s1 s2 s3 s4 s5 : ByteArray) : givesV (topR (XW q) (run (XW q) 80) 5 [.slo 1 n 3] (hW [s0, s1, s2, s3, s4, s5]) [true, false, false, true, false, false, true, false, false, true, false, false, true, false, false, true, false, false, true]) (.val (.bool (hwV q iv emp (Int.ofNat 0) emp [s0, s1, s2, s3, s4, s5]))) (Pg 0 glL :: hwN q n true 0 iv emp (Int.ofNat 0) emp [s0, s1, s2, s3, s4, s5]) := by
  unfold givesV; kernel_rfl
theorem hw_6f (q : Sh) (n : Nat) (s0 s1 s2 s3 s4 s5 : ByteArray) : givesV (topR (XW q) (run (XW q) 80) 5 [.slo 1 n 3] (hW [s0, s1, s2, s3, s4, s5]) [true, false, false, true, false, false, true, false, false, true, false, false, true, false, false, true, false, false, false]) (.val (.bool (hwV q iv emp (Int.ofNat 0) emp [s0, s1, s2, s3, s4, s5]))) (Pg 0 glL :: hwN q n false 0 iv emp (Int.ofNat 0) emp [s0, s1, s2, s3, s4, s5]) := by
  unfold givesV; kernel_rfl

theorem w64_all (all p : ByteArray) (h : all.size + p.size ≤ 100000) : w64 (all.size : Int) p = ((all ++ p).size : Int) := by
  rw [w64_eq _ _ (by omega), ByteArray.size_append]
theorem hwL_ok : ∀ (l : List ByteArray) (all : ByteArray), all.size + 100 * l.length ≤ 631 → AllP (hwL shL (oct (hs shL all)) (hs shL all).2 (all.size : Int) all l)
  | [], all, h => ⟨⟨hs_rest all, rfl, rfl⟩, ⟨rfl, by simp at h; omega⟩, trivial⟩
  | t :: l, all, h => by
    have hp := (cutK_size 100 (by omega) t).1
    simp only [List.length_cons] at h
    have ew : shL.F (oct (hs shL all)) ((hs shL all).2 ++ cutK 100 t) = hs shL (all ++ cutK 100 t) := hs_write _ _
    have em := w64_all all (cutK 100 t) (by omega)
    have ez : (all ++ cutK 100 t).size = all.size + (cutK 100 t).size := ByteArray.size_append
    have hr := hs_rest all
    unfold hwL
    rw [ew, em]
    refine ⟨cutP_ok 100 (by omega) t, ⟨by omega, rfl, rfl⟩, by omega, ⟨hs_rest _, rfl, rfl⟩, ⟨rfl, by omega⟩, by rw [hs_dig _ (by omega), eqDg_self]; rfl, ?_, hwL_ok l _ (by omega)⟩
    rw [wu64]
    simp only [bne_eq_false_iff_eq]
    omega
theorem hwV_ok : ∀ (l : List ByteArray) (all : ByteArray), all.size + 100 * l.length ≤ 631 → hwV shL (oct (hs shL all)) (hs shL all).2 (all.size : Int) all l = true
  | [], all, h => by unfold hwV; rw [hs_dig _ (by omega)]; exact eqDg_self _
  | t :: l, all, h => by
    have hp := (cutK_size 100 (by omega) t).1
    simp only [List.length_cons] at h
    have ew : shL.F (oct (hs shL all)) ((hs shL all).2 ++ cutK 100 t) = hs shL (all ++ cutK 100 t) := hs_write _ _
    have em := w64_all all (cutK 100 t) (by omega)
    have ez : (all ++ cutK 100 t).size = all.size + (cutK 100 t).size := ByteArray.size_append
    unfold hwV
    rw [ew, em]
    exact hwV_ok l _ (by omega)
theorem hwN_ok (n : Nat) (b : Bool) : ∀ (l : List ByteArray) (i : Nat) (all : ByteArray), all.size + 100 * l.length ≤ 631 → i + l.length ≤ n → decide (((i + l.length : Nat) : Int) < (n : Int)) = b → AllP (hwN shL n b i (oct (hs shL all)) (hs shL all).2 (all.size : Int) all l)
  | [], i, all, h, _, hb => ⟨by simpa using hb, ⟨hs_rest all, rfl, rfl⟩, ⟨rfl, by simp at h; omega⟩, trivial⟩
  | t :: l, i, all, h, hi, hb => by
    have hp := (cutK_size 100 (by omega) t).1
    simp only [List.length_cons] at h hi hb
    have ew : shL.F (oct (hs shL all)) ((hs shL all).2 ++ cutK 100 t) = hs shL (all ++ cutK 100 t) := hs_write _ _
    have em := w64_all all (cutK 100 t) (by omega)
    have ez : (all ++ cutK 100 t).size = all.size + (cutK 100 t).size := ByteArray.size_append
    have hr := hs_rest all
    have hlt : (i : Int) < (n : Int) := by omega
    unfold hwN
    rw [ew, em]
    refine ⟨by simpa using hlt, hlt, hlt, cutP_ok 100 (by omega) t, ⟨by omega, rfl, rfl⟩, by omega, ⟨hs_rest _, rfl, rfl⟩, ⟨rfl, by omega⟩, by rw [hs_dig _ (by omega), eqDg_self]; rfl, ?_, hwN_ok n b l (i + 1) _ (by omega) (by omega) (by rw [← hb]; congr 2; omega)⟩
    rw [wu64]
    simp only [bne_eq_false_iff_eq]
    omega
theorem hw_start : oct (hs shL emp) = iv ∧ (hs shL emp).2 = emp := by
  have e : hs shL emp = (iv, emp) := by
    show finW zL iv emp = (iv, emp)
    rw [finW, dif_neg (by decide)]
  rw [e]; exact ⟨rfl, rfl⟩
theorem walk (v0 : Value) (W : World) (hL : laidMet Tryd.prog laidL W) (o0 : StrsAt W v0) :
    Calls Tryd.prog 5 #[v0] W (fun e w' => e = .returned (.bool true) ∧ Below W.heap.size W w') := by
  obtain ⟨v, hr⟩ := hr_laid hL W.heap.size
  obtain ⟨st1, st2⟩ := hw_start
  have hv : ∀ l : List ByteArray, l.length ≤ 6 → hwV shL iv emp (Int.ofNat 0) emp l = true := fun l hl => by
    have := hwV_ok l emp (by rw [show emp.size = 0 from rfl]; omega)
    rw [st1, st2] at this; exact this
  have hq : ∀ l : List ByteArray, l.length ≤ 6 → AllP (hwL shL iv emp (Int.ofNat 0) emp l) := fun l hl => by
    have := hwL_ok l emp (by rw [show emp.size = 0 from rfl]; omega)
    rw [st1, st2] at this; exact this
  have hn : ∀ (n : Nat) (b : Bool) (l : List ByteArray), l.length = 6 → 6 ≤ n → decide ((6 : Int) < (n : Int)) = b → AllP (hwN shL n b 0 iv emp (Int.ofNat 0) emp l) := fun n b l hl h6 hb => by
    have := hwN_ok n b l 0 emp (by rw [show emp.size = 0 from rfl]; omega) (by omega) (by rw [hl]; exact hb)
    rw [st1, st2] at this; exact this
  have fin : ∀ {ans : List Bool} {hp : List SO} {args : List SV} {η : Env} {v0 : Value} (l : List ByteArray) {L : List Prop}, l.length ≤ 6 →
      givesV (topR (XW shL) (run (XW shL) 80) 5 args hp ans) (.val (.bool (hwV shL iv emp (Int.ofNat 0) emp l))) (Pg 0 glL :: L) → AllP L → HR W.heap.size η hp W → Rs η args [v0] →
      Calls Tryd.prog 5 #[v0] W (fun e w' => e = .returned (.bool true) ∧ Below W.heap.size W w') := fun {ans hp args η v0} l {L} hl hg hA hr hargs => by
    refine (callsV (X := XW shL) rfl (rawX_ct shL_F (Raw.or_ok worksG_ok (Raw.or_ok (rsB_ok _) sumG_ok))) (rawX_lp _ _) 80 hg ⟨⟨rfl, rfl⟩, hA⟩ rfl hr (vs := [v0]) hargs).mono fun e w' hq => ?_
    obtain ⟨v, rfl, hR, hb⟩ := hq
    simp only [R] at hR
    rw [hv l hl] at hR
    exact ⟨by rw [hR], hb⟩
  rcases o0 with rfl | ⟨b, o, len, cap, ss, rfl, hl, hb, hz, hc⟩
  · exact fin [] (by decide) (hw_0 shL) (hq [] (by decide)) hr (Rs.cons (by simp only [R]) Rs.nil)
  · have hrow : ∀ l : List ByteArray, (∀ i s, l[i]? = some s → W.cell? ⟨b, o + i, none⟩ = some (.string s)) → HR W.heap.size [v, .pointer (some ⟨b, o, none⟩), .pointer (some ⟨b, o, none⟩), .slice none 0 cap] (hW l) W := fun l h =>
      HR.rows hr (fun wr l' he => by simp only [globS, SO.row, Option.some.injEq, Prod.mk.injEq] at he; exact he.1.symm) cap hb (cells_strs _ h)
    have hslo : Rs [v, .pointer (some ⟨b, o, none⟩), .pointer (some ⟨b, o, none⟩), .slice none 0 cap] [.slo 1 len 3] [.slice (some ⟨b, o, none⟩) len cap] := Rs.cons ⟨b, o, cap, rfl, rfl, hl, rfl⟩ Rs.nil
    have hsle : Rs [v, .pointer (some ⟨b, o, none⟩), .pointer (some ⟨b, o, none⟩), .slice none 0 cap] [.sle 1 0 len 3] [.slice (some ⟨b, o, none⟩) len cap] := Rs.cons ⟨b, o, cap, rfl, rfl, hl, rfl⟩ Rs.nil
    by_cases h6 : 6 ≤ len
    · obtain ⟨s0, s1, s2, s3, s4, s5, r, rfl⟩ : ∃ s0 s1 s2 s3 s4 s5 r, ss = s0 :: s1 :: s2 :: s3 :: s4 :: s5 :: r := by
        match ss, hz with
        | s0 :: s1 :: s2 :: s3 :: s4 :: s5 :: r, _ => exact ⟨s0, s1, s2, s3, s4, s5, r, rfl⟩
        | [], h => simp at h; omega
        | [_], h => simp at h; omega
        | [_, _], h => simp at h; omega
        | [_, _, _], h => simp at h; omega
        | [_, _, _, _], h => simp at h; omega
        | [_, _, _, _, _], h => simp at h; omega
      have h6r := hrow [s0, s1, s2, s3, s4, s5] fun i s hi => hc i s (by
        have : i < 6 := (List.getElem?_eq_some_iff.1 hi).1
        rw [← hi]
        match i, this with
        | 0, _ => rfl
        | 1, _ => rfl
        | 2, _ => rfl
        | 3, _ => rfl
        | 4, _ => rfl
        | 5, _ => rfl)
      by_cases h7 : 6 < len
      · exact fin _ (by simp) (hw_6t shL len s0 s1 s2 s3 s4 s5) (hn len true _ rfl h6 (by simp; omega)) h6r hslo
      · exact fin _ (by simp) (hw_6f shL len s0 s1 s2 s3 s4 s5) (hn len false _ rfl h6 (by simp; omega)) h6r hslo
    · have hrw := hrow ss hc
      match ss, hz with
      | [], h => obtain rfl : len = 0 := by simpa using h.symm
                 exact fin [] (by decide) (hw_00 shL emp) (hq [] (by decide)) hrw hsle
      | [s0], h => obtain rfl : len = 1 := by simpa using h.symm
                   exact fin _ (by simp) (hw_1 shL s0) (hq _ (by simp)) hrw hsle
      | [s0, s1], h => obtain rfl : len = 2 := by simpa using h.symm
                       exact fin _ (by simp) (hw_2 shL s0 s1) (hq _ (by simp)) hrw hsle
      | [s0, s1, s2], h => obtain rfl : len = 3 := by simpa using h.symm
                           exact fin _ (by simp) (hw_3 shL s0 s1 s2) (hq _ (by simp)) hrw hsle
      | [s0, s1, s2, s3], h => obtain rfl : len = 4 := by simpa using h.symm
                               exact fin _ (by simp) (hw_4 shL s0 s1 s2 s3) (hq _ (by simp)) hrw hsle
      | [s0, s1, s2, s3, s4], h => obtain rfl : len = 5 := by simpa using h.symm
                                   exact fin _ (by simp) (hw_5 shL s0 s1 s2 s3 s4) (hq _ (by simp)) hrw hsle
      | _ :: _ :: _ :: _ :: _ :: _ :: _, h => simp at h; omega

set_option maxRecDepth 100000 in
theorem lifted (os : Os) (started : os.Started) (H : Type) (enc : TypeId × Value → H) :
    ReturnsInHanded {} Tryd.checked os 5 .any (fun w args => (Rows.hashWritesSpec.pre enc Tryd.prog Tryd.f5 [] false w args ∧ laidMetH Tryd.prog Rows.hashWritesRow.laid w) ∧ sizedMet enc Tryd.prog Tryd.f5 (OpenSpec.ofChange Rows.hashWritesSpec) false w args)
      (Rows.hashWritesSpec.post enc Tryd.prog Tryd.f5 false true false false) := by
  refine returnsInHanded_of_change_and (C := Tryd.checked) (X := fun w _ => laidMetH Tryd.prog Rows.hashWritesRow.laid w) (fun _ _ _ hh h => h.of_heap hh) own started (by kernel_rfl) Tryd.func5
    (ChangeSpec.witness_shaped (enc := enc) (C := Tryd.checked) (os := os) (X := fun w _ => laidMetH Tryd.prog Rows.hashWritesRow.laid w) false (World.laidAll Tryd.prog os laidL) #[.slice none 0 0] 8 (World.laidAll_os _ _ _)
      (World.shaped_of_ZipB (by kernel_rfl) (by kernel_rfl)) (by kernel_rfl) (by kernel_rfl) (by kernel_rfl)
      (by rw [MakeChecks.laidMetH_plain _ _ _ (by kernel_rfl)]; exact laidMet_laidAll _ (by kernel_rfl) (by kernel_rfl))) ?_
  intro W base args ds gs before hval0 hW _ hsz0 hL _
  rw [MakeChecks.laidMetH_plain _ _ _ (by kernel_rfl)] at hL
  have hval : ∀ (j : Nat) t v, Tryd.f5.params[j]? = some t → args[j]? = some v → Value.okWide Tryd.prog W .any base t v := hval0
  have hW' := hW
  obtain ⟨p, q, hA0, hV, rfl, hfz, hnd⟩ := hW
  have hA : DataW.TrodAll enc Tryd.prog W 0 (fun _ => true) true Tryd.f5.params.toList args.toList ds p := hA0
  have hK := hA
  rw [Tryd.params5] at hA hval
  obtain ⟨v0, vs0, d0, ds0, p0, q0, hargs, rfl, rfl, h0, r0⟩ := trodAll_cons hA
  obtain ⟨rfl, rfl, rfl⟩ := trodAll_nil r0
  obtain rfl : args = #[v0] := by cases args; simp_all
  obtain ⟨rfl, rfl⟩ := trodVars_none hV
  have o0 := open_strs (Tryd.underlying34) (Tryd.underlying9) (by kernel_rfl) h0 (hval 0 34 v0 rfl rfl)
  clear hA0 hval0
  refine (walk v0 W hL o0).mono fun e W' ⟨he, bel⟩ => ?_
  subst he
  exact ⟨_, rfl, _, _, _, [], _, [], hW', trodAll_mk1 (shut_bool Tryd.underlying4 _), trodAll_below laidOut bel (by kernel_rfl) hK, rfl, bel.frame _, fun h => by cases h⟩
theorem over : Rows.hashWritesRow.holds Tryd.pinned (OpenSpec.ofChange Rows.hashWritesSpec) :=
  OpenClaim.holds_of_wide 5 Tryd.f5 rfl rfl rfl rfl rfl rfl rfl ⟨rfl, rfl, rfl, rfl, rfl⟩ rfl rfl rfl rfl rfl (by kernel_rfl) Tryd.func5 (by kernel_rfl)
    (of_decide_eq_true (by kernel_rfl)) (by unfold Func.isWrapper; first | (rw [if_pos (by decide +kernel)]; kernel_rfl) | (rw [if_neg (by decide +kernel)]; exact ⟨rfl, rfl⟩))
    (fun os started H enc _ => lifted os started H enc)
theorem proved : Rows.HashWritesCardSaid :=
  Claim7.holds_tied_plain_at .later [] [.data] true (true, "e0fa5907c2e1b4edf385be27c5d160ccce484b095ed7f6520272a764994f0aa5") false over (fun _ h => by cases h) (by kernel_rfl) (fun _ h => by cases h) hashWrites_row_tie rfl ⟨rfl, rfl⟩ (by kernel_rfl) rfl
    (fun f fn hf hfn => by
      obtain rfl : f = 5 := Option.some.inj ((show Tryd.prog.funcNamed "plait/plaitlaw06.HashWrites" = some 5 by kernel_rfl).symm.trans hf) |>.symm
      obtain rfl : fn = Tryd.f5 := (Option.some.inj (Tryd.func5.symm.trans hfn)).symm
      exact ⟨by kernel_rfl, fun j t ht => by
        rw [Tryd.params5] at ht
        have hm : t ∈ [34] := by simpa using Array.mem_of_getElem? ht
        have hall : ([34].all fun u => !Tryd.prog.wantsStandIn u) = true := by kernel_rfl
        exact (show Tryd.prog.wantsStandIn t = false by simpa using List.all_eq_true.1 hall t hm)⟩)
    (by kernel_rfl)
#print axioms proved
end Go.Proofs.YtgefcokanfbpbaaDoor.hashWrites
