/-
  A reckoner of programs and its soundness, part ExL: what it reckons is what 'Calls' says. No condition. By an AI agent.
-/
import Derived.Test.YtmngnhbnicgjfaaExK
namespace Go.Ex
open Go.RowKit (Below)

/-- A body that is reckoned through, as a call. -/
theorem calls_of_body {P : Program} {f : FuncId} {fn : Func} {c : Code} (hf : P.funcs[f]? = some fn) (hb : fn.body = some c) {args : List SV} {hp : List SO} {r : Fin} {s : SV}
    (hwp : WpOk P c (args ++ List.replicate (fn.ntmps - args.length) (.val undef)) hp r) (he : ∀ id, r.e ≠ .exit id) (hres : resultsS P fn r.tm r.hp = some s)
    {B : Nat} {η : Env} {w : World} {vs : List Value} (hr : HR B η hp w) (hB : B ≤ w.heap.size) (hargs : Rs η args vs) :
    Calls P f vs.toArray w (fun e w' => ∃ v μ, e = .returned v ∧ R (η ++ μ) s v ∧ HR B (η ++ μ) r.hp w' ∧ Below B w w') := by
  refine calls_of_wp hf hb ?_
  have hl := hargs.length
  refine hwp B w η _ w ⟨?_, rfl, hr, Below.refl _ _, hB⟩ _ fun μ a' w' hs => ?_
  · simp only [Array.toList_append, Array.toList_replicate, List.size_toArray]
    rw [hl]
    exact hargs.append (Rs.replicate _ (by simp only [R]))
  · obtain ⟨v, hR, hv⟩ := resultsS_ok hs.hr hs.tm hres
    cases hre : r.e with
    | normal => exact ⟨hs.df, v, hv, v, μ, rfl, hR, hs.hr, hs.below⟩
    | ret => exact ⟨hs.df, v, hv, v, μ, rfl, hR, hs.hr, hs.below⟩
    | exit id => exact absurd hre (he id)

theorem bodyR_ok {X : Cx} {rn : Code → List SV → List SO → List Bool → Rr Fin} (hrn : ∀ c tm hp ans r ans' cc, rn c tm hp ans = .ok r ans' cc → cc → WpOk X.P c tm hp r)
    {f : FuncId} {fn : Func} {c : Code} (hf : X.P.funcs[f]? = some fn) (hb : fn.body = some c) {args : List SV} {hp hp' : List SO} {ans ans' : List Bool} {s : SV} {cc : Cnd}
    (h : bodyR X rn fn c args hp ans = .ok (s, hp') ans' cc) (hc : cc) {B : Nat} {η : Env} {w : World} {vs : List Value} (hr : HR B η hp w) (hB : B ≤ w.heap.size) (hargs : Rs η args vs) :
    Calls X.P f vs.toArray w (fun e w' => ∃ v μ, e = .returned v ∧ R (η ++ μ) s v ∧ HR B (η ++ μ) hp' w' ∧ Below B w w') := by
  unfold bodyR at h
  split at h
  · rename_i r ans1 cc1 hrr
    split at h
    · simp at h
    · rename_i hne
      split at h
      · rename_i s' hs'
        obtain ⟨pe, rfl, rfl⟩ := ok_inj h
        obtain ⟨rfl, rfl⟩ := Prod.mk.inj pe
        exact calls_of_body hf hb (hrn _ _ _ _ _ _ _ hrr hc) (fun id e => hne id e) hs' hr hB hargs
      · simp at h
  · simp at h
  · simp at h

theorem HR.none (w : World) : HR w.heap.size [] [] w := ⟨rfl, fun k o h => by simp at h, fun k₁ k₂ l₁ wr₂ l₂ b₁ o₁ b₂ o₂ h => by simp at h⟩

theorem callR_ok {X : Cx} (hct : CtOk X) {rn : Code → List SV → List SO → List Bool → Rr Fin} (hrn : ∀ c tm hp ans r ans' cc, rn c tm hp ans = .ok r ans' cc → cc → WpOk X.P c tm hp r) : CallOk X.P (callR X rn) := by
  intro f args hp ans s ho ans' c h hc B η w vs hr hB hargs
  unfold callR at h
  split at h
  · simp at h
  · rename_i fn hf
    split at h
    · simp at h
    · rename_i hn
      split at h
      · simp at h
      · rename_i body hb
        have hrun : (callFunc f vs.toArray).run X.P w = .ok (.enter f vs.toArray) w := by
          have hn' : (fn.name == "runtime.NumGoroutine") = false := by simpa using hn
          simp only [callFunc, Sem.run_bind, run_program, Result.andThen_ok, hf, hn', Bool.false_eq_true, if_false, hb, Option.isNone_some, Sem.run_pure]
        refine ⟨hrun, ?_⟩
        have full : whole (bodyR X rn fn body args hp ans) = .ok (s, ho) ans' c → Calls X.P f vs.toArray w (fun e w' => ∃ v μ, e = .returned v ∧ R (η ++ μ) s v ∧ HR B (η ++ μ) (ho.getD hp) w' ∧ Below B w w') := by
          intro h
          unfold whole at h
          split at h
          · rename_i s1 hp1 ans1 c1 h1
            obtain ⟨pe, rfl, rfl⟩ := ok_inj h
            obtain ⟨rfl, rfl⟩ := Prod.mk.inj pe
            exact bodyR_ok hrn hf hb h1 hc hr hB hargs
          · simp at h
          · simp at h
        split at h
        · rename_i s' ho' cc hcc
          obtain ⟨pe, rfl, rfl⟩ := ok_inj h
          obtain ⟨rfl, rfl⟩ := Prod.mk.inj pe
          exact hct f args hp s' ho' cc hcc hc B η w vs hr hB hargs
        · split at h
          · rename_i hfr
            split at h
            · rename_i s1 hp1 ans1 c1 h1
              split at h
              · rename_i hsf
                obtain ⟨pe, rfl, rfl⟩ := ok_inj h
                obtain ⟨rfl, rfl⟩ := Prod.mk.inj pe
                refine (bodyR_ok hrn hf hb h1 hc (HR.none w) (Nat.le_refl _) (Rs.free _ _ hfr hargs)).mono fun e w' hq => ?_
                obtain ⟨v, μ, rfl, hR, _, hb'⟩ := hq
                exact ⟨v, [], rfl, R.free _ _ hsf hR, by simpa using hr.below hb', hb'.mono hB⟩
              · exact full h
            · simp at h
            · simp at h
          · exact full h

theorem run_ok {X : Cx} (hct : CtOk X) (hlp : LpOk X) : ∀ (n : Nat) (c : Code) (tm : List SV) (hp : List SO) (ans : List Bool) (r : Fin) (ans' : List Bool) (cc : Cnd),
    run X n c tm hp ans = .ok r ans' cc → cc → WpOk X.P c tm hp r
  | 0, c, tm, hp, ans, r, ans', cc, h, _ => by simp [run] at h
  | n + 1, c, tm, hp, ans, r, ans', cc, h, hc => by
    have ih := run_ok hct hlp n
    intro B w₀ η a w hs Q hQ
    have here : ∀ e, XE.toExit e = XE.toExit r.e → r.tm = tm → r.hp = hp → Q (XE.toExit e) a w := by
      intro e he h1 h2
      rw [he]
      exact hQ [] a w (by rw [h1, h2]; simpa using hs)
    cases c with
    | skip =>
      simp only [run] at h
      obtain ⟨rfl, _, _⟩ := ok_inj h
      exact wp_skip (here .normal rfl rfl rfl)
    | ret =>
      simp only [run] at h
      obtain ⟨rfl, _, _⟩ := ok_inj h
      exact wp_ret (here .ret rfl rfl rfl)
    | exit id =>
      simp only [run] at h
      obtain ⟨rfl, _, _⟩ := ok_inj h
      exact wp_exit (here (.exit id) rfl rfl rfl)
    | region id ops draw =>
      simp only [run] at h
      split at h
      · rename_i tm' hp' ans1 c1 h1
        obtain ⟨rfl, rfl, rfl⟩ := ok_inj h
        exact regionR_ok (callR_ok hct ih) h1 hc hs hQ
      · simp at h
      · simp at h
    | seq x y =>
      simp only [run] at h
      split at h
      · rename_i r1 ans1 c1 h1
        split at h
        · rename_i he
          split at h
          · rename_i x' ans2 c2 h2
            obtain ⟨rfl, rfl, rfl⟩ := ok_inj h
            refine wp_seq (ih _ _ _ _ _ _ _ h1 hc.l B w₀ η a w hs _ fun μ a' w' hs' => ?_)
            rw [he]
            exact ih _ _ _ _ _ _ _ h2 hc.r B w₀ (η ++ μ) a' w' hs' _ fun μ' a'' w'' hs'' => hQ (μ ++ μ') a'' w'' (by simpa using hs'')
          · simp at h
          · simp at h
        · rename_i hne
          obtain ⟨rfl, rfl, rfl⟩ := ok_inj h
          refine wp_seq (ih _ _ _ _ _ _ _ h1 hc B w₀ η a w hs _ fun μ a' w' hs' => ?_)
          have := hQ μ a' w' hs'
          cases he : r1.e with
          | normal => exact absurd he hne
          | ret => rw [he] at this; exact this
          | exit id => rw [he] at this; exact this
      · simp at h
      · simp at h
    | cond x y z =>
      simp only [run] at h
      split at h
      · rename_i tm' ans1 c1 h1
        have fin : ∀ (b : Bool) (z' : Code) (r' : Rr Fin), ev tm' x = .bol b → c1 → run X n z' tm' hp ans1 = r' → (if b then y else z) = z' → ∀ (r2 : Fin) ans2 c2, r' = .ok r2 ans2 c2 → c2 → r = r2 → (Code.cond x y z).wp X.P Q a w := by
          intro b z' r' hev k1 hr' hz r2 ans2 c2 hr2 k2 hrr
          have e1 := settle_ok h1 k1 hs.tm
          have hx := ev_R e1 x
          rw [hev] at hx
          simp only [R] at hx
          refine wp_cond hx ?_
          rw [hz]
          subst hrr
          rw [hr2] at hr'
          exact ih _ _ _ _ _ _ _ hr' k2 B w₀ η a w ⟨e1, hs.df, hs.hr, hs.below, hs.hB⟩ Q hQ
        split at h
        · rename_i hev
          split at h
          · rename_i r2 ans2 c2 h2
            obtain ⟨rfl, rfl, rfl⟩ := ok_inj h
            exact fin true y _ hev hc.l rfl rfl r2 ans2 c2 h2 hc.r rfl
          · simp at h
          · simp at h
        · rename_i hev
          split at h
          · rename_i r2 ans2 c2 h2
            obtain ⟨rfl, rfl, rfl⟩ := ok_inj h
            exact fin false z _ hev hc.l rfl rfl r2 ans2 c2 h2 hc.r rfl
          · simp at h
          · simp at h
        · simp at h
      · simp at h
      · simp at h
    | block id body =>
      simp only [run] at h
      split at h
      · rename_i r1 ans1 c1 h1
        split at h
        · rename_i id' he
          split at h
          · rename_i hid
            obtain ⟨rfl, rfl, rfl⟩ := ok_inj h
            refine wp_block (ih _ _ _ _ _ _ _ h1 hc B w₀ η a w hs _ fun μ a' w' hs' => ?_)
            rw [he]
            simp only [XE.toExit, Exit.inBlock, hid, if_true]
            exact hQ μ a' w' hs'
          · rename_i hid
            obtain ⟨rfl, rfl, rfl⟩ := ok_inj h
            refine wp_block (ih _ _ _ _ _ _ _ h1 hc B w₀ η a w hs _ fun μ a' w' hs' => ?_)
            have := hQ μ a' w' hs'
            rw [he] at this ⊢
            simp only [XE.toExit, Exit.inBlock, hid, if_false]
            exact this
        · rename_i hne
          obtain ⟨rfl, rfl, rfl⟩ := ok_inj h
          refine wp_block (ih _ _ _ _ _ _ _ h1 hc B w₀ η a w hs _ fun μ a' w' hs' => ?_)
          have := hQ μ a' w' hs'
          cases he : r1.e with
          | normal => rw [he] at this; exact this
          | ret => rw [he] at this; exact this
          | exit id => exact absurd he (hne id)
      · simp at h
      · simp at h
    | loop body =>
      simp only [run] at h
      split at h
      · rename_i r' hl
        subst h
        exact hlp _ _ _ _ _ _ _ hl hc B w₀ η a w hs Q hQ
      · have := (loopR_ok (P := X.P) (body := body) (rn := run X n body) (fun tm hp ans r ans' c h1 h2 => ih _ _ _ _ _ _ _ h1 h2) n tm hp ans r ans' cc h hc B w₀ η a w hs Q hQ).2
        exact wp_loop_rounds n this
    | _ => simp [run] at h

/-- **A call, reckoned through.** -/
theorem call_ok {X : Cx} (hct : CtOk X) (hlp : LpOk X) (n : Nat) {f : FuncId} {fn : Func} {c : Code} (hf : X.P.funcs[f]? = some fn) (hb : fn.body = some c) {args : List SV} {hp : List SO} (ans : List Bool)
    {r : Fin} {cc : Cnd} {s : SV} (hrun : run X n c (args ++ List.replicate (fn.ntmps - args.length) (.val undef)) hp ans = .ok r [] cc) (hc : cc) (he : ∀ id, r.e ≠ .exit id)
    (hres : resultsS X.P fn r.tm r.hp = some s) {B : Nat} {η : Env} {w : World} {vs : List Value} (hr : HR B η hp w) (hB : B ≤ w.heap.size) (hargs : Rs η args vs) :
    Calls X.P f vs.toArray w (fun e w' => ∃ v μ, e = .returned v ∧ R (η ++ μ) s v ∧ HR B (η ++ μ) r.hp w' ∧ Below B w w') :=
  calls_of_body hf hb (run_ok hct hlp n _ _ _ _ _ _ _ hrun hc) he hres hr hB hargs
end Go.Ex
