/-
  A reckoner of programs and its soundness, part ExI: what it reckons is what 'Calls' says. No condition. By an AI agent.
-/
import Derived.Test.YtmngnhbnicgjfaaExH
import Derived.Deep.Quiet
import Derived.StillTail
import Derived.Tactics
namespace Go.Ex
open Go.RowKit (Below)

inductive Rr (α : Type) where
  | ok (x : α) (ans : List Bool) (c : Cnd)
  | ask (b : Bool)
  | bad

theorem ok_inj {α : Type} {x y : α} {a b : List Bool} {c d : Cnd} (h : Rr.ok x a c = Rr.ok y b d) : x = y ∧ a = b ∧ c = d := by
  injection h with h1 h2 h3; exact ⟨h1, h2, h3⟩

/-- 'none': the memory that was told of is as it was. -/
abbrev CallF := FuncId → List SV → List SO → List Bool → Rr (SV × Option (List SO))

/-- What is owed of a reckoner of calls. -/
def CallOk (P : Program) (callf : CallF) : Prop :=
  ∀ f args hp ans s ho ans' c, callf f args hp ans = .ok (s, ho) ans' c → c → ∀ B η w vs, HR B η hp w → B ≤ w.heap.size → Rs η args vs →
    (callFunc f vs.toArray).run P w = .ok (.enter f vs.toArray) w ∧
    Calls P f vs.toArray w (fun e w' => ∃ v μ, e = .returned v ∧ R (η ++ μ) s v ∧ HR B (η ++ μ) (ho.getD hp) w' ∧ Below B w w')

/-- An open number, found by going up. -/
def unary (z : Int) : Nat → List Bool → Rr Nat
  | c, [] => .ask (z == (c : Int))
  | c, true :: r => .ok c r (.pr ((z == (c : Int)) = true))
  | c, false :: r => unary z (c + 1) r
theorem unary_ok {z : Int} : ∀ {ans : List Bool} {c d : Nat} {ans' : List Bool} {cc : Cnd}, unary z c ans = .ok d ans' cc → cc.Is → z = (d : Int)
  | [], c, d, ans', cc, h, _ => by simp [unary] at h
  | true :: r, c, d, ans', cc, h, hc => by
    simp only [unary] at h
    obtain ⟨rfl, _, rfl⟩ := ok_inj h
    simpa [Cnd.Is] using hc
  | false :: r, c, d, ans', cc, h, hc => by
    simp only [unary] at h
    exact unary_ok h hc
/-- A test that is open is answered. -/
def settle (tm : List SV) (t : Option Tmp) (ans : List Bool) : Rr (List SV) :=
  match t with
  | none => .ok tm ans .tt
  | some t =>
    match tm[t]? with
    | some (.val (.bool y)) => match ans with
      | [] => .ask y
      | x :: r => .ok (tm.set t (.bol x)) r (.pr (y = x))
    | some (.val (.int k z)) =>
      match unary z 0 ans with
      | .ok d r c => .ok (tm.set t (.num k d)) r c
      | .ask b => .ask b
      | .bad => .bad
    | _ => .ok tm ans .tt
theorem settle_ok {η : Env} {tm tm' : List SV} {t : Option Tmp} {ans ans' : List Bool} {c : Cnd} {vs : List Value} (h : settle tm t ans = .ok tm' ans' c) (hc : c) (hvs : Rs η tm vs) :
    Rs η tm' vs := by
  unfold settle at h
  split at h
  · obtain ⟨rfl, _, _⟩ := ok_inj h; exact hvs
  · rename_i t
    split at h
    · rename_i y hy
      split at h
      · simp at h
      · rename_i x r
        obtain ⟨rfl, rfl, rfl⟩ := ok_inj h
        obtain ⟨v, hv, hR⟩ := hvs.get hy
        simp only [R] at hR
        subst hR
        have hc : y = x := hc
        have : vs = vs.set t (.bool y) := by
          apply List.ext_getElem?
          intro i
          by_cases hi : t = i
          · subst hi
            rw [List.getElem?_set_self (List.getElem?_eq_some_iff.1 hv).1, hv]
          · rw [List.getElem?_set_ne hi]
        rw [this]
        exact hvs.set (by simp only [R]; rw [hc])
    · rename_i k z hy
      split at h
      · rename_i d r cc hu
        obtain ⟨rfl, rfl, rfl⟩ := ok_inj h
        obtain ⟨v, hv, hR⟩ := hvs.get hy
        simp only [R] at hR
        subst hR
        have hz := unary_ok hu hc
        have : vs = vs.set t (.int k z) := by
          apply List.ext_getElem?
          intro i
          by_cases hi : t = i
          · subst hi
            rw [List.getElem?_set_self (List.getElem?_eq_some_iff.1 hv).1, hv]
          · rw [List.getElem?_set_ne hi]
        rw [this]
        exact hvs.set (by simp only [R]; rw [hz])
      · simp at h
      · simp at h
    · obtain ⟨rfl, _, _⟩ := ok_inj h; exact hvs

def guardTmp (ops : Array Oper) (o : Oper) : Option Tmp := o.guard.bind fun g => (ops[g.1]?).bind (·.dst)
def pickTmp (o : Oper) : Option Tmp :=
  match o.op with
  | .pick (.tmp t) _ _ => some t
  | .indexAddr _ _ (.tmp t) => some t
  | _ => none

/-- Is the guard met? -/
def gd (ops : Array Oper) (o : Oper) (tm : List SV) : Option Bool :=
  match o.guard with
  | none => some true
  | some (j, want) =>
    match (ops[j]?).bind (·.dst) with
    | none => some false
    | some t => match tm[t]? with
      | none => some false
      | some (.bol y) => some (y == want)
      | some (.hdl _) => none
      | some (.val (.bool _)) => none
      | some _ => some false
theorem gd_ok {η : Env} {ops : Array Oper} {o : Oper} {tm : List SV} {tmps : Array Value} {b : Bool} (h : gd ops o tm = some b) (hvs : Rs η tm tmps.toList) :
    Region.wanted o (yielded ops tmps) = b := by
  unfold gd at h
  unfold Region.wanted
  split at h
  · rename_i hg; simp at h; subst h; simp [hg]
  · rename_i j want hg
    simp only [hg]
    unfold yielded
    split at h
    · rename_i hd; simp at h; subst h; simp [hd]
    · rename_i t hd
      simp only [hd, Option.bind_some]
      have notBool : ∀ (s : SV), tm[t]? = some s → (∀ v, R η s v → ∀ b, v ≠ .bool b) →
          ((match tmps[t]? with | some (.bool b) => some b | _ => none) == some want) = false := by
        intro s hs hn
        obtain ⟨v, hv, hR⟩ := hvs.get hs
        have hv' : tmps[t]? = some v := by simpa using hv
        rw [hv']
        cases v <;> first | rfl | exact absurd rfl (hn _ hR _)
      split at h
      · rename_i hn
        simp at h; subst h
        have hl := hvs.length
        rw [Array.length_toList] at hl
        have : tmps[t]? = none := Array.getElem?_eq_none (by rw [hl]; exact List.getElem?_eq_none_iff.1 hn)
        rw [this]; rfl
      · rename_i y hs
        simp at h; subst h
        obtain ⟨v, hv, hR⟩ := hvs.get hs
        simp only [R] at hR
        subst hR
        have hv' : tmps[t]? = some (.bool y) := by simpa using hv
        rw [hv']
        cases y <;> cases want <;> rfl
      · simp at h
      · simp at h
      · rename_i s hs n1 n2 n3
        simp at h; subst h
        refine notBool _ n3 fun v hR b hv => ?_
        subst hv
        cases s <;> simp only [R] at hR
        case val x => subst hR; exact n2 _ rfl
        case num => cases hR
        case bol => exact hs _ rfl
        case bts => cases hR
        case ptr => obtain ⟨_, _, _, h⟩ := hR; cases h
        case slc => obtain ⟨_, _, _, h⟩ := hR; cases h
        case sle => obtain ⟨_, _, _, _, _, _, h⟩ := hR; cases h
        case fnc => obtain ⟨_, _, h, _⟩ := hR; cases h
        case agg => obtain ⟨_, h, _⟩ := hR; cases h
        case tup => obtain ⟨_, h, _⟩ := hR; cases h
        case ifc => obtain ⟨_, h, _⟩ := hR; cases h
        case hdl => exact n1 _ rfl

def putS (tm : List SV) (dst : Option Tmp) (s : SV) : List SV :=
  match dst with
  | some d => tm.set d s
  | none => tm
theorem putS_ok {η : Env} {tm : List SV} {a : Act} (dst : Option Tmp) {s : SV} {v : Value} (hvs : Rs η tm a.tmps.toList) (hR : R η s v) : Rs η (putS tm dst s) (a.put dst v).tmps.toList := by
  cases dst with
  | none => exact hvs
  | some d => simp only [putS, Act.put, Array.toList_setIfInBounds]; exact hvs.set hR
theorem put_defers (a : Act) (dst : Option Tmp) (v : Value) : (a.put dst v).defers = a.defers := by cases dst <;> rfl

/-! ### values, reckoned out (the kernel is lazy) -/
def withN {α : Type} (n : Nat) (k : Nat → α) : α :=
  match n with
  | 0 => k 0
  | n + 1 => k (Nat.succ n)
theorem withN_eq {α : Type} (n : Nat) (k : Nat → α) : withN n k = k n := by cases n <;> rfl
def withI {α : Type} (z : Int) (k : Int → α) : α :=
  match z with
  | .ofNat n => withN n fun n => k (.ofNat n)
  | .negSucc n => withN n fun n => k (.negSucc n)
theorem withI_eq {α : Type} (z : Int) (k : Int → α) : withI z k = k z := by cases z <;> simp only [withI, withN_eq]
def withB {α : Type} (l : List UInt8) (k : List UInt8 → α) : α :=
  match l with
  | [] => k []
  | b :: r => withN b.toNat fun n => withB r fun r => k (UInt8.ofNat n :: r)
theorem withB_eq {α : Type} (l : List UInt8) (k : List UInt8 → α) : withB l k = k l := by
  induction l generalizing k with
  | nil => rfl
  | cons b r ih => simp only [withB, withN_eq, ih, UInt8.ofNat_toNat]
def withT {α : Type} (l : List UInt8) (k : List UInt8 → α) : α :=
  match l with
  | [] => k []
  | b :: r => withT r fun r => k (b :: r)
theorem withT_eq {α : Type} (l : List UInt8) (k : List UInt8 → α) : withT l k = k l := by
  induction l generalizing k with
  | nil => rfl
  | cons b r ih => simp only [withT, ih]
def withY {α : Type} (b : Bool) (k : Bool → α) : α :=
  match b with
  | true => k true
  | false => k false
theorem withY_eq {α : Type} (b : Bool) (k : Bool → α) : withY b k = k b := by cases b <;> rfl
mutual
def withS {α : Type} (s : SV) (k : SV → α) : α :=
  match s with
  | .num t z => withI z fun z => k (.num t z)
  | .bol b => withY b fun b => k (.bol b)
  | .bts true l => withB l fun l => k (.bts true l)
  | .bts false l => withT l fun l => k (.bts false l)
  | .ptr a o => withN a fun a => withN o fun o => k (.ptr a o)
  | .slc a o l c => withN a fun a => withN o fun o => withN l fun l => withN c fun c => k (.slc a o l c)
  | .sle a o l c => withN a fun a => withN o fun o => withN l fun l => withN c fun c => k (.sle a o l c)
  | .fnc g a b => withN g fun g => withSs a fun a => withSs b fun b => k (.fnc g a b)
  | .agg l => withSs l fun l => k (.agg l)
  | .tup l => withSs l fun l => k (.tup l)
  | .ifc t x => withN t fun t => withS x fun x => k (.ifc t x)
  | .hdl a => withN a fun a => k (.hdl a)
  | .val v => k (.val v)
def withSs {α : Type} (l : List SV) (k : List SV → α) : α :=
  match l with
  | [] => k []
  | s :: r => withS s fun s => withSs r fun r => k (s :: r)
end
mutual
theorem withS_eq {α : Type} : ∀ (s : SV) (k : SV → α), withS s k = k s
  | .num t z, k => by simp only [withS, withI_eq]
  | .bol b, k => by simp only [withS, withY_eq]
  | .bts true l, k => by simp only [withS, withB_eq]
  | .bts false l, k => by simp only [withS, withT_eq]
  | .ptr a o, k => by simp only [withS, withN_eq]
  | .slc a o l c, k => by simp only [withS, withN_eq]
  | .sle a o l c, k => by simp only [withS, withN_eq]
  | .fnc g a b, k => by simp only [withS, withN_eq, withSs_eq a, withSs_eq b]
  | .agg l, k => by simp only [withS, withSs_eq l]
  | .tup l, k => by simp only [withS, withSs_eq l]
  | .ifc t x, k => by simp only [withS, withN_eq, withS_eq x]
  | .hdl a, k => by simp only [withS, withN_eq]
  | .val v, k => by simp only [withS]
theorem withSs_eq {α : Type} : ∀ (l : List SV) (k : List SV → α), withSs l k = k l
  | [], k => by simp only [withSs]
  | s :: r, k => by simp only [withSs, withS_eq s, withSs_eq r]
end
/-- The row, not what stands in it. -/
def withL {α : Type} (l : List SV) (k : List SV → α) : α :=
  match l with
  | [] => k []
  | s :: r => withL r fun r => k (s :: r)
theorem withL_eq {α : Type} (l : List SV) (k : List SV → α) : withL l k = k l := by
  induction l generalizing k with
  | nil => rfl
  | cons b r ih => simp only [withL, ih]
def withO {α : Type} (l : List SO) (k : List SO → α) : α :=
  match l with
  | [] => k []
  | .dead :: r => withO r fun r => k (.dead :: r)
  | .cells wr l :: r => withY wr fun wr => withSs l fun l => withO r fun r => k (.cells wr l :: r)
theorem withO_eq {α : Type} (l : List SO) (k : List SO → α) : withO l k = k l := by
  induction l generalizing k with
  | nil => rfl
  | cons b r ih => cases b <;> simp only [withO, ih, withY_eq, withSs_eq]
def withC {α : Type} (c : Cnd) (k : Cnd → α) : α := c.force k
theorem withC_eq {α : Type} (c : Cnd) (k : Cnd → α) : withC c k = k c := c.force_eq k
def okS (tm : List SV) (dst : Option Tmp) (s : SV) (hp : List SO) (ans : List Bool) (c : Cnd) : Rr (List SV × List SO) :=
  withS s fun s => withL (putS tm dst s) fun tm => withC c fun c => .ok (tm, hp) ans c
def okM (tm : List SV) (dst : Option Tmp) (s : SV) (hp : List SO) (ans : List Bool) (c : Cnd) : Rr (List SV × List SO) :=
  withS s fun s => withL (putS tm dst s) fun tm => withO hp fun hp => withC c fun c => .ok (tm, hp) ans c
theorem okS_eq (tm : List SV) (dst : Option Tmp) (s : SV) (hp : List SO) (ans : List Bool) (c : Cnd) : okS tm dst s hp ans c = .ok (putS tm dst s, hp) ans c := by
  simp only [okS, withS_eq, withL_eq, withC_eq]
theorem okM_eq (tm : List SV) (dst : Option Tmp) (s : SV) (hp : List SO) (ans : List Bool) (c : Cnd) : okM tm dst s hp ans c = .ok (putS tm dst s, hp) ans c := by
  simp only [okM, withS_eq, withL_eq, withO_eq, withC_eq]

/-- One operation of a region. 'draw': its order is drawn. -/
def step1 (P : Program) (callf : CallF) (ops : Array Oper) (draw : Bool) (o : Oper) (tm : List SV) (hp : List SO) (ans : List Bool) : Rr (List SV × List SO) :=
  match settle tm (guardTmp ops o) ans with
  | .ask b => .ask b
  | .bad => .bad
  | .ok tm1 ans1 c1 =>
    match gd ops o tm1 with
    | none => .bad
    | some false => okS tm1 o.dst (.val undef) hp ans1 c1
    | some true =>
      match settle tm1 (pickTmp o) ans1 with
      | .ask b => .ask b
      | .bad => .bad
      | .ok tm2 ans2 c2 =>
        match sop P tm2 hp o with
        | .pure s c => okS tm2 o.dst s hp ans2 (c1.and (c2.and c))
        | .mem s hp' c => if draw then .bad else okM tm2 o.dst s hp' ans2 (c1.and (c2.and c))
        | .call f args =>
          match callf f args hp ans2 with
          | .ok (s, ho) ans3 c =>
            if draw then
              if (s.val?).isSome && ho.isNone then okS tm2 o.dst s hp ans3 (c1.and (c2.and c)) else .bad
            else okM tm2 o.dst s (ho.getD hp) ans3 (c1.and (c2.and c))
          | .ask b => .ask b
          | .bad => .bad
        | .bad => .bad

theorem step1_ok {P : Program} {callf : CallF} (hcf : CallOk P callf) {ops : Array Oper} {o : Oper} {tm tm' : List SV} {hp hp' : List SO} {ans ans' : List Bool} {c : Cnd}
    (h : step1 P callf ops false o tm hp ans = .ok (tm', hp') ans' c) (hc : c) {B : Nat} {η : Env} {a : Act} {w : World} (hvs : Rs η tm a.tmps.toList) (hr : HR B η hp w) (hB : B ≤ w.heap.size)
    {K : Act → World → Prop} {Q : Exit → Act → World → Prop}
    (hK : ∀ μ v w', Rs (η ++ μ) tm' (a.put o.dst v).tmps.toList → HR B (η ++ μ) hp' w' → Below B w w' → K (a.put o.dst v) w') :
    if Region.wanted o (yielded ops a.tmps) then o.wp P a w K Q else K (a.put o.dst undef) w := by
  simp only [step1, okS_eq, okM_eq] at h
  split at h
  · simp at h
  · simp at h
  · rename_i tm1 ans1 c1 h1
    split at h
    · simp at h
    · rename_i hg
      obtain ⟨pe, rfl, rfl⟩ := ok_inj h
      obtain ⟨rfl, rfl⟩ := Prod.mk.inj pe
      have e1 := settle_ok h1 hc hvs
      rw [gd_ok hg e1]
      have := hK [] undef w (by simpa using putS_ok o.dst e1 (by simp only [R])) (by simpa using hr) (Below.refl _ _)
      simpa using this
    · rename_i hg
      split at h
      · simp at h
      · simp at h
      · rename_i tm2 ans2 c2 h2
        have fin : c1 → c2 → OpOk P η hp (fun w => (execOp a.eval o).run P w) (sop P tm2 hp o) ∧ Rs η tm2 a.tmps.toList ∧ Region.wanted o (yielded ops a.tmps) = true := by
          intro k1 k2
          have e1 := settle_ok h1 k1 hvs
          have e2 := settle_ok h2 k2 e1
          exact ⟨sop_ok e2 o, e2, gd_ok hg e1⟩
        split at h
        · rename_i s cc hs
          obtain ⟨pe, rfl, rfl⟩ := ok_inj h
          obtain ⟨rfl, rfl⟩ := Prod.mk.inj pe
          obtain ⟨k1, k2, k3⟩ := hc.three
          obtain ⟨f1, f2, f3⟩ := fin k1 k2
          rw [hs] at f1
          obtain ⟨v, hR, hv⟩ := f1 k3 B w hr
          rw [f3]
          simp only [if_true, Oper.wp, hv, Oper.upon_value]
          exact hK [] v w (by simpa using putS_ok o.dst f2 hR) (by simpa using hr) (Below.refl _ _)
        · rename_i s hp1 cc hs
          obtain ⟨pe, rfl, rfl⟩ := ok_inj h
          obtain ⟨rfl, rfl⟩ := Prod.mk.inj pe
          obtain ⟨k1, k2, k3⟩ := hc.three
          obtain ⟨f1, f2, f3⟩ := fin k1 k2
          rw [hs] at f1
          obtain ⟨v, w', μ, hv, hR, hr', hb⟩ := f1 k3 B w hr hB
          rw [f3]
          simp only [if_true, Oper.wp]
          rcases hv with hv | ⟨hv, rfl⟩
          · simp only [hv, Oper.upon_value]
            exact hK μ v w' (putS_ok o.dst f2.ext hR) hr' hb
          · simp only [hv, Oper.upon_skip]
            exact hK μ undef w' (putS_ok o.dst f2.ext hR) hr' hb
        · rename_i f args hs
          split at h
          · rename_i s hp1 ans3 cc hcall
            obtain ⟨pe, rfl, rfl⟩ := ok_inj h
            obtain ⟨rfl, rfl⟩ := Prod.mk.inj pe
            obtain ⟨k1, k2, k3⟩ := hc.three
            obtain ⟨f1, f2, f3⟩ := fin k1 k2
            rw [hs] at f1
            obtain ⟨vs, hargs, hrun⟩ := f1
            obtain ⟨g1, g2⟩ := hcf _ _ _ _ _ _ _ _ hcall k3 B η w vs hr hB hargs
            rw [f3]
            simp only [if_true, Oper.wp, hrun, g1, Oper.upon_enter]
            refine g2.mono fun e w' hq => ?_
            obtain ⟨v, μ, rfl, hR, hr', hb⟩ := hq
            exact hK μ v w' (putS_ok o.dst f2.ext hR) hr' hb
          · simp at h
          · simp at h
        · simp at h

def opsR (P : Program) (callf : CallF) (ops : Array Oper) (draw : Bool) : List Oper → List SV → List SO → List Bool → Rr (List SV × List SO)
  | [], tm, hp, ans => .ok (tm, hp) ans .tt
  | o :: rest, tm, hp, ans =>
    match step1 P callf ops draw o tm hp ans with
    | .ok (tm', hp') ans' c =>
      match opsR P callf ops draw rest tm' hp' ans' with
      | .ok x ans'' c' => .ok x ans'' (c.and c')
      | .ask b => .ask b
      | .bad => .bad
    | .ask b => .ask b
    | .bad => .bad

/-- The frame and the memory, as told and as they are. -/
structure Sim (B : Nat) (w₀ : World) (η : Env) (tm : List SV) (hp : List SO) (a : Act) (w : World) : Prop where
  tm : Rs η tm a.tmps.toList
  df : a.defers = []
  hr : HR B η hp w
  below : Below B w₀ w
  hB : B ≤ w₀.heap.size
theorem Sim.size {B : Nat} {w₀ : World} {η : Env} {tm : List SV} {hp : List SO} {a : Act} {w : World} (h : Sim B w₀ η tm hp a w) : B ≤ w.heap.size := Nat.le_trans h.hB h.below.size

theorem opsR_ok {P : Program} {callf : CallF} (hcf : CallOk P callf) {ops : Array Oper} {Q : Exit → Act → World → Prop} : ∀ (l : List Oper) {tm tm' : List SV} {hp hp' : List SO} {ans ans' : List Bool} {c : Cnd},
    opsR P callf ops false l tm hp ans = .ok (tm', hp') ans' c → c → ∀ {B : Nat} {w₀ : World} {η : Env} {a : Act} {w : World}, Sim B w₀ η tm hp a w →
    (∀ μ a' w', Sim B w₀ (η ++ μ) tm' hp' a' w' → Q .normal a' w') → wpList P ops Q l a w
  | [], tm, tm', hp, hp', ans, ans', c, h, hc, B, w₀, η, a, w, hs, hQ => by
    simp [opsR] at h
    obtain ⟨⟨rfl, rfl⟩, _⟩ := h
    exact hQ [] a w (by simpa using hs)
  | o :: l, tm, tm', hp, hp', ans, ans', c, h, hc, B, w₀, η, a, w, hs, hQ => by
    simp only [opsR] at h
    split at h
    · rename_i tm1 hp1 ans1 c1 h1
      split at h
      · rename_i x ans2 c2 h2
        obtain ⟨rfl, rfl, rfl⟩ := ok_inj h
        refine wpList_step fun K hK => ?_
        refine step1_ok hcf h1 hc.l hs.tm hs.hr hs.size fun μ v w' e1 e2 e3 => hK _ _ ?_
        refine opsR_ok hcf l h2 hc.r (η := η ++ μ) (w₀ := w₀) (B := B) ⟨e1, by rw [put_defers]; exact hs.df, e2, hs.below.trans e3, hs.hB⟩ fun μ' a' w'' hsim => ?_
        exact hQ (μ ++ μ') a' w'' (by simpa using hsim)
      · simp at h
      · simp at h
    · simp at h
    · simp at h
end Go.Ex
