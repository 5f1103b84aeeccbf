/-
  Walks of functions, reckoned through, and what they give (part K08A). No condition beyond what each says. By an AI agent.
-/
import Derived.Test.YtaeokmojogekaaaDoorW06J
import Derived.Test.YtaeokmojogekaaaDoorW07a
import Derived.Test.YtaeokmojogekaaaDoorShelf
namespace Go.Proofs.YtaeokmojogekaaaDoor
open Go.Ex
open Go.RowKit (Below)
set_option linter.unusedVariables false
set_option maxRecDepth 1000000
/-- Two texts behind each other. -/
def catS (x y : SV) : SV :=
  match x, y with
  | .bts c a, .bts d b => .bts (c && d) (a ++ b)
  | x, .bts _ [] => x
  | x, y => match x.val?, y.val? with
    | some (.string a), some (.string b) => .val (.string (a ++ b))
    | _, _ => x
theorem app_nil (a : ByteArray) : a ++ (⟨([] : List UInt8).toArray⟩ : ByteArray) = a := by
  apply ByteArray.ext; simp
theorem catS_val {x y : SV} {a b : ByteArray} (hx : x.val? = some (.string a)) (hy : y.val? = some (.string b)) : (catS x y).val? = some (.string (a ++ b)) := by
  unfold catS
  split
  · simp only [SV.val?, Option.some.injEq, Value.string.injEq] at hx hy ⊢
    subst hx; subst hy
    rw [ByteArray.mk_append_mk]
  · simp only [SV.val?, Option.some.injEq, Value.string.injEq] at hy
    subst hy
    rw [app_nil]; exact hx
  · rw [hx, hy]; rfl
/-- The texts. -/
def textsOf : List SV → Option (List ByteArray)
  | [] => some []
  | s :: l => match s.val?, textsOf l with
    | some (.string x), some r => some (x :: r)
    | _, _ => none
def sumT : List ByteArray → List UInt8
  | [] => []
  | x :: r => x.data.toList ++ sumT r
theorem join_sum : ∀ (xs : List ByteArray), Lib.join (xs.map (·.data.toList)) [] = sumT xs := by
  have tail : ∀ (xs : List ByteArray), Lib.joinTail [] (xs.map (·.data.toList)) = sumT xs := by
    intro xs
    induction xs with
    | nil => rfl
    | cons x r ih => unfold Lib.joinTail at ih ⊢; simp only [List.map_cons, List.flatten_cons, List.nil_append, sumT] at ih ⊢; rw [ih]
  intro xs
  cases xs with
  | nil => rfl
  | cons x r => rw [List.map_cons, Lib.join_cons, tail]; rfl
theorem fold_cat : ∀ (l : List SV) (xs : List ByteArray) (x : SV) (a : ByteArray), textsOf l = some xs → x.val? = some (.string a) →
    (l.foldl catS x).val? = some (.string ⟨(a.data.toList ++ sumT xs).toArray⟩)
  | [], xs, x, a, h, hx => by
    simp only [textsOf, Option.some.injEq] at h; subst h
    rw [List.foldl_nil, hx]; simp [sumT]
  | s :: l, xs, x, a, h, hx => by
    simp only [textsOf] at h
    split at h
    · rename_i y r hy hr
      simp only [Option.some.injEq] at h; subst h
      rw [List.foldl_cons, fold_cat l r _ _ hr (catS_val hx hy)]
      simp [sumT, List.append_assoc]
    · simp at h
/-- strings.Join, with nothing between. -/
def joinG (args : List SV) (hp : List SO) : Option (SV × Cnd) :=
  match args with
  | [.slc k off n cap, .bts _ []] =>
    match hp[k]? with
    | some o => match o.told with
      | some l => if n ≤ cap ∧ n ≤ 1000 ∧ ((l.drop off).take n).length = n then (match textsOf ((l.drop off).take n) with
          | some _ => (match ((l.drop off).take n).foldl catS (.bts true []) with
            | .bts c t => if t.length ≤ 140737488355328 then some (.bts c t, .tt) else none
            | s => match s.val? with
              | some (.string a) => some (s, .pr (a.size ≤ 140737488355328))
              | _ => none)
          | none => none) else none
      | none => none
    | none => none
  | _ => none
theorem textsOf_get : ∀ {l : List SV} {xs : List ByteArray}, textsOf l = some xs → xs.length = l.length ∧ ∀ (j : Nat) (x : ByteArray), xs[j]? = some x → ∃ s : SV, l[j]? = some s ∧ s.val? = some (.string x)
  | [], xs, h => by simp only [textsOf, Option.some.injEq] at h; subst h; exact ⟨rfl, by simp⟩
  | s :: l, xs, h => by
    simp only [textsOf] at h
    split at h
    · rename_i y r hy hr
      simp only [Option.some.injEq] at h; subst h
      obtain ⟨h1, h2⟩ := textsOf_get hr
      refine ⟨by simp [h1], fun j x hj => ?_⟩
      cases j with
      | zero => simp at hj; subst hj; exact ⟨s, rfl, hy⟩
      | succ j => simp at hj; obtain ⟨s', e1, e2⟩ := h2 j x hj; exact ⟨s', by simpa using e1, e2⟩
    · simp at h
theorem joinG_ok : ∀ args hp s c, joinG args hp = some (s, c) → c.Is → ∀ (B : Nat) (η : Env) (w : World) (vs : List Value), HR B η hp w → Rs η args vs →
    Calls Tryd.prog 62 vs.toArray w (fun e w' => ∃ v, e = .returned v ∧ R [] s v ∧ Below w.heap.size w w') := by
  intro args hp s c hg hc B η w vs hr hv
  unfold joinG at hg
  split at hg
  · rename_i k off n cap tt
    split at hg
    · rename_i o ho
      split at hg
      · rename_i l hl
        split at hg
        · rename_i hn
          split at hg
          · rename_i xs hxs
            obtain ⟨v1, r1, rfl, h1, hr1⟩ := hv.cons_inv
            obtain ⟨v2, r2, rfl, h2, hr2⟩ := hr1.cons_inv
            simp only [Rs] at hr2; subst hr2
            simp only [R] at h1 h2
            subst h2
            obtain ⟨wr, hrow⟩ := SO.told_row hl
            obtain ⟨b, ob, e1, e2, e3, e4⟩ := (hr.blk k o ho).1 wr l hrow
            obtain ⟨b', ob', f1, rfl⟩ := h1
            rw [e1] at f1
            simp only [Option.some.injEq, Value.pointer.injEq, Addr.mk.injEq, and_true] at f1
            obtain ⟨rfl, rfl⟩ := f1
            obtain ⟨g1, g2⟩ := textsOf_get hxs
            rw [hn.2.2] at g1
            have hsum := fold_cat _ _ (.bts true []) ⟨([] : List UInt8).toArray⟩ hxs rfl
            have hjoin : Lib.join (xs.map (·.data.toList)) (⟨([] : List UInt8).toArray⟩ : ByteArray).data.toList = sumT xs := join_sum xs
            have cells : ∀ (j : Nat) x, xs[j]? = some x → w.cell? ⟨b, ob + off + j, none⟩ = some (.string x) := by
              intro j x hj
              obtain ⟨s', q1, q2⟩ := g2 j x hj
              have hjn : j < n := by
                have := (List.getElem?_eq_some_iff.1 hj).1
                omega
              rw [List.getElem?_take_of_lt hjn, List.getElem?_drop] at q1
              obtain ⟨⟨v, q3, q4, _⟩, _⟩ := e4 (off + j) s' q1
              rw [Nat.add_assoc, q3, SV.val?_R q2 q4]
            have main : (sumT xs).length ≤ 140737488355328 → Calls Tryd.prog 62 #[.slice (some ⟨b, ob + off, none⟩) n cap, .string ⟨([] : List UInt8).toArray⟩] w fun e w' => e = .returned (.string ⟨(sumT xs).toArray⟩) ∧ Below w.heap.size w w' := by
              intro hlen
              have := Tryd.strings_Join b (ob + off) cap xs ⟨([] : List UInt8).toArray⟩ w cells e2 (by omega) (by omega) (by rw [hjoin]; exact hlen)
              rw [hjoin, g1] at this
              exact this
            simp only [List.nil_append] at hsum
            split at hg
            · rename_i c' t he
              split at hg
              · rename_i hlt
                simp only [Option.some.injEq, Prod.mk.injEq] at hg
                obtain ⟨rfl, rfl⟩ := hg
                rw [he] at hsum
                simp only [SV.val?, Option.some.injEq, Value.string.injEq, ByteArray.mk.injEq] at hsum
                have ht : t = sumT xs := by have := congrArg Array.toList hsum; simpa using this
                subst ht
                refine (main hlt).mono fun e w' ⟨q1, q2⟩ => ⟨_, q1, by simp only [R], q2⟩
              · simp at hg
            · split at hg
              · rename_i a ha
                simp only [Option.some.injEq, Prod.mk.injEq] at hg
                obtain ⟨rfl, rfl⟩ := hg
                rw [ha] at hsum
                simp only [Option.some.injEq, Value.string.injEq] at hsum
                simp only [Cnd.Is] at hc
                have hlt : (sumT xs).length ≤ 140737488355328 := by
                  rw [hsum, size_mk] at hc
                  simpa using hc
                refine (main hlt).mono fun e w' ⟨q1, q2⟩ => ⟨_, q1, SV.R_val? ?_, q2⟩
                rw [ha, hsum]
              · simp at hg
          · simp at hg
        · simp at hg
      · simp at hg
    · simp at hg
  · simp at hg
noncomputable def joinC : Con Tryd.prog := Con.oneH 62 joinG joinG_ok
noncomputable def X : Cx := conned joinC
/-! ### codes (hmac), of told keys and texts -/
def mixB (k : Int) (c : UInt8) : UInt8 := UInt8.ofNat (IntKind.u8.wrap ((BitVec.ofInt IntKind.u8.bits (c.toNat : Int) ^^^ BitVec.ofInt IntKind.u8.bits k).toNat : Int)).toNat
def mixL (k : Int) (l : List UInt8) : List UInt8 := l.map (mixB k) ++ List.replicate (64 - l.length) (UInt8.ofNat (Int.toNat k))
def idB (b : UInt8) : UInt8 := UInt8.ofNat (Int.toNat (b.toNat : Int))
def hmI (k t : List UInt8) : ByteArray := ⟨(mixL 54 k ++ t.map idB).toArray⟩
def dgL (w : List Int) : List UInt8 := (List.range 32).map fun i => UInt8.ofNat (Int.toNat (dB w i))
def hmO (k : List UInt8) (w : List Int) : ByteArray := ⟨(mixL 92 k ++ (dgL w).map idB).toArray⟩
def hmR (S : ByteArray → List Int) (k t : List UInt8) : List Int := S (hmO k (S (hmI k t)))
noncomputable def hmP (q : Sh) (k t : List UInt8) : Prop :=
  givesV (topR (rawX q (sumG q)) (run (rawX q (sumG q)) 80) 21 [.bts false k, .bts false t] [globS] []) (dgS (hmR q.S k t)) [P9 (hmI k t) 0 glL, P9 (hmO k (q.S (hmI k t))) 0 glL]
theorem hm_16_8 (q : Sh) (a0 a1 a2 a3 a4 a5 a6 a7 a8 a9 a10 a11 a12 a13 a14 a15 b0 b1 b2 b3 b4 b5 b6 b7 : UInt8) : hmP q [a0, a1, a2, a3, a4, a5, a6, a7, a8, a9, a10, a11, a12, a13, a14, a15] [b0, b1, b2, b3, b4, b5, b6, b7] := by
  unfold hmP givesV; kernel_rfl
theorem hml_16_8 (q : Sh) (k t : List UInt8) (hk : k.length = 16) (ht : t.length = 8) : hmP q k t :=
  match k, hk, t, ht with
  | a0 :: a1 :: a2 :: a3 :: a4 :: a5 :: a6 :: a7 :: a8 :: a9 :: a10 :: a11 :: a12 :: a13 :: a14 :: a15 :: [], _, b0 :: b1 :: b2 :: b3 :: b4 :: b5 :: b6 :: b7 :: [], _ => hm_16_8 q a0 a1 a2 a3 a4 a5 a6 a7 a8 a9 a10 a11 a12 a13 a14 a15 b0 b1 b2 b3 b4 b5 b6 b7
theorem hm_16_7 (q : Sh) (a0 a1 a2 a3 a4 a5 a6 a7 a8 a9 a10 a11 a12 a13 a14 a15 b0 b1 b2 b3 b4 b5 b6 : UInt8) : hmP q [a0, a1, a2, a3, a4, a5, a6, a7, a8, a9, a10, a11, a12, a13, a14, a15] [b0, b1, b2, b3, b4, b5, b6] := by
  unfold hmP givesV; kernel_rfl
theorem hml_16_7 (q : Sh) (k t : List UInt8) (hk : k.length = 16) (ht : t.length = 7) : hmP q k t :=
  match k, hk, t, ht with
  | a0 :: a1 :: a2 :: a3 :: a4 :: a5 :: a6 :: a7 :: a8 :: a9 :: a10 :: a11 :: a12 :: a13 :: a14 :: a15 :: [], _, b0 :: b1 :: b2 :: b3 :: b4 :: b5 :: b6 :: [], _ => hm_16_7 q a0 a1 a2 a3 a4 a5 a6 a7 a8 a9 a10 a11 a12 a13 a14 a15 b0 b1 b2 b3 b4 b5 b6
/-! ### contracts, their results named -/
theorem mixL_len (k : Int) (l : List UInt8) (h : l.length ≤ 64) : (mixL k l).length = 64 := by
  unfold mixL; rw [List.length_append, List.length_map, List.length_replicate]; omega
theorem baS (l : List UInt8) : (⟨l.toArray⟩ : ByteArray).size = l.length := by show l.toArray.size = _; simp
theorem hm_call (k t : List UInt8) (hk : k.length = 16) (ht : t.length = 8 ∨ t.length = 7) {B : Nat} {η : Env} {hp : List SO} {j : Nat} {w : World} {vs : List Value} (hr : HR B η hp w) (hj : hp[j]? = some globS) (hargs : Rs [] [.bts false k, .bts false t] vs) :
    Calls Tryd.prog 21 vs.toArray w (fun e w' => ∃ v, e = .returned v ∧ R [] (dgS (hmR shL.S k t)) v ∧ Below w.heap.size w w') := by
  obtain ⟨v, hv⟩ := HR.glob hr hj (by decide)
  have hp : hmP shL k t := by
    rcases ht with h | h
    · exact hml_16_8 shL k t hk h
    · exact hml_16_7 shL k t hk h
  have p1 : P9 (hmI k t) 0 glL := ⟨by unfold hmI; rw [baS, List.length_append, mixL_len _ _ (by omega), List.length_map]; omega, rfl, rfl⟩
  have p2 : P9 (hmO k (shL.S (hmI k t))) 0 glL := ⟨by unfold hmO; rw [baS, List.length_append, mixL_len _ _ (by omega), List.length_map]; unfold dgL; rw [List.length_map, List.length_range]; omega, rfl, rfl⟩
  exact callsV (X := rawX shL (sumG shL)) rfl (rawX_ct shL_F sumG_ok) (rawX_lp _ _) 80 hp ⟨p1, p2, trivial⟩ (dgS_free _) (hv _) (Rs.free _ _ rfl hargs)
def PS (t t0 : ByteArray) (w : List Int) (g : Nat) (gl : List SV) : Prop := t = t0 ∧ t0.size ≤ 9223372036854775807 ∧ shL.S t0 = w ∧ g = 0 ∧ gl = glL
noncomputable def sumW (w : List Int) (t0 : ByteArray) : Raw := fun f args hp =>
  if f = 23 then
    match args with
    | [tv] =>
      match hp with
      | .glob g gl :: _ =>
        match tv.val? with
        | some (.string t) => some (dgS w, .pr (PS t t0 w g gl))
        | _ => none
      | _ => none
    | _ => none
  else none
theorem sumW_ok (w : List Int) (t0 : ByteArray) : (sumW w t0).Ok := by
  intro f args hp s c h hc B η w' vs hr hargs
  unfold sumW at h
  split at h
  · rename_i hf; subst hf
    split at h
    · rename_i tv
      split at h
      · rename_i g gl r
        split at h
        · rename_i t ht
          simp only [Option.some.injEq, Prod.mk.injEq] at h
          obtain ⟨rfl, rfl⟩ := h
          obtain ⟨rfl, h1, rfl, rfl, rfl⟩ := hc
          refine call9 t h1 hr (k := 0) rfl ?_
          obtain ⟨a, x, rfl, g1, g2⟩ := hargs.cons_inv
          simp only [Rs] at g2; subst g2
          exact Rs.cons (by simp only [R]; exact SV.val?_R ht g1) Rs.nil
        · simp at h
      · simp at h
    · simp at h
  · simp at h
def PH (k k0 t t0 : ByteArray) (v : List Int) (g : Nat) (gl : List SV) : Prop := k = k0 ∧ t = t0 ∧ k0.size = 16 ∧ (t0.size = 8 ∨ t0.size = 7) ∧ hmR shL.S k0.data.toList t0.data.toList = v ∧ g = 0 ∧ gl = glL
/-- Codes, by how long the text is. -/
noncomputable def hmW (h : Nat → Option (List Int × ByteArray × ByteArray)) : Raw := fun f args hp =>
  if f = 21 then
    match args with
    | [kv, .bts b tl] =>
      match hp with
      | .glob g gl :: _ =>
        match kv.val?, h tl.length with
        | some (.string k), some (v, k0, t0) => some (dgS v, .pr (PH k k0 ⟨tl.toArray⟩ t0 v g gl))
        | _, _ => none
      | _ => none
    | _ => none
  else none
theorem hmW_ok (h : Nat → Option (List Int × ByteArray × ByteArray)) : (hmW h).Ok := by
  intro f args hp s c hh hc B η w' vs hr hargs
  unfold hmW at hh
  split at hh
  · rename_i hf; subst hf
    split at hh
    · rename_i kv b tl
      split at hh
      · rename_i g gl r
        split at hh
        · rename_i k v k0 t0 hk h0
          simp only [Option.some.injEq, Prod.mk.injEq] at hh
          obtain ⟨rfl, rfl⟩ := hh
          obtain ⟨rfl, rfl, h1, h2, rfl, rfl, rfl⟩ := hc
          refine hm_call k.data.toList tl h1 (by rw [baS] at h2; exact h2) hr (j := 0) rfl ?_
          obtain ⟨a, x, rfl, g1, g2⟩ := hargs.cons_inv
          obtain ⟨a2, x2, rfl, g3, g4⟩ := g2.cons_inv
          simp only [Rs] at g4; subst g4
          have e1 := SV.val?_R hk g1
          refine Rs.cons (by simp only [R]; exact e1) (Rs.cons (by simpa only [R] using g3) Rs.nil)
        · simp at hh
      · simp at hh
    · simp at hh
  · simp at hh
noncomputable def joinR : Raw := fun f args hp => if f = 62 then joinG args hp else none
theorem joinR_ok : joinR.Ok := by
  intro f args hp s c h hc B η w vs hr hargs
  unfold joinR at h
  split at h
  · rename_i hf; subst hf
    exact joinG_ok args hp s c h hc B η w vs hr hargs
  · simp at h
def globHead : List SO → Bool
  | .glob _ _ :: _ => true
  | _ => false
/-- These are not reckoned without the package's variable. -/
noncomputable def guardX (fs : List FuncId) (X : Cx) : Cx :=
  ⟨X.P, fun f args hp => if fs.contains f && !globHead hp then some (.hdl 0, none, .pr False) else X.ct f args hp, X.lp⟩
theorem guardX_ct {fs : List FuncId} {X : Cx} (h : CtOk X) : CtOk (guardX fs X) := by
  intro f args hp s ho c hh hc
  simp only [guardX] at hh
  split at hh
  · simp only [Option.some.injEq, Prod.mk.injEq] at hh
    obtain ⟨_, _, rfl⟩ := hh
    exact absurd hc (by intro h; exact h)
  · exact h f args hp s ho c hh hc
theorem guardX_lp {fs : List FuncId} {X : Cx} (h : LpOk X) : LpOk (guardX fs X) := h
noncomputable def hmX (g : Raw) : Cx := guardX [23, 21, 25, 12, 14] (rawP g)
theorem hmX_ct {g : Raw} (hg : g.Ok) : CtOk (hmX g) := guardX_ct (rawP_ct hg)
theorem hmX_lp (g : Raw) : LpOk (hmX g) := guardX_lp (rawP_lp g)
def eqDg (a b : List Int) : Bool := (List.range 32).foldr (fun i r => (dB a i == dB b i) && r) true
theorem eqDg_self (a : List Int) : eqDg a a = true := by
  unfold eqDg
  generalize List.range 32 = l
  induction l with
  | nil => rfl
  | cons x l ih => simp only [List.foldr_cons, ih]; simp
/-! ### bytes of numbers, and numbers of bytes -/
def ba (l : List UInt8) : ByteArray := ⟨l.toArray⟩
def byB (w : List Int) (i : Nat) : UInt8 := UInt8.ofNat (dB w i).toNat
def nxB (n : Int) (b : UInt8) : Int := IntKind.u64.wrap ((BitVec.ofInt IntKind.u64.bits (IntKind.u64.wrap (n * 2 ^ min (Int.toNat 8) IntKind.u64.bits)) ||| BitVec.ofInt IntKind.u64.bits (IntKind.u64.wrap (b.toNat : Int))).toNat : Int)
def tokW (w : List Int) : Int := IntKind.u32.wrap (nxB (nxB (nxB (nxB 0 (byB w 0)) (byB w 1)) (byB w 2)) (byB w 3))
def idsW (w : List Int) : Int := nxB (nxB (nxB (nxB (nxB (nxB (nxB (nxB 0 (byB w 24)) (byB w 25)) (byB w 26)) (byB w 27)) (byB w 28)) (byB w 29)) (byB w 30)) (byB w 31)
def shB (n : Int) : Int := n.fdiv (2 ^ min (Int.toNat 8) IntKind.u64.bits)
def bb (n : Int) : UInt8 := UInt8.ofNat (IntKind.u8.wrap n).toNat
def bs8 (n : Int) : List UInt8 := [bb (shB (shB (shB (shB (shB (shB (shB n))))))), bb (shB (shB (shB (shB (shB (shB n)))))), bb (shB (shB (shB (shB (shB n))))), bb (shB (shB (shB (shB n)))), bb (shB (shB (shB n))), bb (shB (shB n)), bb (shB n), bb n]
def bs4 (a : Int) : List UInt8 := [bb (shB (shB (shB (IntKind.u64.wrap a)))), bb (shB (shB (IntKind.u64.wrap a))), bb (shB (IntKind.u64.wrap a)), bb (IntKind.u64.wrap a)]
def byL (w : List Int) (i n : Nat) : ByteArray := ba ((List.range n).map fun j => byB w (i + j))
theorem nxB_eq (n : Int) (b : UInt8) (h0 : 0 ≤ n) (h : n < 72057594037927936) : nxB n b = n * 256 + b.toNat := by
  have hb : b.toNat < 256 := b.toNat_lt
  obtain ⟨x, rfl⟩ := Int.eq_ofNat_of_zero_le h0
  unfold nxB
  have e1 : IntKind.u64.wrap ((x : Int) * 2 ^ min (Int.toNat 8) IntKind.u64.bits) = ((x * 256 : Nat) : Int) := by
    rw [show (2 : Int) ^ min (Int.toNat 8) IntKind.u64.bits = 256 from rfl, wu64]; omega
  have e2 : IntKind.u64.wrap (b.toNat : Int) = ((b.toNat : Nat) : Int) := by rw [wu64]; omega
  rw [e1, e2]
  show IntKind.u64.wrap ((BitVec.ofInt 64 ((x * 256 : Nat) : Int) ||| BitVec.ofInt 64 ((b.toNat : Nat) : Int)).toNat : Int) = _
  rw [BitVec.ofInt_natCast, BitVec.ofInt_natCast, BitVec.toNat_or, BitVec.toNat_ofNat, BitVec.toNat_ofNat, Nat.mod_eq_of_lt (by omega), Nat.mod_eq_of_lt (by omega)]
  have e3 : x * 256 ||| b.toNat = x * 256 + b.toNat := by
    have := Nat.two_pow_add_eq_or_of_lt (i := 8) (b := b.toNat) hb x
    rw [Nat.mul_comm x 256]
    simpa using this.symm
  rw [e3, wu64]; omega
theorem bb_eq (z : Int) (x : UInt8) (h : z % 256 = x.toNat) : bb z = x := by
  unfold bb
  rw [wu8, h]
  simp
theorem shB_eq (n : Int) (h : 0 ≤ n) : shB n = n / 256 := by
  unfold shB
  rw [show (2 : Int) ^ min (Int.toNat 8) IntKind.u64.bits = 256 from rfl, Int.fdiv_eq_ediv_of_nonneg _ (by decide)]
theorem num4 (a b c d : UInt8) : nxB (nxB (nxB (nxB 0 a) b) c) d = ((a.toNat * 256 + b.toNat) * 256 + c.toNat) * 256 + d.toNat := by
  have ha := a.toNat_lt
  have hb := b.toNat_lt
  have hc := c.toNat_lt
  have hd := d.toNat_lt
  have h1 : nxB 0 a = a.toNat := by rw [nxB_eq 0 a (by omega) (by omega)]; omega
  rw [h1, nxB_eq _ b (by omega) (by omega), nxB_eq _ c (by omega) (by omega), nxB_eq _ d (by omega) (by omega)]
theorem bs4_num (a b c d : UInt8) : bs4 (IntKind.u32.wrap (nxB (nxB (nxB (nxB 0 a) b) c) d)) = [a, b, c, d] := by
  have ha := a.toNat_lt
  have hb := b.toNat_lt
  have hc := c.toNat_lt
  have hd := d.toNat_lt
  rw [num4]
  have e1 : IntKind.u64.wrap (IntKind.u32.wrap (((a.toNat * 256 + b.toNat) * 256 + c.toNat) * 256 + d.toNat : Int)) = (((a.toNat * 256 + b.toNat) * 256 + c.toNat) * 256 + d.toNat : Int) := by
    rw [wu32, wu64]; omega
  unfold bs4
  rw [e1]
  generalize hN : (((a.toNat * 256 + b.toNat) * 256 + c.toNat) * 256 + d.toNat : Int) = N
  have q0 : 0 ≤ N := by omega
  have s1 : shB N = N / 256 := shB_eq _ q0
  have s2 : shB (N / 256) = N / 256 / 256 := shB_eq _ (by omega)
  have s3 : shB (N / 256 / 256) = N / 256 / 256 / 256 := shB_eq _ (by omega)
  rw [s1, s2, s3]
  rw [bb_eq _ a (by omega), bb_eq _ b (by omega), bb_eq _ c (by omega), bb_eq _ d (by omega)]
theorem num8 (a b c d e f g h : UInt8) : nxB (nxB (nxB (nxB (nxB (nxB (nxB (nxB 0 a) b) c) d) e) f) g) h = ((((((a.toNat * 256 + b.toNat) * 256 + c.toNat) * 256 + d.toNat) * 256 + e.toNat) * 256 + f.toNat) * 256 + g.toNat) * 256 + h.toNat := by
  have ha := a.toNat_lt
  have hb := b.toNat_lt
  have hc := c.toNat_lt
  have hd := d.toNat_lt
  have he := e.toNat_lt
  have hf := f.toNat_lt
  have hg := g.toNat_lt
  have hh := h.toNat_lt
  rw [num4, nxB_eq _ e (by omega) (by omega), nxB_eq _ f (by omega) (by omega), nxB_eq _ g (by omega) (by omega), nxB_eq _ h (by omega) (by omega)]
theorem bs8_num (a b c d e f g h : UInt8) : bs8 (nxB (nxB (nxB (nxB (nxB (nxB (nxB (nxB 0 a) b) c) d) e) f) g) h) = [a, b, c, d, e, f, g, h] := by
  have ha := a.toNat_lt
  have hb := b.toNat_lt
  have hc := c.toNat_lt
  have hd := d.toNat_lt
  have he := e.toNat_lt
  have hf := f.toNat_lt
  have hg := g.toNat_lt
  have hh := h.toNat_lt
  rw [num8]
  unfold bs8
  generalize hN : (((((((a.toNat * 256 + b.toNat) * 256 + c.toNat) * 256 + d.toNat) * 256 + e.toNat) * 256 + f.toNat) * 256 + g.toNat) * 256 + h.toNat : Int) = N
  have q0 : 0 ≤ N := by omega
  have s1 : shB N = N / 256 := shB_eq _ q0
  have s2 : shB (N / 256) = N / 256 / 256 := shB_eq _ (by omega)
  have s3 : shB (N / 256 / 256) = N / 256 / 256 / 256 := shB_eq _ (by omega)
  have s4 : shB (N / 256 / 256 / 256) = N / 256 / 256 / 256 / 256 := shB_eq _ (by omega)
  have s5 : shB (N / 256 / 256 / 256 / 256) = N / 256 / 256 / 256 / 256 / 256 := shB_eq _ (by omega)
  have s6 : shB (N / 256 / 256 / 256 / 256 / 256) = N / 256 / 256 / 256 / 256 / 256 / 256 := shB_eq _ (by omega)
  have s7 : shB (N / 256 / 256 / 256 / 256 / 256 / 256) = N / 256 / 256 / 256 / 256 / 256 / 256 / 256 := shB_eq _ (by omega)
  rw [s1, s2, s3, s4, s5, s6, s7]
  rw [bb_eq _ a (by omega), bb_eq _ b (by omega), bb_eq _ c (by omega), bb_eq _ d (by omega), bb_eq _ e (by omega), bb_eq _ f (by omega), bb_eq _ g (by omega), bb_eq _ h (by omega)]
theorem front_eq (w : List Int) : byL w 0 4 = ba (bs4 (tokW w)) := by
  unfold tokW; rw [bs4_num]; rfl
theorem end_eq (w : List Int) : byL w 24 8 = ba (bs8 (idsW w)) := by
  unfold idsW; rw [bs8_num]; rfl
/-! ### Mac, Token, Idsn -/
def PM (n m a b : Int) (k0 m0 : ByteArray) (v : List Int) (g : Nat) (gl : List SV) : Prop := ba (bs8 n ++ bs8 m) = k0 ∧ ba (bs4 a ++ bs4 b) = m0 ∧ hmR shL.S k0.data.toList m0.data.toList = v ∧ g = 0 ∧ gl = glL
def PT (n : Int) (t0 : ByteArray) (w : List Int) (g : Nat) (gl : List SV) : Prop := ba (bs8 n) = t0 ∧ shL.S t0 = w ∧ g = 0 ∧ gl = glL
noncomputable def mc8 (v : List Int) (k0 m0 : ByteArray) : Raw := (hmW fun n => if n = 8 then some (v, k0, m0) else none).or joinR
theorem mac_gives (v : List Int) (k0 m0 : ByteArray) (n m a b : Int) : givesV (topR (hmX (mc8 v k0 m0)) (run (hmX (mc8 v k0 m0)) 80) 25 [.val (.int .u64 n), .val (.int .u64 m), .val (.int .u32 a), .val (.int .u32 b)] [globS] []) (dgS v) [PH (ba (bs8 n ++ bs8 m)) k0 (ba (bs4 a ++ bs4 b)) m0 v 0 glL] := by
  unfold givesV; kernel_rfl
theorem tok_gives (w : List Int) (t0 : ByteArray) (n : Int) : givesV (topR (hmX (sumW w t0)) (run (hmX (sumW w t0)) 80) 12 [.val (.int .u64 n)] [globS] []) (.val (.int .u32 (tokW w))) [PS (ba (bs8 n)) t0 w 0 glL] := by
  unfold givesV; kernel_rfl
theorem ids_gives (w : List Int) (t0 : ByteArray) (n : Int) : givesV (topR (hmX (sumW w t0)) (run (hmX (sumW w t0)) 80) 14 [.val (.int .u64 n)] [globS] []) (.val (.int .u64 (idsW w))) [PS (ba (bs8 n)) t0 w 0 glL] := by
  unfold givesV; kernel_rfl
theorem bs8_len (n : Int) : (bs8 n).length = 8 := rfl
theorem call25 (n m a b : Int) {B : Nat} {η : Env} {hp : List SO} {k : Nat} {w : World} {vs : List Value} (hr : HR B η hp w) (hk : hp[k]? = some globS) (hargs : Rs [] [.val (.int .u64 n), .val (.int .u64 m), .val (.int .u32 a), .val (.int .u32 b)] vs) :
    Calls Tryd.prog 25 vs.toArray w (fun e w' => ∃ v, e = .returned v ∧ R [] (dgS (hmR shL.S (bs8 n ++ bs8 m) (bs4 a ++ bs4 b))) v ∧ Below w.heap.size w w') := by
  obtain ⟨v, hv⟩ := HR.glob hr hk (by decide)
  exact callsV (X := hmX _) rfl (hmX_ct (Raw.or_ok (hmW_ok _) joinR_ok)) (hmX_lp _) 80 (mac_gives _ (ba (bs8 n ++ bs8 m)) (ba (bs4 a ++ bs4 b)) n m a b) ⟨⟨rfl, rfl, rfl, .inl rfl, rfl, rfl, rfl⟩, trivial⟩ (dgS_free _) (hv _) (Rs.free _ _ rfl hargs)
theorem call12 (n : Int) {B : Nat} {η : Env} {hp : List SO} {k : Nat} {w : World} {vs : List Value} (hr : HR B η hp w) (hk : hp[k]? = some globS) (hargs : Rs [] [.val (.int .u64 n)] vs) :
    Calls Tryd.prog 12 vs.toArray w (fun e w' => ∃ v, e = .returned v ∧ R [] (.val (.int .u32 (tokW (shL.S (ba (bs8 n)))))) v ∧ Below w.heap.size w w') := by
  obtain ⟨v, hv⟩ := HR.glob hr hk (by decide)
  exact callsV (X := hmX _) rfl (hmX_ct (sumW_ok _ _)) (hmX_lp _) 80 (tok_gives _ (ba (bs8 n)) n) ⟨⟨rfl, by unfold ba; rw [baS, bs8_len]; omega, rfl, rfl, rfl⟩, trivial⟩ rfl (hv _) (Rs.free _ _ rfl hargs)
theorem call14i (n : Int) {B : Nat} {η : Env} {hp : List SO} {k : Nat} {w : World} {vs : List Value} (hr : HR B η hp w) (hk : hp[k]? = some globS) (hargs : Rs [] [.val (.int .u64 n)] vs) :
    Calls Tryd.prog 14 vs.toArray w (fun e w' => ∃ v, e = .returned v ∧ R [] (.val (.int .u64 (idsW (shL.S (ba (bs8 n)))))) v ∧ Below w.heap.size w w') := by
  obtain ⟨v, hv⟩ := HR.glob hr hk (by decide)
  exact callsV (X := hmX _) rfl (hmX_ct (sumW_ok _ _)) (hmX_lp _) 80 (ids_gives _ (ba (bs8 n)) n) ⟨⟨rfl, by unfold ba; rw [baS, bs8_len]; omega, rfl, rfl, rfl⟩, trivial⟩ rfl (hv _) (Rs.free _ _ rfl hargs)
noncomputable def macG (v : List Int) (k0 m0 : ByteArray) : Raw := fun f args hp =>
  if f = 25 then
    match args, hp with
    | [x, y, z, t], .glob g gl :: _ =>
      match x.val?, y.val?, z.val?, t.val? with
      | some (.int .u64 n), some (.int .u64 m), some (.int .u32 a), some (.int .u32 b) => some (dgS v, .pr (PM n m a b k0 m0 v g gl))
      | _, _, _, _ => none
    | _, _ => none
  else none
theorem macG_ok (v : List Int) (k0 m0 : ByteArray) : (macG v k0 m0).Ok := by
  intro f args hp s c h hc B η w vs hr hargs
  unfold macG at h
  split at h
  · rename_i hf; subst hf
    split at h
    · rename_i x y z t g gl r
      split at h
      · rename_i n m a b h1 h2 h3 h4
        simp only [Option.some.injEq, Prod.mk.injEq] at h
        obtain ⟨rfl, rfl⟩ := h
        obtain ⟨rfl, rfl, rfl, rfl, rfl⟩ := hc
        refine call25 n m a b hr (k := 0) rfl ?_
        obtain ⟨v0, r0, rfl, g0, k0⟩ := hargs.cons_inv
        obtain ⟨v1, r1, rfl, g1, k1⟩ := k0.cons_inv
        obtain ⟨v2, r2, rfl, g2, k2⟩ := k1.cons_inv
        obtain ⟨v3, r3, rfl, g3, k3⟩ := k2.cons_inv
        simp only [Rs] at k3; subst k3
        exact Rs.cons (by simp only [R]; exact SV.val?_R h1 g0) (Rs.cons (by simp only [R]; exact SV.val?_R h2 g1) (Rs.cons (by simp only [R]; exact SV.val?_R h3 g2) (Rs.cons (by simp only [R]; exact SV.val?_R h4 g3) Rs.nil)))
      · simp at h
    · simp at h
  · simp at h
noncomputable def tokG (w : List Int) (t0 : ByteArray) : Raw := fun f args hp =>
  match args, hp with
  | [x], .glob g gl :: _ =>
    match x.val? with
    | some (.int .u64 n) => if f = 12 then some (.val (.int .u32 (tokW w)), .pr (PT n t0 w g gl)) else if f = 14 then some (.val (.int .u64 (idsW w)), .pr (PT n t0 w g gl)) else none
    | _ => none
  | _, _ => none
theorem tokG_ok (w : List Int) (t0 : ByteArray) : (tokG w t0).Ok := by
  intro f args hp s c h hc B η w' vs hr hargs
  unfold tokG at h
  split at h
  · rename_i x g gl r
    split at h
    · rename_i n hx
      have ha : Rs [] [.val (.int .u64 n)] vs := by
        obtain ⟨v0, r0, rfl, g0, k0⟩ := hargs.cons_inv
        simp only [Rs] at k0; subst k0
        exact Rs.cons (by simp only [R]; exact SV.val?_R hx g0) Rs.nil
      split at h
      · rename_i hf; subst hf
        simp only [Option.some.injEq, Prod.mk.injEq] at h
        obtain ⟨rfl, rfl⟩ := h
        obtain ⟨rfl, rfl, rfl, rfl⟩ := hc
        exact call12 n hr (k := 0) rfl ha
      · split at h
        · rename_i hf; subst hf
          simp only [Option.some.injEq, Prod.mk.injEq] at h
          obtain ⟨rfl, rfl⟩ := h
          obtain ⟨rfl, rfl, rfl, rfl⟩ := hc
          exact call14i n hr (k := 0) rfl ha
        · simp at h
    · simp at h
  · simp at h
/-! ### works -/
def two8 : ByteArray := ba [0, 0, 0, 0, 0, 0, 1, 2]
def under : ByteArray := ba [0, 0, 0, 0, 0, 0, 0, 1, 0, 0, 0, 0, 0, 0, 0, 2]
def txt8 : ByteArray := ba [0, 0, 0, 3, 0, 0, 0, 4]
def txt7 : ByteArray := ba [7, 10, 0, 0, 1, 0, 80]
def end8 (w : List Int) : ByteArray := ba [byB w 24, byB w 25, byB w 26, byB w 27, byB w 28, byB w 29, byB w 30, byB w 31]
noncomputable def wkR (w v7 v8 : List Int) : Raw := (macG v8 under txt8).or ((tokG w two8).or ((sumW w two8).or ((hmW fun n => if n = 7 then some (v7, under, txt7) else if n = 8 then some (v8, under, txt8) else none).or joinR)))
noncomputable def LWk (w v7 v8 : List Int) : List Prop :=
  [PS two8 two8 w 0 glL, PH under under txt8 txt8 v8 0 glL, PH under under txt7 txt7 v7 0 glL, PT 258 two8 w 0 glL, (tokW w == tokW w) = true, PT 258 two8 w 0 glL, (idsW w == idsW w) = true,
   PM 1 2 3 4 under txt8 v8 0 glL, eqDg v8 v8 = true, PH under under txt7 txt7 v7 0 glL, ((end8 v7).toList == (end8 v7).toList) = true]
theorem works_gives (w v7 v8 : List Int) : givesV (topR (hmX (wkR w v7 v8)) (run (hmX (wkR w v7 v8)) 80) 16 [] [globS] [true, true, true, true]) (.bol true) (LWk w v7 v8) := by
  unfold givesV; kernel_rfl
theorem call16 {B : Nat} {η : Env} {hp : List SO} {k : Nat} {w : World} {vs : List Value} (hr : HR B η hp w) (hk : hp[k]? = some globS) (hargs : Rs [] [] vs) :
    Calls Tryd.prog 16 vs.toArray w (fun e w' => ∃ v, e = .returned v ∧ R [] (.bol true) v ∧ Below w.heap.size w w') := by
  obtain ⟨v, hv⟩ := HR.glob hr hk (by decide)
  have hok : (wkR (shL.S two8) (hmR shL.S under.data.toList txt7.data.toList) (hmR shL.S under.data.toList txt8.data.toList)).Ok := Raw.or_ok (macG_ok _ _ _) (Raw.or_ok (tokG_ok _ _) (Raw.or_ok (sumW_ok _ _) (Raw.or_ok (hmW_ok _) joinR_ok)))
  have ps : PS two8 two8 (shL.S two8) 0 glL := ⟨rfl, by decide, rfl, rfl, rfl⟩
  have p7 : PH under under txt7 txt7 (hmR shL.S under.data.toList txt7.data.toList) 0 glL := ⟨rfl, rfl, rfl, .inr rfl, rfl, rfl, rfl⟩
  have p8 : PH under under txt8 txt8 (hmR shL.S under.data.toList txt8.data.toList) 0 glL := ⟨rfl, rfl, rfl, .inl rfl, rfl, rfl, rfl⟩
  have pt : PT 258 two8 (shL.S two8) 0 glL := ⟨by decide, rfl, rfl, rfl⟩
  have pm : PM 1 2 3 4 under txt8 (hmR shL.S under.data.toList txt8.data.toList) 0 glL := ⟨by decide, by decide, rfl, rfl, rfl⟩
  exact callsV (X := hmX _) rfl (hmX_ct hok) (hmX_lp _) 80 (works_gives (shL.S two8) (hmR shL.S under.data.toList txt7.data.toList) (hmR shL.S under.data.toList txt8.data.toList)) ⟨ps, p8, p7, pt, beq_self_eq_true _, pt, beq_self_eq_true _, pm, eqDg_self _, p7, beq_self_eq_true _, trivial⟩ rfl (hv _) (Rs.free _ _ rfl hargs)
def Pg (g : Nat) (gl : List SV) : Prop := g = 0 ∧ gl = glL
def worksG : Raw := fun f args hp =>
  if f = 16 then
    match args, hp with
    | [], .glob g gl :: _ => some (.bol true, .pr (Pg g gl))
    | _, _ => none
  else none
theorem worksG_ok : worksG.Ok := by
  intro f args hp s c h hc B η w vs hr hargs
  unfold worksG at h
  split at h
  · rename_i hf; subst hf
    split at h
    · rename_i g gl r
      simp only [Option.some.injEq, Prod.mk.injEq] at h
      obtain ⟨rfl, rfl⟩ := h
      obtain ⟨rfl, rfl⟩ := hc
      exact call16 hr (k := 0) rfl (by simp only [Rs] at hargs; subst hargs; exact Rs.nil)
    · simp at h
  · simp at h
end Go.Proofs.YtaeokmojogekaaaDoor
