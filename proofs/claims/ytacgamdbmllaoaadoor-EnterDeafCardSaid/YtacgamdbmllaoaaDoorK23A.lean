/-
  Walks of functions, reckoned through, and what they give (part K23A). No condition beyond what each says. By an AI agent.
-/
import Derived.Test.YtacgamdbmllaoaaDoorW06J
import Derived.Test.YtacgamdbmllaoaaDoorW07a
import Derived.Test.YtacgamdbmllaoaaDoorShelf
import Derived.Test.YtacgamdbmllaoaaDoorChecked
namespace Go.Proofs.YtacgamdbmllaoaaDoor
open Go.Ex
open Go.RowKit (Below)
set_option linter.unusedVariables false
set_option maxRecDepth 1000000
/-- Two texts behind each other. -/
def catS (x y : SV) : SV :=
  match x, y with
  | .bts c a, .bts d b => .bts (c && d) (a ++ b)
  | x, .bts _ [] => x
  | x, y => match x.val?, y.val? with
    | some (.string a), some (.string b) => .val (.string (a ++ b))
    | _, _ => x
theorem app_nil (a : ByteArray) : a ++ (⟨([] : List UInt8).toArray⟩ : ByteArray) = a := by
  apply ByteArray.ext; simp
theorem catS_val {x y : SV} {a b : ByteArray} (hx : x.val? = some (.string a)) (hy : y.val? = some (.string b)) : (catS x y).val? = some (.string (a ++ b)) := by
  unfold catS
  split
  · simp only [SV.val?, Option.some.injEq, Value.string.injEq] at hx hy ⊢
    subst hx; subst hy
    rw [ByteArray.mk_append_mk]
  · simp only [SV.val?, Option.some.injEq, Value.string.injEq] at hy
    subst hy
    rw [app_nil]; exact hx
  · rw [hx, hy]; rfl
/-- The texts. -/
def textsOf : List SV → Option (List ByteArray)
  | [] => some []
  | s :: l => match s.val?, textsOf l with
    | some (.string x), some r => some (x :: r)
    | _, _ => none
def sumT : List ByteArray → List UInt8
  | [] => []
  | x :: r => x.data.toList ++ sumT r
theorem join_sum : ∀ (xs : List ByteArray), Lib.join (xs.map (·.data.toList)) [] = sumT xs := by
  have tail : ∀ (xs : List ByteArray), Lib.joinTail [] (xs.map (·.data.toList)) = sumT xs := by
    intro xs
    induction xs with
    | nil => rfl
    | cons x r ih => unfold Lib.joinTail at ih ⊢; simp only [List.map_cons, List.flatten_cons, List.nil_append, sumT] at ih ⊢; rw [ih]
  intro xs
  cases xs with
  | nil => rfl
  | cons x r => rw [List.map_cons, Lib.join_cons, tail]; rfl
theorem fold_cat : ∀ (l : List SV) (xs : List ByteArray) (x : SV) (a : ByteArray), textsOf l = some xs → x.val? = some (.string a) →
    (l.foldl catS x).val? = some (.string ⟨(a.data.toList ++ sumT xs).toArray⟩)
  | [], xs, x, a, h, hx => by
    simp only [textsOf, Option.some.injEq] at h; subst h
    rw [List.foldl_nil, hx]; simp [sumT]
  | s :: l, xs, x, a, h, hx => by
    simp only [textsOf] at h
    split at h
    · rename_i y r hy hr
      simp only [Option.some.injEq] at h; subst h
      rw [List.foldl_cons, fold_cat l r _ _ hr (catS_val hx hy)]
      simp [sumT, List.append_assoc]
    · simp at h
/-- strings.Join, with nothing between. -/
def joinG (args : List SV) (hp : List SO) : Option (SV × Cnd) :=
  match args with
  | [.slc k off n cap, .bts _ []] =>
    match hp[k]? with
    | some o => match o.told with
      | some l => if n ≤ cap ∧ n ≤ 1000 ∧ ((l.drop off).take n).length = n then (match textsOf ((l.drop off).take n) with
          | some _ => (match ((l.drop off).take n).foldl catS (.bts true []) with
            | .bts c t => if t.length ≤ 140737488355328 then some (.bts c t, .tt) else none
            | s => match s.val? with
              | some (.string a) => some (s, .pr (a.size ≤ 140737488355328))
              | _ => none)
          | none => none) else none
      | none => none
    | none => none
  | _ => none
theorem textsOf_get : ∀ {l : List SV} {xs : List ByteArray}, textsOf l = some xs → xs.length = l.length ∧ ∀ (j : Nat) (x : ByteArray), xs[j]? = some x → ∃ s : SV, l[j]? = some s ∧ s.val? = some (.string x)
  | [], xs, h => by simp only [textsOf, Option.some.injEq] at h; subst h; exact ⟨rfl, by simp⟩
  | s :: l, xs, h => by
    simp only [textsOf] at h
    split at h
    · rename_i y r hy hr
      simp only [Option.some.injEq] at h; subst h
      obtain ⟨h1, h2⟩ := textsOf_get hr
      refine ⟨by simp [h1], fun j x hj => ?_⟩
      cases j with
      | zero => simp at hj; subst hj; exact ⟨s, rfl, hy⟩
      | succ j => simp at hj; obtain ⟨s', e1, e2⟩ := h2 j x hj; exact ⟨s', by simpa using e1, e2⟩
    · simp at h
theorem joinG_ok : ∀ args hp s c, joinG args hp = some (s, c) → c.Is → ∀ (B : Nat) (η : Env) (w : World) (vs : List Value), HR B η hp w → Rs η args vs →
    Calls Tryd.prog 51 vs.toArray w (fun e w' => ∃ v, e = .returned v ∧ R [] s v ∧ Below w.heap.size w w') := by
  intro args hp s c hg hc B η w vs hr hv
  unfold joinG at hg
  split at hg
  · rename_i k off n cap tt
    split at hg
    · rename_i o ho
      split at hg
      · rename_i l hl
        split at hg
        · rename_i hn
          split at hg
          · rename_i xs hxs
            obtain ⟨v1, r1, rfl, h1, hr1⟩ := hv.cons_inv
            obtain ⟨v2, r2, rfl, h2, hr2⟩ := hr1.cons_inv
            simp only [Rs] at hr2; subst hr2
            simp only [R] at h1 h2
            subst h2
            obtain ⟨wr, hrow⟩ := SO.told_row hl
            obtain ⟨b, ob, e1, e2, e3, e4⟩ := (hr.blk k o ho).1 wr l hrow
            obtain ⟨b', ob', f1, rfl⟩ := h1
            rw [e1] at f1
            simp only [Option.some.injEq, Value.pointer.injEq, Addr.mk.injEq, and_true] at f1
            obtain ⟨rfl, rfl⟩ := f1
            obtain ⟨g1, g2⟩ := textsOf_get hxs
            rw [hn.2.2] at g1
            have hsum := fold_cat _ _ (.bts true []) ⟨([] : List UInt8).toArray⟩ hxs rfl
            have hjoin : Lib.join (xs.map (·.data.toList)) (⟨([] : List UInt8).toArray⟩ : ByteArray).data.toList = sumT xs := join_sum xs
            have cells : ∀ (j : Nat) x, xs[j]? = some x → w.cell? ⟨b, ob + off + j, none⟩ = some (.string x) := by
              intro j x hj
              obtain ⟨s', q1, q2⟩ := g2 j x hj
              have hjn : j < n := by
                have := (List.getElem?_eq_some_iff.1 hj).1
                omega
              rw [List.getElem?_take_of_lt hjn, List.getElem?_drop] at q1
              obtain ⟨⟨v, q3, q4, _⟩, _⟩ := e4 (off + j) s' q1
              rw [Nat.add_assoc, q3, SV.val?_R q2 q4]
            have main : (sumT xs).length ≤ 140737488355328 → Calls Tryd.prog 51 #[.slice (some ⟨b, ob + off, none⟩) n cap, .string ⟨([] : List UInt8).toArray⟩] w fun e w' => e = .returned (.string ⟨(sumT xs).toArray⟩) ∧ Below w.heap.size w w' := by
              intro hlen
              have := Tryd.strings_Join b (ob + off) cap xs ⟨([] : List UInt8).toArray⟩ w cells e2 (by omega) (by omega) (by rw [hjoin]; exact hlen)
              rw [hjoin, g1] at this
              exact this
            simp only [List.nil_append] at hsum
            split at hg
            · rename_i c' t he
              split at hg
              · rename_i hlt
                simp only [Option.some.injEq, Prod.mk.injEq] at hg
                obtain ⟨rfl, rfl⟩ := hg
                rw [he] at hsum
                simp only [SV.val?, Option.some.injEq, Value.string.injEq, ByteArray.mk.injEq] at hsum
                have ht : t = sumT xs := by have := congrArg Array.toList hsum; simpa using this
                subst ht
                refine (main hlt).mono fun e w' ⟨q1, q2⟩ => ⟨_, q1, by simp only [R], q2⟩
              · simp at hg
            · split at hg
              · rename_i a ha
                simp only [Option.some.injEq, Prod.mk.injEq] at hg
                obtain ⟨rfl, rfl⟩ := hg
                rw [ha] at hsum
                simp only [Option.some.injEq, Value.string.injEq] at hsum
                simp only [Cnd.Is] at hc
                have hlt : (sumT xs).length ≤ 140737488355328 := by
                  rw [hsum, size_mk] at hc
                  simpa using hc
                refine (main hlt).mono fun e w' ⟨q1, q2⟩ => ⟨_, q1, SV.R_val? ?_, q2⟩
                rw [ha, hsum]
              · simp at hg
          · simp at hg
        · simp at hg
      · simp at hg
    · simp at hg
  · simp at hg
noncomputable def joinC : Con Tryd.prog := Con.oneH 51 joinG joinG_ok
noncomputable def X : Cx := conned joinC
/-! ### codes (hmac), of told keys and texts -/
def mixB (k : Int) (c : UInt8) : UInt8 := UInt8.ofNat (IntKind.u8.wrap ((BitVec.ofInt IntKind.u8.bits (c.toNat : Int) ^^^ BitVec.ofInt IntKind.u8.bits k).toNat : Int)).toNat
def mixL (k : Int) (l : List UInt8) : List UInt8 := l.map (mixB k) ++ List.replicate (64 - l.length) (UInt8.ofNat (Int.toNat k))
def idB (b : UInt8) : UInt8 := UInt8.ofNat (Int.toNat (b.toNat : Int))
def hmI (k t : List UInt8) : ByteArray := ⟨(mixL 54 k ++ t.map idB).toArray⟩
def dgL (w : List Int) : List UInt8 := (List.range 32).map fun i => UInt8.ofNat (Int.toNat (dB w i))
def hmO (k : List UInt8) (w : List Int) : ByteArray := ⟨(mixL 92 k ++ (dgL w).map idB).toArray⟩
def hmR (S : ByteArray → List Int) (k t : List UInt8) : List Int := S (hmO k (S (hmI k t)))
noncomputable def hmP (q : Sh) (k t : List UInt8) : Prop :=
  givesV (topR (rawX q (sumG q)) (run (rawX q (sumG q)) 80) 50 [.bts false k, .bts false t] [globS] []) (dgS (hmR q.S k t)) [P9 (hmI k t) 0 glL, P9 (hmO k (q.S (hmI k t))) 0 glL]
theorem hm_16_8 (q : Sh) (a0 a1 a2 a3 a4 a5 a6 a7 a8 a9 a10 a11 a12 a13 a14 a15 b0 b1 b2 b3 b4 b5 b6 b7 : UInt8) : hmP q [a0, a1, a2, a3, a4, a5, a6, a7, a8, a9, a10, a11, a12, a13, a14, a15] [b0, b1, b2, b3, b4, b5, b6, b7] := by
  unfold hmP givesV; kernel_rfl
theorem hml_16_8 (q : Sh) (k t : List UInt8) (hk : k.length = 16) (ht : t.length = 8) : hmP q k t :=
  match k, hk, t, ht with
  | a0 :: a1 :: a2 :: a3 :: a4 :: a5 :: a6 :: a7 :: a8 :: a9 :: a10 :: a11 :: a12 :: a13 :: a14 :: a15 :: [], _, b0 :: b1 :: b2 :: b3 :: b4 :: b5 :: b6 :: b7 :: [], _ => hm_16_8 q a0 a1 a2 a3 a4 a5 a6 a7 a8 a9 a10 a11 a12 a13 a14 a15 b0 b1 b2 b3 b4 b5 b6 b7
/-! ### contracts, their results named -/
theorem mixL_len (k : Int) (l : List UInt8) (h : l.length ≤ 64) : (mixL k l).length = 64 := by
  unfold mixL; rw [List.length_append, List.length_map, List.length_replicate]; omega
theorem baS (l : List UInt8) : (⟨l.toArray⟩ : ByteArray).size = l.length := by show l.toArray.size = _; simp
theorem hm_call (k t : List UInt8) (hk : k.length = 16) (ht : t.length = 8) {B : Nat} {η : Env} {hp : List SO} {j : Nat} {w : World} {vs : List Value} (hr : HR B η hp w) (hj : hp[j]? = some globS) (hargs : Rs [] [.bts false k, .bts false t] vs) :
    Calls Tryd.prog 50 vs.toArray w (fun e w' => ∃ v, e = .returned v ∧ R [] (dgS (hmR shL.S k t)) v ∧ Below w.heap.size w w') := by
  obtain ⟨v, hv⟩ := HR.glob hr hj (by decide)
  have hp : hmP shL k t := hml_16_8 shL k t hk ht
  have p1 : P9 (hmI k t) 0 glL := ⟨by unfold hmI; rw [baS, List.length_append, mixL_len _ _ (by omega), List.length_map]; omega, rfl, rfl⟩
  have p2 : P9 (hmO k (shL.S (hmI k t))) 0 glL := ⟨by unfold hmO; rw [baS, List.length_append, mixL_len _ _ (by omega), List.length_map]; unfold dgL; rw [List.length_map, List.length_range]; omega, rfl, rfl⟩
  exact callsV (X := rawX shL (sumG shL)) rfl (rawX_ct shL_F sumG_ok) (rawX_lp _ _) 80 hp ⟨p1, p2, trivial⟩ (dgS_free _) (hv _) (Rs.free _ _ rfl hargs)
def PS (t t0 : ByteArray) (w : List Int) (g : Nat) (gl : List SV) : Prop := t = t0 ∧ t0.size ≤ 9223372036854775807 ∧ shL.S t0 = w ∧ g = 0 ∧ gl = glL
noncomputable def sumW (w : List Int) (t0 : ByteArray) : Raw := fun f args hp =>
  if f = 46 then
    match args with
    | [tv] =>
      match hp with
      | .glob g gl :: _ =>
        match tv.val? with
        | some (.string t) => some (dgS w, .pr (PS t t0 w g gl))
        | _ => none
      | _ => none
    | _ => none
  else none
theorem sumW_ok (w : List Int) (t0 : ByteArray) : (sumW w t0).Ok := by
  intro f args hp s c h hc B η w' vs hr hargs
  unfold sumW at h
  split at h
  · rename_i hf; subst hf
    split at h
    · rename_i tv
      split at h
      · rename_i g gl r
        split at h
        · rename_i t ht
          simp only [Option.some.injEq, Prod.mk.injEq] at h
          obtain ⟨rfl, rfl⟩ := h
          obtain ⟨rfl, h1, rfl, rfl, rfl⟩ := hc
          refine call9 t h1 hr (k := 0) rfl ?_
          obtain ⟨a, x, rfl, g1, g2⟩ := hargs.cons_inv
          simp only [Rs] at g2; subst g2
          exact Rs.cons (by simp only [R]; exact SV.val?_R ht g1) Rs.nil
        · simp at h
      · simp at h
    · simp at h
  · simp at h
def PH (k k0 t t0 : ByteArray) (v : List Int) (g : Nat) (gl : List SV) : Prop := k = k0 ∧ t = t0 ∧ k0.size = 16 ∧ t0.size = 8 ∧ hmR shL.S k0.data.toList t0.data.toList = v ∧ g = 0 ∧ gl = glL
/-- Codes, by how long the text is. -/
noncomputable def hmW (h : Nat → Option (List Int × ByteArray × ByteArray)) : Raw := fun f args hp =>
  if f = 50 then
    match args with
    | [kv, .bts b tl] =>
      match hp with
      | .glob g gl :: _ =>
        match kv.val?, h tl.length with
        | some (.string k), some (v, k0, t0) => some (dgS v, .pr (PH k k0 ⟨tl.toArray⟩ t0 v g gl))
        | _, _ => none
      | _ => none
    | _ => none
  else none
theorem hmW_ok (h : Nat → Option (List Int × ByteArray × ByteArray)) : (hmW h).Ok := by
  intro f args hp s c hh hc B η w' vs hr hargs
  unfold hmW at hh
  split at hh
  · rename_i hf; subst hf
    split at hh
    · rename_i kv b tl
      split at hh
      · rename_i g gl r
        split at hh
        · rename_i k v k0 t0 hk h0
          simp only [Option.some.injEq, Prod.mk.injEq] at hh
          obtain ⟨rfl, rfl⟩ := hh
          obtain ⟨rfl, rfl, h1, h2, rfl, rfl, rfl⟩ := hc
          refine hm_call k.data.toList tl h1 (by rw [baS] at h2; exact h2) hr (j := 0) rfl ?_
          obtain ⟨a, x, rfl, g1, g2⟩ := hargs.cons_inv
          obtain ⟨a2, x2, rfl, g3, g4⟩ := g2.cons_inv
          simp only [Rs] at g4; subst g4
          have e1 := SV.val?_R hk g1
          refine Rs.cons (by simp only [R]; exact e1) (Rs.cons (by simpa only [R] using g3) Rs.nil)
        · simp at hh
      · simp at hh
    · simp at hh
  · simp at hh
noncomputable def joinR : Raw := fun f args hp => if f = 51 then joinG args hp else none
theorem joinR_ok : joinR.Ok := by
  intro f args hp s c h hc B η w vs hr hargs
  unfold joinR at h
  split at h
  · rename_i hf; subst hf
    exact joinG_ok args hp s c h hc B η w vs hr hargs
  · simp at h
def globHead : List SO → Bool
  | .glob _ _ :: _ => true
  | _ => false
/-- These are not reckoned without the package's variable. -/
noncomputable def guardX (fs : List FuncId) (X : Cx) : Cx :=
  ⟨X.P, fun f args hp => if fs.contains f && !globHead hp then some (.hdl 0, none, .pr False) else X.ct f args hp, X.lp⟩
theorem guardX_ct {fs : List FuncId} {X : Cx} (h : CtOk X) : CtOk (guardX fs X) := by
  intro f args hp s ho c hh hc
  simp only [guardX] at hh
  split at hh
  · simp only [Option.some.injEq, Prod.mk.injEq] at hh
    obtain ⟨_, _, rfl⟩ := hh
    exact absurd hc (by intro h; exact h)
  · exact h f args hp s ho c hh hc
theorem guardX_lp {fs : List FuncId} {X : Cx} (h : LpOk X) : LpOk (guardX fs X) := h
noncomputable def hmX (g : Raw) : Cx := guardX [46, 50, 31, 26] (rawP g)
theorem hmX_ct {g : Raw} (hg : g.Ok) : CtOk (hmX g) := guardX_ct (rawP_ct hg)
theorem hmX_lp (g : Raw) : LpOk (hmX g) := guardX_lp (rawP_lp g)
def eqDg (a b : List Int) : Bool := (List.range 32).foldr (fun i r => (dB a i == dB b i) && r) true
theorem eqDg_self (a : List Int) : eqDg a a = true := by
  unfold eqDg
  generalize List.range 32 = l
  induction l with
  | nil => rfl
  | cons x l ih => simp only [List.foldr_cons, ih]; simp
/-! ### bytes of numbers, and numbers of bytes -/
def ba (l : List UInt8) : ByteArray := ⟨l.toArray⟩
def byB (w : List Int) (i : Nat) : UInt8 := UInt8.ofNat (dB w i).toNat
def nxB (n : Int) (b : UInt8) : Int := IntKind.u64.wrap ((BitVec.ofInt IntKind.u64.bits (IntKind.u64.wrap (n * 2 ^ min (Int.toNat 8) IntKind.u64.bits)) ||| BitVec.ofInt IntKind.u64.bits (IntKind.u64.wrap (b.toNat : Int))).toNat : Int)
def tokW (w : List Int) : Int := IntKind.u32.wrap (nxB (nxB (nxB (nxB 0 (byB w 0)) (byB w 1)) (byB w 2)) (byB w 3))
def idsW (w : List Int) : Int := nxB (nxB (nxB (nxB (nxB (nxB (nxB (nxB 0 (byB w 24)) (byB w 25)) (byB w 26)) (byB w 27)) (byB w 28)) (byB w 29)) (byB w 30)) (byB w 31)
def shB (n : Int) : Int := n.fdiv (2 ^ min (Int.toNat 8) IntKind.u64.bits)
def bb (n : Int) : UInt8 := UInt8.ofNat (IntKind.u8.wrap n).toNat
def bs8 (n : Int) : List UInt8 := [bb (shB (shB (shB (shB (shB (shB (shB n))))))), bb (shB (shB (shB (shB (shB (shB n)))))), bb (shB (shB (shB (shB (shB n))))), bb (shB (shB (shB (shB n)))), bb (shB (shB (shB n))), bb (shB (shB n)), bb (shB n), bb n]
def bs4 (a : Int) : List UInt8 := [bb (shB (shB (shB (IntKind.u64.wrap a)))), bb (shB (shB (IntKind.u64.wrap a))), bb (shB (IntKind.u64.wrap a)), bb (IntKind.u64.wrap a)]
def byL (w : List Int) (i n : Nat) : ByteArray := ba ((List.range n).map fun j => byB w (i + j))
theorem nxB_eq (n : Int) (b : UInt8) (h0 : 0 ≤ n) (h : n < 72057594037927936) : nxB n b = n * 256 + b.toNat := by
  have hb : b.toNat < 256 := b.toNat_lt
  obtain ⟨x, rfl⟩ := Int.eq_ofNat_of_zero_le h0
  unfold nxB
  have e1 : IntKind.u64.wrap ((x : Int) * 2 ^ min (Int.toNat 8) IntKind.u64.bits) = ((x * 256 : Nat) : Int) := by
    rw [show (2 : Int) ^ min (Int.toNat 8) IntKind.u64.bits = 256 from rfl, wu64]; omega
  have e2 : IntKind.u64.wrap (b.toNat : Int) = ((b.toNat : Nat) : Int) := by rw [wu64]; omega
  rw [e1, e2]
  show IntKind.u64.wrap ((BitVec.ofInt 64 ((x * 256 : Nat) : Int) ||| BitVec.ofInt 64 ((b.toNat : Nat) : Int)).toNat : Int) = _
  rw [BitVec.ofInt_natCast, BitVec.ofInt_natCast, BitVec.toNat_or, BitVec.toNat_ofNat, BitVec.toNat_ofNat, Nat.mod_eq_of_lt (by omega), Nat.mod_eq_of_lt (by omega)]
  have e3 : x * 256 ||| b.toNat = x * 256 + b.toNat := by
    have := Nat.two_pow_add_eq_or_of_lt (i := 8) (b := b.toNat) hb x
    rw [Nat.mul_comm x 256]
    simpa using this.symm
  rw [e3, wu64]; omega
theorem bb_eq (z : Int) (x : UInt8) (h : z % 256 = x.toNat) : bb z = x := by
  unfold bb
  rw [wu8, h]
  simp
theorem shB_eq (n : Int) (h : 0 ≤ n) : shB n = n / 256 := by
  unfold shB
  rw [show (2 : Int) ^ min (Int.toNat 8) IntKind.u64.bits = 256 from rfl, Int.fdiv_eq_ediv_of_nonneg _ (by decide)]
theorem num4 (a b c d : UInt8) : nxB (nxB (nxB (nxB 0 a) b) c) d = ((a.toNat * 256 + b.toNat) * 256 + c.toNat) * 256 + d.toNat := by
  have ha := a.toNat_lt
  have hb := b.toNat_lt
  have hc := c.toNat_lt
  have hd := d.toNat_lt
  have h1 : nxB 0 a = a.toNat := by rw [nxB_eq 0 a (by omega) (by omega)]; omega
  rw [h1, nxB_eq _ b (by omega) (by omega), nxB_eq _ c (by omega) (by omega), nxB_eq _ d (by omega) (by omega)]
theorem bs4_num (a b c d : UInt8) : bs4 (IntKind.u32.wrap (nxB (nxB (nxB (nxB 0 a) b) c) d)) = [a, b, c, d] := by
  have ha := a.toNat_lt
  have hb := b.toNat_lt
  have hc := c.toNat_lt
  have hd := d.toNat_lt
  rw [num4]
  have e1 : IntKind.u64.wrap (IntKind.u32.wrap (((a.toNat * 256 + b.toNat) * 256 + c.toNat) * 256 + d.toNat : Int)) = (((a.toNat * 256 + b.toNat) * 256 + c.toNat) * 256 + d.toNat : Int) := by
    rw [wu32, wu64]; omega
  unfold bs4
  rw [e1]
  generalize hN : (((a.toNat * 256 + b.toNat) * 256 + c.toNat) * 256 + d.toNat : Int) = N
  have q0 : 0 ≤ N := by omega
  have s1 : shB N = N / 256 := shB_eq _ q0
  have s2 : shB (N / 256) = N / 256 / 256 := shB_eq _ (by omega)
  have s3 : shB (N / 256 / 256) = N / 256 / 256 / 256 := shB_eq _ (by omega)
  rw [s1, s2, s3]
  rw [bb_eq _ a (by omega), bb_eq _ b (by omega), bb_eq _ c (by omega), bb_eq _ d (by omega)]
theorem num8 (a b c d e f g h : UInt8) : nxB (nxB (nxB (nxB (nxB (nxB (nxB (nxB 0 a) b) c) d) e) f) g) h = ((((((a.toNat * 256 + b.toNat) * 256 + c.toNat) * 256 + d.toNat) * 256 + e.toNat) * 256 + f.toNat) * 256 + g.toNat) * 256 + h.toNat := by
  have ha := a.toNat_lt
  have hb := b.toNat_lt
  have hc := c.toNat_lt
  have hd := d.toNat_lt
  have he := e.toNat_lt
  have hf := f.toNat_lt
  have hg := g.toNat_lt
  have hh := h.toNat_lt
  rw [num4, nxB_eq _ e (by omega) (by omega), nxB_eq _ f (by omega) (by omega), nxB_eq _ g (by omega) (by omega), nxB_eq _ h (by omega) (by omega)]
theorem bs8_num (a b c d e f g h : UInt8) : bs8 (nxB (nxB (nxB (nxB (nxB (nxB (nxB (nxB 0 a) b) c) d) e) f) g) h) = [a, b, c, d, e, f, g, h] := by
  have ha := a.toNat_lt
  have hb := b.toNat_lt
  have hc := c.toNat_lt
  have hd := d.toNat_lt
  have he := e.toNat_lt
  have hf := f.toNat_lt
  have hg := g.toNat_lt
  have hh := h.toNat_lt
  rw [num8]
  unfold bs8
  generalize hN : (((((((a.toNat * 256 + b.toNat) * 256 + c.toNat) * 256 + d.toNat) * 256 + e.toNat) * 256 + f.toNat) * 256 + g.toNat) * 256 + h.toNat : Int) = N
  have q0 : 0 ≤ N := by omega
  have s1 : shB N = N / 256 := shB_eq _ q0
  have s2 : shB (N / 256) = N / 256 / 256 := shB_eq _ (by omega)
  have s3 : shB (N / 256 / 256) = N / 256 / 256 / 256 := shB_eq _ (by omega)
  have s4 : shB (N / 256 / 256 / 256) = N / 256 / 256 / 256 / 256 := shB_eq _ (by omega)
  have s5 : shB (N / 256 / 256 / 256 / 256) = N / 256 / 256 / 256 / 256 / 256 := shB_eq _ (by omega)
  have s6 : shB (N / 256 / 256 / 256 / 256 / 256) = N / 256 / 256 / 256 / 256 / 256 / 256 := shB_eq _ (by omega)
  have s7 : shB (N / 256 / 256 / 256 / 256 / 256 / 256) = N / 256 / 256 / 256 / 256 / 256 / 256 / 256 := shB_eq _ (by omega)
  rw [s1, s2, s3, s4, s5, s6, s7]
  rw [bb_eq _ a (by omega), bb_eq _ b (by omega), bb_eq _ c (by omega), bb_eq _ d (by omega), bb_eq _ e (by omega), bb_eq _ f (by omega), bb_eq _ g (by omega), bb_eq _ h (by omega)]
theorem front_eq (w : List Int) : byL w 0 4 = ba (bs4 (tokW w)) := by
  unfold tokW; rw [bs4_num]; rfl
theorem end_eq (w : List Int) : byL w 24 8 = ba (bs8 (idsW w)) := by
  unfold idsW; rw [bs8_num]; rfl
/-! ### Mac, Token, Idsn -/
def PM (n m a b : Int) (k0 m0 : ByteArray) (v : List Int) (g : Nat) (gl : List SV) : Prop := ba (bs8 n ++ bs8 m) = k0 ∧ ba (bs4 a ++ bs4 b) = m0 ∧ hmR shL.S k0.data.toList m0.data.toList = v ∧ g = 0 ∧ gl = glL
def PT (n : Int) (t0 : ByteArray) (w : List Int) (g : Nat) (gl : List SV) : Prop := ba (bs8 n) = t0 ∧ shL.S t0 = w ∧ g = 0 ∧ gl = glL
noncomputable def mc8 (v : List Int) (k0 m0 : ByteArray) : Raw := (hmW fun n => if n = 8 then some (v, k0, m0) else none).or joinR
theorem mac_gives (v : List Int) (k0 m0 : ByteArray) (n m a b : Int) : givesV (topR (hmX (mc8 v k0 m0)) (run (hmX (mc8 v k0 m0)) 80) 31 [.val (.int .u64 n), .val (.int .u64 m), .val (.int .u32 a), .val (.int .u32 b)] [globS] []) (dgS v) [PH (ba (bs8 n ++ bs8 m)) k0 (ba (bs4 a ++ bs4 b)) m0 v 0 glL] := by
  unfold givesV; kernel_rfl
theorem tok_gives (w : List Int) (t0 : ByteArray) (n : Int) : givesV (topR (hmX (sumW w t0)) (run (hmX (sumW w t0)) 80) 26 [.val (.int .u64 n)] [globS] []) (.val (.int .u32 (tokW w))) [PS (ba (bs8 n)) t0 w 0 glL] := by
  unfold givesV; kernel_rfl
theorem bs8_len (n : Int) : (bs8 n).length = 8 := rfl
theorem call25 (n m a b : Int) {B : Nat} {η : Env} {hp : List SO} {k : Nat} {w : World} {vs : List Value} (hr : HR B η hp w) (hk : hp[k]? = some globS) (hargs : Rs [] [.val (.int .u64 n), .val (.int .u64 m), .val (.int .u32 a), .val (.int .u32 b)] vs) :
    Calls Tryd.prog 31 vs.toArray w (fun e w' => ∃ v, e = .returned v ∧ R [] (dgS (hmR shL.S (bs8 n ++ bs8 m) (bs4 a ++ bs4 b))) v ∧ Below w.heap.size w w') := by
  obtain ⟨v, hv⟩ := HR.glob hr hk (by decide)
  exact callsV (X := hmX _) rfl (hmX_ct (Raw.or_ok (hmW_ok _) joinR_ok)) (hmX_lp _) 80 (mac_gives _ (ba (bs8 n ++ bs8 m)) (ba (bs4 a ++ bs4 b)) n m a b) ⟨⟨rfl, rfl, rfl, rfl, rfl, rfl, rfl⟩, trivial⟩ (dgS_free _) (hv _) (Rs.free _ _ rfl hargs)
theorem call12 (n : Int) {B : Nat} {η : Env} {hp : List SO} {k : Nat} {w : World} {vs : List Value} (hr : HR B η hp w) (hk : hp[k]? = some globS) (hargs : Rs [] [.val (.int .u64 n)] vs) :
    Calls Tryd.prog 26 vs.toArray w (fun e w' => ∃ v, e = .returned v ∧ R [] (.val (.int .u32 (tokW (shL.S (ba (bs8 n)))))) v ∧ Below w.heap.size w w') := by
  obtain ⟨v, hv⟩ := HR.glob hr hk (by decide)
  exact callsV (X := hmX _) rfl (hmX_ct (sumW_ok _ _)) (hmX_lp _) 80 (tok_gives _ (ba (bs8 n)) n) ⟨⟨rfl, by unfold ba; rw [baS, bs8_len]; omega, rfl, rfl, rfl⟩, trivial⟩ rfl (hv _) (Rs.free _ _ rfl hargs)
noncomputable def macG (v : List Int) (k0 m0 : ByteArray) : Raw := fun f args hp =>
  if f = 31 then
    match args, hp with
    | [x, y, z, t], .glob g gl :: _ =>
      match x.val?, y.val?, z.val?, t.val? with
      | some (.int .u64 n), some (.int .u64 m), some (.int .u32 a), some (.int .u32 b) => some (dgS v, .pr (PM n m a b k0 m0 v g gl))
      | _, _, _, _ => none
    | _, _ => none
  else none
theorem macG_ok (v : List Int) (k0 m0 : ByteArray) : (macG v k0 m0).Ok := by
  intro f args hp s c h hc B η w vs hr hargs
  unfold macG at h
  split at h
  · rename_i hf; subst hf
    split at h
    · rename_i x y z t g gl r
      split at h
      · rename_i n m a b h1 h2 h3 h4
        simp only [Option.some.injEq, Prod.mk.injEq] at h
        obtain ⟨rfl, rfl⟩ := h
        obtain ⟨rfl, rfl, rfl, rfl, rfl⟩ := hc
        refine call25 n m a b hr (k := 0) rfl ?_
        obtain ⟨v0, r0, rfl, g0, k0⟩ := hargs.cons_inv
        obtain ⟨v1, r1, rfl, g1, k1⟩ := k0.cons_inv
        obtain ⟨v2, r2, rfl, g2, k2⟩ := k1.cons_inv
        obtain ⟨v3, r3, rfl, g3, k3⟩ := k2.cons_inv
        simp only [Rs] at k3; subst k3
        exact Rs.cons (by simp only [R]; exact SV.val?_R h1 g0) (Rs.cons (by simp only [R]; exact SV.val?_R h2 g1) (Rs.cons (by simp only [R]; exact SV.val?_R h3 g2) (Rs.cons (by simp only [R]; exact SV.val?_R h4 g3) Rs.nil)))
      · simp at h
    · simp at h
  · simp at h
/-! ### Token, Short, Long: by functions that are named -/
abbrev McF := Int → Int → Int → Int → List Int
noncomputable def macW : McF := fun n m a b => hmR shL.S (bs8 n ++ bs8 m) (bs4 a ++ bs4 b)
def PMf (M : McF) (g : Nat) (gl : List SV) : Prop := M = macW ∧ g = 0 ∧ gl = glL
noncomputable def macF (M : McF) : Raw := fun f args hp =>
  if f = 31 then
    match args, hp with
    | [x, y, z, t], .glob g gl :: _ =>
      match x.val?, y.val?, z.val?, t.val? with
      | some (.int .u64 n), some (.int .u64 m), some (.int .u32 a), some (.int .u32 b) => some (dgS (M n m a b), .pr (PMf M g gl))
      | _, _, _, _ => none
    | _, _ => none
  else none
theorem args4 {η : Env} {x y z t : SV} {vs : List Value} {n m a b : Int} (h1 : x.val? = some (.int .u64 n)) (h2 : y.val? = some (.int .u64 m)) (h3 : z.val? = some (.int .u32 a)) (h4 : t.val? = some (.int .u32 b)) (hargs : Rs η [x, y, z, t] vs) :
    Rs [] [.val (.int .u64 n), .val (.int .u64 m), .val (.int .u32 a), .val (.int .u32 b)] vs := by
  obtain ⟨v0, r0, rfl, g0, k0⟩ := hargs.cons_inv
  obtain ⟨v1, r1, rfl, g1, k1⟩ := k0.cons_inv
  obtain ⟨v2, r2, rfl, g2, k2⟩ := k1.cons_inv
  obtain ⟨v3, r3, rfl, g3, k3⟩ := k2.cons_inv
  simp only [Rs] at k3; subst k3
  exact Rs.cons (by simp only [R]; exact SV.val?_R h1 g0) (Rs.cons (by simp only [R]; exact SV.val?_R h2 g1) (Rs.cons (by simp only [R]; exact SV.val?_R h3 g2) (Rs.cons (by simp only [R]; exact SV.val?_R h4 g3) Rs.nil)))
theorem macF_ok (M : McF) : (macF M).Ok := by
  intro f args hp s c h hc B η w vs hr hargs
  unfold macF at h
  split at h
  · rename_i hf; subst hf
    split at h
    · rename_i x y z t g gl r
      split at h
      · rename_i n m a b h1 h2 h3 h4
        simp only [Option.some.injEq, Prod.mk.injEq] at h
        obtain ⟨rfl, rfl⟩ := h
        obtain ⟨rfl, rfl, rfl⟩ := hc
        exact call25 n m a b hr (k := 0) rfl (args4 h1 h2 h3 h4 hargs)
      · simp at h
    · simp at h
  · simp at h
def byL' (w : List Int) (n : Nat) : List UInt8 := (List.range n).map fun i => byB w i
theorem short_gives (M : McF) (n m a b : Int) : givesV (topR (hmX (macF M)) (run (hmX (macF M)) 80) 27 [.val (.int .u64 n), .val (.int .u64 m), .val (.int .u32 a), .val (.int .u32 b)] [globS] []) (.bts false (byL' (M n m a b) 8)) [PMf M 0 glL] := by
  unfold givesV; kernel_rfl
theorem long_gives (M : McF) (n m a b : Int) : givesV (topR (hmX (macF M)) (run (hmX (macF M)) 80) 17 [.val (.int .u64 n), .val (.int .u64 m), .val (.int .u32 a), .val (.int .u32 b)] [globS] []) (.bts false (byL' (M n m a b) 20)) [PMf M 0 glL] := by
  unfold givesV; kernel_rfl
abbrev TxF := Int → Int → Int → Int → List UInt8
noncomputable def shW : TxF := fun n m a b => byL' (macW n m a b) 8
noncomputable def lgW : TxF := fun n m a b => byL' (macW n m a b) 20
theorem call27 (n m a b : Int) {B : Nat} {η : Env} {hp : List SO} {k : Nat} {w : World} {vs : List Value} (hr : HR B η hp w) (hk : hp[k]? = some globS) (hargs : Rs [] [.val (.int .u64 n), .val (.int .u64 m), .val (.int .u32 a), .val (.int .u32 b)] vs) :
    Calls Tryd.prog 27 vs.toArray w (fun e w' => ∃ v, e = .returned v ∧ R [] (.val (.string ⟨(shW n m a b).toArray⟩)) v ∧ Below w.heap.size w w') := by
  obtain ⟨v, hv⟩ := HR.glob hr hk (by decide)
  refine (callsV (X := hmX _) rfl (hmX_ct (macF_ok macW)) (hmX_lp _) 80 (short_gives macW n m a b) ⟨⟨rfl, rfl, rfl⟩, trivial⟩ rfl (hv _) (Rs.free _ _ rfl hargs)).mono fun e w' hq => ?_
  obtain ⟨v, rfl, hR, hb⟩ := hq
  exact ⟨v, rfl, by simp only [R] at hR ⊢; exact hR, hb⟩
theorem call17 (n m a b : Int) {B : Nat} {η : Env} {hp : List SO} {k : Nat} {w : World} {vs : List Value} (hr : HR B η hp w) (hk : hp[k]? = some globS) (hargs : Rs [] [.val (.int .u64 n), .val (.int .u64 m), .val (.int .u32 a), .val (.int .u32 b)] vs) :
    Calls Tryd.prog 17 vs.toArray w (fun e w' => ∃ v, e = .returned v ∧ R [] (.val (.string ⟨(lgW n m a b).toArray⟩)) v ∧ Below w.heap.size w w') := by
  obtain ⟨v, hv⟩ := HR.glob hr hk (by decide)
  refine (callsV (X := hmX _) rfl (hmX_ct (macF_ok macW)) (hmX_lp _) 80 (long_gives macW n m a b) ⟨⟨rfl, rfl, rfl⟩, trivial⟩ rfl (hv _) (Rs.free _ _ rfl hargs)).mono fun e w' hq => ?_
  obtain ⟨v, rfl, hR, hb⟩ := hq
  exact ⟨v, rfl, by simp only [R] at hR ⊢; exact hR, hb⟩
def PSf (S : TxF) (g : Nat) (gl : List SV) : Prop := S = shW ∧ g = 0 ∧ gl = glL
def PLf (L : TxF) (g : Nat) (gl : List SV) : Prop := L = lgW ∧ g = 0 ∧ gl = glL
noncomputable def cutF (S L : TxF) : Raw := fun f args hp =>
  match args, hp with
  | [x, y, z, t], .glob g gl :: _ =>
    match x.val?, y.val?, z.val?, t.val? with
    | some (.int .u64 n), some (.int .u64 m), some (.int .u32 a), some (.int .u32 b) =>
      if f = 27 then some (.val (.string ⟨(S n m a b).toArray⟩), .pr (PSf S g gl))
      else if f = 17 then some (.val (.string ⟨(L n m a b).toArray⟩), .pr (PLf L g gl)) else none
    | _, _, _, _ => none
  | _, _ => none
theorem cutF_ok (S L : TxF) : (cutF S L).Ok := by
  intro f args hp s c h hc B η w vs hr hargs
  unfold cutF at h
  split at h
  · rename_i x y z t g gl r
    split at h
    · rename_i n m a b h1 h2 h3 h4
      split at h
      · rename_i hf; subst hf
        simp only [Option.some.injEq, Prod.mk.injEq] at h
        obtain ⟨rfl, rfl⟩ := h
        obtain ⟨rfl, rfl, rfl⟩ := hc
        exact call27 n m a b hr (k := 0) rfl (args4 h1 h2 h3 h4 hargs)
      · split at h
        · rename_i hf; subst hf
          simp only [Option.some.injEq, Prod.mk.injEq] at h
          obtain ⟨rfl, rfl⟩ := h
          obtain ⟨rfl, rfl, rfl⟩ := hc
          exact call17 n m a b hr (k := 0) rfl (args4 h1 h2 h3 h4 hargs)
        · simp at h
    · simp at h
  · simp at h
noncomputable def tkT : Int → Int := fun n => tokW (shL.S (ba (bs8 n)))
def PTf (T : Int → Int) (g : Nat) (gl : List SV) : Prop := T = tkT ∧ g = 0 ∧ gl = glL
noncomputable def tokF (T : Int → Int) : Raw := fun f args hp =>
  match args, hp with
  | [x], .glob g gl :: _ =>
    match x.val? with
    | some (.int .u64 n) => if f = 26 then some (.val (.int .u32 (T n)), .pr (PTf T g gl)) else none
    | _ => none
  | _, _ => none
theorem tokF_ok (T : Int → Int) : (tokF T).Ok := by
  intro f args hp s c h hc B η w' vs hr hargs
  unfold tokF at h
  split at h
  · rename_i x g gl r
    split at h
    · rename_i n hx
      have ha : Rs [] [.val (.int .u64 n)] vs := by
        obtain ⟨v0, r0, rfl, g0, k0⟩ := hargs.cons_inv
        simp only [Rs] at k0; subst k0
        exact Rs.cons (by simp only [R]; exact SV.val?_R hx g0) Rs.nil
      split at h
      · rename_i hf; subst hf
        simp only [Option.some.injEq, Prod.mk.injEq] at h
        obtain ⟨rfl, rfl⟩ := h
        obtain ⟨rfl, rfl, rfl⟩ := hc
        exact call12 n hr (k := 0) rfl ha
      · simp at h
    · simp at h
  · simp at h
noncomputable def enX (g : Raw) : Cx := guardX [46, 50, 31, 26, 27, 17, 9] (rawP g)
theorem enX_ct {g : Raw} (hg : g.Ok) : CtOk (enX g) := guardX_ct (rawP_ct hg)
theorem enX_lp (g : Raw) : LpOk (enX g) := guardX_lp (rawP_lp g)

def tkN : List Nat → ByteArray → List Nat
  | [a, b, c, d, e, f, g, h], s =>
    List.zipWith nad (go KN a b c d e f g h ((List.range 16).map (nbe s))) [a, b, c, d, e, f, g, h]
  | _, _ => []
def IsWs (l : List Int) (n : List Nat) : Prop := l.length = n.length ∧ ∀ i, i < n.length → IsW (l.getD i 0) (n.getD i 0)
theorem IsWs.eq {l : List Int} {n : List Nat} (h : IsWs l n) : l = n.map Int.ofNat := by
  refine List.ext_getElem (by simp [h.1]) fun i h1 h2 => ?_
  have := (h.2 i (by rw [← h.1]; exact h1)).1
  rw [List.getD_eq_getElem?_getD, List.getElem?_eq_getElem h1] at this
  rw [List.getD_eq_getElem?_getD, List.getElem?_eq_getElem (by rw [← h.1]; exact h1)] at this
  simpa using this
theorem tkF_N {ini : List Int} {n : List Nat} (h : IsWs ini n) (h8 : n.length = 8) (s : ByteArray) : IsWs (tkF zL ini s) (tkN n s) ∧ (tkN n s).length = 8 := by
  match n, h8 with
  | [a, b, c, d, e, f, g, k], _ =>
    have q := go_ok s (fn8 ini) KN 0 a b c d e f g k ((List.range 16).map (nbe s)) rfl (by omega) (h.2 0 (show 0 < 8 by decide)) (h.2 1 (show 1 < 8 by decide)) (h.2 2 (show 2 < 8 by decide)) (h.2 3 (show 3 < 8 by decide)) (h.2 4 (show 4 < 8 by decide)) (h.2 5 (show 5 < 8 by decide)) (h.2 6 (show 6 < 8 by decide)) (h.2 7 (show 7 < 8 by decide))
      ⟨by simp, fun i hi => by
        have e1 : ((List.range 16).map (nbe s)).getD i 0 = nbe s i := by
          rw [List.getD_eq_getElem?_getD, List.getElem?_map, List.getElem?_range hi]; rfl
        rw [e1, Ws, dif_pos (by omega)]
        rw [show 0 + i = i by omega]
        exact be32_w s i⟩
    obtain ⟨q1, q2⟩ := q
    generalize hr : go KN a b c d e f g k ((List.range 16).map (nbe s)) = r at q1 q2
    have hz : zL ini s = xlA s (fn8 ini) 64 := rfl
    have hx : ∀ i, i < 8 → IsW ((zL ini s).1 i) (r.getD i 0) := fun i hi => by
      rw [hz, xlA_Xs]; exact q2 i hi
    unfold tkN
    simp only [hr]
    match r, q1 with
    | [r0, r1, r2, r3, r4, r5, r6, r7], _ =>
      refine ⟨⟨rfl, fun i hi => ?_⟩, rfl⟩
      have hi : i < 8 := hi
      match i, hi with
      | 0, _ => exact add32_w (hx 0 (by omega)) (h.2 0 (show 0 < 8 by decide))
      | 1, _ => exact add32_w (hx 1 (by omega)) (h.2 1 (show 1 < 8 by decide))
      | 2, _ => exact add32_w (hx 2 (by omega)) (h.2 2 (show 2 < 8 by decide))
      | 3, _ => exact add32_w (hx 3 (by omega)) (h.2 3 (show 3 < 8 by decide))
      | 4, _ => exact add32_w (hx 4 (by omega)) (h.2 4 (show 4 < 8 by decide))
      | 5, _ => exact add32_w (hx 5 (by omega)) (h.2 5 (show 5 < 8 by decide))
      | 6, _ => exact add32_w (hx 6 (by omega)) (h.2 6 (show 6 < 8 by decide))
      | 7, _ => exact add32_w (hx 7 (by omega)) (h.2 7 (show 7 < 8 by decide))
/-! ### told digests -/
def finN : Nat → List Nat → List UInt8 → List Nat × List UInt8
  | 0, n, l => (n, l)
  | k + 1, n, l => if 64 ≤ l.length then finN k (tkN n ⟨(l.take 64).toArray⟩) (l.drop 64) else (n, l)
theorem blkS_told (l : List UInt8) (h : 64 ≤ l.length) : blkS ⟨l.toArray⟩ = ⟨(l.take 64).toArray⟩ := by
  unfold blkS
  congr 2
  refine List.ext_getElem (by simp; omega) fun i h1 h2 => ?_
  have hi : i < 64 := by simpa using h1
  simp only [List.getElem_map, List.getElem_range, List.getElem_take]
  unfold bAt
  have : (⟨l.toArray⟩ : ByteArray).data[i]? = some (l[i]'(by omega)) := by
    show l.toArray[i]? = _
    rw [List.getElem?_toArray]; exact List.getElem?_eq_getElem _
  rw [this]; rfl
theorem rstS_told (l : List UInt8) : rstS ⟨l.toArray⟩ = ⟨(l.drop 64).toArray⟩ := by
  unfold rstS
  apply ByteArray.ext
  rw [ByteArray.data_extract]
  show (l.toArray.extract 64 l.toArray.size) = (l.drop 64).toArray
  simp only [List.extract_toArray, List.size_toArray, List.extract_eq_take_drop]
  rw [List.take_of_length_le (by simp)]
theorem ba_size (l : List UInt8) : (⟨l.toArray⟩ : ByteArray).size = l.length := by
  show l.toArray.size = _
  simp
theorem finW_told : ∀ (k : Nat) (ini : List Int) (n : List Nat) (l : List UInt8), l.length < 64 * (k + 1) → IsWs ini n → n.length = 8 →
    IsWs (finW zL ini ⟨l.toArray⟩).1 (finN k n l).1 ∧ (finN k n l).1.length = 8 ∧ (finW zL ini ⟨l.toArray⟩).2 = ⟨(finN k n l).2.toArray⟩
  | 0, ini, n, l, h, hi, h8 => by
    rw [finW, dif_neg (show ¬ 64 ≤ (⟨l.toArray⟩ : ByteArray).size by rw [ba_size]; omega)]
    exact ⟨hi, h8, rfl⟩
  | k + 1, ini, n, l, h, hi, h8 => by
    unfold finN
    by_cases h64 : 64 ≤ l.length
    · rw [finW, dif_pos (show 64 ≤ (⟨l.toArray⟩ : ByteArray).size by rw [ba_size]; exact h64), if_pos h64, blkS_told l h64, rstS_told]
      have := tkF_N hi h8 ⟨(l.take 64).toArray⟩
      exact finW_told k _ _ (l.drop 64) (by simp; omega) this.1 this.2
    · rw [finW, dif_neg (show ¬ 64 ≤ (⟨l.toArray⟩ : ByteArray).size by rw [ba_size]; exact h64), if_neg h64]
      exact ⟨hi, h8, rfl⟩
def dgN (n : List Nat) (l : List UInt8) (m : Int) : List Nat :=
  if l.length < 56 then tkN n (blkL l m 0) else tkN (tkN n (blkL l m 0)) (blkL l m 1)
theorem dgW_N {ini : List Int} {n : List Nat} (h : IsWs ini n) (h8 : n.length = 8) (l : List UInt8) (m : Int) : IsWs (dgW zL ini l m) (dgN n l m) ∧ (dgN n l m).length = 8 := by
  have q := tkF_N h h8 (blkL l m 0)
  unfold dgW dgN
  split
  · exact q
  · exact tkF_N q.1 q.2 _
def ivN : List Nat := [1779033703, 3144134277, 1013904242, 2773480762, 1359893119, 2600822924, 528734635, 1541459225]
theorem iv_N : IsWs iv ivN := ⟨rfl, fun i hi => by
  have hi : i < 8 := hi
  match i, hi with
  | 0, _ | 1, _ | 2, _ | 3, _ | 4, _ | 5, _ | 6, _ | 7, _ => exact ⟨rfl, by decide⟩⟩
noncomputable def shN (l : List UInt8) : List Nat :=
  dgN (finN (l.length / 64) ivN l).1 (finN (l.length / 64) ivN l).2 (w64 0 ⟨l.toArray⟩)
theorem shN_ok (l : List UInt8) : IsWs (shL.S ⟨l.toArray⟩) (shN l) ∧ (shN l).length = 8 := by
  have h := finW_told (l.length / 64) iv ivN l (by omega) iv_N rfl
  show IsWs (dgW zL (finW zL iv ⟨l.toArray⟩).1 (finW zL iv ⟨l.toArray⟩).2.data.toList (w64 0 ⟨l.toArray⟩)) _ ∧ _
  rw [h.2.2]
  exact dgW_N h.1 h.2.1 _ _
def bN (n : List Nat) (i : Nat) : Nat := (n.getD (i / 4) 0 >>> (24 - 8 * (i % 4))) % 256
theorem dB_N {w : List Int} {n : List Nat} (h : IsWs w n) (h8 : n.length = 8) {i : Nat} (hi : i < 32) : dB w i = (bN n i : Nat) := by
  obtain ⟨e, _⟩ := shr32_w (h.2 (i / 4) (by omega)) (24 - 8 * (i % 4))
  unfold dB bN
  unfold shr32 at e
  rw [e, wu8]; omega
noncomputable def digN (l : List UInt8) : List Nat := (List.range 32).map (bN (shN l))
/-! ### what a handshake says: contracts that read its two blocks, wherever they lie -/
theorem frz {B B' : Nat} {η : Env} {w : World} {k : Nat} {wr : Bool} {l : List SV} (hb : BR B η w k (.cells wr l)) : BR B' η w k (.cells false l) :=
  ⟨fun wr' l' hro => by
    obtain ⟨b, p, q1, q2, q3, q4⟩ := hb.1 wr l rfl
    simp only [SO.row, Option.some.injEq, Prod.mk.injEq] at hro
    obtain ⟨rfl, rfl⟩ := hro
    exact ⟨b, p, q1, q2, (fun e => by cases e), fun i s hi => ⟨(q4 i s hi).1, fun e => by cases e⟩⟩, trivial⟩
def enK (b : Nat) (z : Int) (t : TypeId) : List SV := [.ptr b 0, .num .i64 z, .ifc t (.agg [.ptr b 0])]
theorem HR.three {B : Nat} {η : Env} {hp : List SO} {w : World} (h : HR B η hp w) {k0 kb k g : Nat} {wb wr : Bool} {gl lb : List SV} {z : Int} {t : TypeId} (h0 : hp[k0]? = some (.glob g gl)) (hb : hp[kb]? = some (.cells wb lb))
    (hk : hp[k]? = some (.cells wr (enK kb z t))) (hgf : frees gl = true) (hf : frees lb = true) :
    ∃ v0 vb vk, η[k]? = some vk ∧ ∀ B', HR B' [v0, vb, vk] [.glob g gl, .cells false lb, .cells false (enK 1 z t)] w := by
  have l0 : k0 < η.length := by rw [h.len]; exact (List.getElem?_eq_some_iff.1 h0).1
  have l1 : kb < η.length := by rw [h.len]; exact (List.getElem?_eq_some_iff.1 hb).1
  have l2 : k < η.length := by rw [h.len]; exact (List.getElem?_eq_some_iff.1 hk).1
  have e0 := List.getElem?_eq_getElem l0
  have e1 := List.getElem?_eq_getElem l1
  have e2 := List.getElem?_eq_getElem l2
  refine ⟨η[k0], η[kb], η[k], e2, fun B' => ⟨rfl, fun j o hj => ?_, ?_⟩⟩
  · match j, hj with
    | 0, hj =>
      simp at hj; subst hj
      have hbb := BR.glob_at (k' := 0) (η' := [η[k0], η[kb], η[k]]) hgf (fun x hx => by rw [e0] at hx; simpa using hx) (h.blk k0 _ h0)
      exact ⟨fun wr' l' hro => by
        obtain ⟨b, p, q1, q2, q3, q4⟩ := hbb.1 wr' l' hro
        simp only [SO.row, Option.some.injEq, Prod.mk.injEq] at hro
        obtain ⟨rfl, rfl⟩ := hro
        exact ⟨b, p, q1, q2, (fun e => by cases e), q4⟩, hbb.2⟩
    | 1, hj =>
      simp at hj; subst hj
      exact frz (BR.cells_at (k' := 1) (η' := [η[k0], η[kb], η[k]]) hf (fun x hx => by rw [e1] at hx; simpa using hx) (h.blk kb _ hb))
    | 2, hj =>
      simp at hj; subst hj
      have hr := BR.renOn (π := fun _ => 1) (k' := 2) (η' := [η[k0], η[kb], η[k]]) (fun i hi x hx => by
        have : i = kb := by simpa [SO.idxs, enK, idxss, SV.idxs] using hi
        subst this
        rw [e1] at hx; simpa using hx) (fun x hx => by rw [e2] at hx; simpa using hx) (h.blk k _ hk)
      exact frz hr
    | j + 3, hj => simp at hj
  · intro k₁ k₂ s₁ s₂ l₁ wr₂ l₂ b₁ o₁ b₂ o₂ h1 r1 h2 r2 hne q1 q2
    match k₁, h1 with
    | 0, h1 => simp at h1; subst h1; simp [SO.row] at r1
    | 1, h1 => simp at h1; subst h1; simp [SO.row] at r1
    | 2, h1 => simp at h1; subst h1; simp [SO.row] at r1
    | j + 3, h1 => simp at h1
def i0 : SV := .num .i64 0
def s0 : SV := .bts true []
def bf : SV := .bol false
def optS (sub form id tok non mac : SV) : SV := .agg [sub, i0, i0, bf, bf, .num .u64 0, .num .u64 0, i0, .num .u16 0, form, bf, id, tok, non, mac, bf, bf, bf, .num .u64 0, bf, bf, .num .u64 0, .num .u32 0, i0, bf, .num .u16 0, bf, i0, s0, bf, i0, s0, s0, bf, .num .u64 0, .num .u64 0, i0, i0]
def opt0 : SV := optS i0 i0 i0 (.num .u32 0) (.num .u32 0) s0
def txS (l : List UInt8) : SV := .val (.string ⟨l.toArray⟩)
def bsL (o p id n ot : Int) (hd : Bool) : List SV := [.val (.int .u64 o), .val (.int .u64 p), .val (.int .i64 id), .val (.int .u32 n), .val (.int .u32 ot), .bol hd]
noncomputable def hE (z : Int) (t : TypeId) (o p id n ot : Int) (hd : Bool) : List SO := [globS, .cells false (bsL o p id n ot hd), .cells false (enK 1 z t)]
noncomputable def sX (T : Int → Int) (S L : TxF) : Cx := enX ((tokF T).or (cutF S L))
/-- What is given, by function, kind of end, and whether the other one was heard. -/
noncomputable def enV (T : Int → Int) (S L : TxF) (f : FuncId) (z : Int) (t : TypeId) (o p id n ot : Int) (hd : Bool) (rest : List SV) : Option (SV × (Nat → List SV → Prop)) :=
  if f = 11 ∧ z = 0 ∧ t = 81 then (match rest with | [] => some (optS (.num .i64 1) i0 (.val (.int .i64 id)) (.val (.int .u32 (T p))) (.val (.int .u32 n)) s0, PTf T) | _ => none)
  else if f = 11 ∧ z = 1 ∧ t = 82 then (match rest with | [] => some (opt0, fun g gl => g = 0 ∧ gl = glL) | _ => none)
  else if f = 12 ∧ z = 1 ∧ t = 82 then (match rest with | [] => some (if hd then optS (.num .i64 1) (.num .i64 1) (.val (.int .i64 id)) (.num .u32 0) (.val (.int .u32 n)) (txS (S o p n ot)) else opt0, PSf S) | _ => none)
  else if f = 15 ∧ z = 0 ∧ t = 81 then (match rest with | [] => some (if hd then optS (.num .i64 1) (.num .i64 2) i0 (.num .u32 0) (.num .u32 0) (txS (L o p n ot)) else opt0, PLf L) | _ => none)
  else none
theorem e11t (T : Int → Int) (S L : TxF) (o p id n ot : Int) : givesV (topR (sX T S L) (run (sX T S L) 80) 11 [.ptr 2 0] (hE 0 81 o p id n ot true) []) (optS (.num .i64 1) i0 (.val (.int .i64 id)) (.val (.int .u32 (T p))) (.val (.int .u32 n)) s0) [PTf T 0 glL] := by unfold givesV; kernel_rfl
theorem e11at (T : Int → Int) (S L : TxF) (o p id n ot : Int) : givesV (topR (sX T S L) (run (sX T S L) 80) 11 [.ptr 2 0] (hE 1 82 o p id n ot true) []) opt0 [] := by unfold givesV; kernel_rfl
theorem e11f (T : Int → Int) (S L : TxF) (o p id n ot : Int) : givesV (topR (sX T S L) (run (sX T S L) 80) 11 [.ptr 2 0] (hE 0 81 o p id n ot false) []) (optS (.num .i64 1) i0 (.val (.int .i64 id)) (.val (.int .u32 (T p))) (.val (.int .u32 n)) s0) [PTf T 0 glL] := by unfold givesV; kernel_rfl
theorem e11af (T : Int → Int) (S L : TxF) (o p id n ot : Int) : givesV (topR (sX T S L) (run (sX T S L) 80) 11 [.ptr 2 0] (hE 1 82 o p id n ot false) []) opt0 [] := by unfold givesV; kernel_rfl
theorem e12t (T : Int → Int) (S L : TxF) (o p id n ot : Int) : givesV (topR (sX T S L) (run (sX T S L) 80) 12 [.ptr 2 0] (hE 1 82 o p id n ot true) []) (optS (.num .i64 1) (.num .i64 1) (.val (.int .i64 id)) (.num .u32 0) (.val (.int .u32 n)) (txS (S o p n ot))) [PSf S 0 glL] := by unfold givesV; kernel_rfl
theorem e12f (T : Int → Int) (S L : TxF) (o p id n ot : Int) : givesV (topR (sX T S L) (run (sX T S L) 80) 12 [.ptr 2 0] (hE 1 82 o p id n ot false) []) opt0 [PSf S 0 glL] := by unfold givesV; kernel_rfl
theorem e15t (T : Int → Int) (S L : TxF) (o p id n ot : Int) : givesV (topR (sX T S L) (run (sX T S L) 80) 15 [.ptr 2 0] (hE 0 81 o p id n ot true) []) (optS (.num .i64 1) (.num .i64 2) i0 (.num .u32 0) (.num .u32 0) (txS (L o p n ot))) [PLf L 0 glL] := by unfold givesV; kernel_rfl
theorem e15f (T : Int → Int) (S L : TxF) (o p id n ot : Int) : givesV (topR (sX T S L) (run (sX T S L) 80) 15 [.ptr 2 0] (hE 0 81 o p id n ot false) []) opt0 [PLf L 0 glL] := by unfold givesV; kernel_rfl
theorem e14t (T : Int → Int) (S L : TxF) (o p id n ot : Int) (m : ByteArray) : givesV (topR (sX T S L) (run (sX T S L) 80) 14 [.ptr 2 0, optS (.num .i64 1) (.num .i64 2) i0 (.num .u32 0) (.num .u32 0) (.val (.string m))] (hE 1 82 o p id n ot true) []) (.val (.bool (m.toList == (ByteArray.mk (L p o ot n).toArray).toList))) [PLf L 0 glL] := by unfold givesV; kernel_rfl
def numV (k : IntKind) : SV → Option Int
  | .num k' z => if k' = k then some z else none
  | .val (.int k' z) => if k' = k then some z else none
  | _ => none
theorem numV_R {k : IntKind} {s : SV} {z : Int} {η : Env} {v : Value} (h : numV k s = some z) (hR : R η s v) : R η (.val (.int k z)) v := by
  unfold numV at h
  split at h
  · split at h
    · rename_i e; subst e
      simp only [Option.some.injEq] at h; subst h
      simpa only [R] using hR
    · simp at h
  · split at h
    · rename_i e; subst e
      simp only [Option.some.injEq] at h; subst h
      simpa only [R] using hR
    · simp at h
  · simp at h
theorem numV_free {k : IntKind} {s : SV} {z : Int} (h : numV k s = some z) : s.free = true := by
  unfold numV at h
  split at h <;> first | rfl | simp at h
def same1 : SV → SV → Bool
  | .num k z, .num k' z' => decide (k = k') && decide (z = z')
  | .bol b, .bol b' => b == b'
  | .bts true [], .bts true [] => true
  | _, _ => false
theorem same1_eq {a b : SV} (h : same1 a b = true) : a = b := by
  unfold same1 at h
  split at h
  · simp only [Bool.and_eq_true, decide_eq_true_eq] at h
    rw [h.1, h.2]
  · simp only [beq_iff_eq] at h; rw [h]
  · rfl
  · simp at h
def sameL : List SV → List SV → Bool
  | [], [] => true
  | a :: l, b :: m => same1 a b && sameL l m
  | _, _ => false
theorem sameL_eq : ∀ {l m : List SV}, sameL l m = true → l = m
  | [], [], _ => rfl
  | a :: l, b :: m, h => by
    simp only [sameL, Bool.and_eq_true] at h
    rw [same1_eq h.1, sameL_eq h.2]
  | [], _ :: _, h => by simp [sameL] at h
  | _ :: _, [], h => by simp [sameL] at h
def preO : List SV := [.num .i64 1, i0, i0, bf, bf, .num .u64 0, .num .u64 0, i0, .num .u16 0, .num .i64 2, bf, i0, .num .u32 0, .num .u32 0]
def postO : List SV := [bf, bf, bf, .num .u64 0, bf, bf, .num .u64 0, .num .u32 0, i0, bf, .num .u16 0, bf, i0, s0, bf, i0, s0, s0, bf, .num .u64 0, .num .u64 0, i0, i0]
def macOf : SV → Option ByteArray
  | .agg l => match l.drop 14 with
    | .val (.string m) :: r => if sameL (l.take 14) preO && sameL r postO then some m else none
    | _ => none
  | _ => none
theorem macOf_eq {x : SV} {m : ByteArray} (h : macOf x = some m) : x = optS (.num .i64 1) (.num .i64 2) i0 (.num .u32 0) (.num .u32 0) (.val (.string m)) := by
  unfold macOf at h
  split at h
  · rename_i l
    split at h
    · rename_i m' r hd
      split at h
      · rename_i hs
        simp only [Bool.and_eq_true] at hs
        simp only [Option.some.injEq] at h; subst h
        have e1 := sameL_eq hs.1
        have e2 := sameL_eq hs.2
        rw [← List.take_append_drop 14 l, e1, hd, e2]; rfl
      · simp at h
    · simp at h
  · simp at h
noncomputable def enG (T : Int → Int) (S L : TxF) : Raw := fun f args hp =>
  match args, hp with
  | .ptr k 0 :: rest, .glob g gl :: _ =>
    match hp[k]? with
    | some (.cells _ [.ptr b 0, .num .i64 z, .ifc t (.agg [.ptr b' 0])]) =>
      if b' = b then
        match hp[b]? with
        | some (.cells _ [o, p, id, n, ot, .bol hd]) =>
          match numV .u64 o, numV .u64 p, numV .i64 id, numV .u32 n, numV .u32 ot with
          | some o, some p, some id, some n, some ot =>
            if f = 14 ∧ z = 1 ∧ t = 82 ∧ hd = true then
              (match rest with
              | [x] => match macOf x with
                | some m => some (.val (.bool (m.toList == (ByteArray.mk (L p o ot n).toArray).toList)), .pr (PLf L g gl))
                | none => none
              | _ => none)
            else match enV T S L f z t o p id n ot hd rest with
              | some (s, c) => some (s, .pr (c g gl))
              | none => none
          | _, _, _, _, _ => none
        | _ => none
      else none
    | _ => none
  | _, _ => none
theorem enG_ok (T : Int → Int) (S L : TxF) : (enG T S L).Ok := by
  intro f args hp s c h hc B η w vs hr hargs
  unfold enG at h
  split at h
  · rename_i k rest g gl r
    split at h
    · rename_i wr b z t b' hk
      split at h
      · rename_i hbb; subst hbb
        split at h
        · rename_i wb o p id n ot hd hb
          split at h
          · rename_i o' p' id' n' ot' h1 h2 h3 h4 h5
            -- on the three blocks
            have key : g = 0 → gl = glL → ∀ (f : FuncId) (rest' : List SV) (s' : SV) (Ls : List Prop) (ans : List Bool), frees rest' = true → Rs η rest' vs.tail → s'.free = true → AllP Ls →
                givesV (topR (sX T S L) (run (sX T S L) 80) f (.ptr 2 0 :: rest') (hE z t o' p' id' n' ot' hd) ans) s' Ls →
                Calls Tryd.prog f vs.toArray w (fun e w' => ∃ v, e = .returned v ∧ R [] s' v ∧ Below w.heap.size w w') := by
              intro hg0 hgl f rest' s' Ls ans hrf hrest hsf hA hgv
              subst hg0; subst hgl
              obtain ⟨v0, vb, vk, e2, hth⟩ := HR.three hr (k0 := 0) rfl hb hk (by decide) (by simp only [frees, numV_free h1, numV_free h2, numV_free h3, numV_free h4, numV_free h5, SV.free, Bool.and_self])
              have h6 := hr_cells (k := 1) (wr := false) (hth w.heap.size) (l' := bsL o' p' id' n' ot' hd) rfl rfl (fun i a a' ha ha' v hv => by
                match i with
                | 0 => simp [bsL] at ha ha'; subst ha; subst ha'; exact numV_R h1 hv
                | 1 => simp [bsL] at ha ha'; subst ha; subst ha'; exact numV_R h2 hv
                | 2 => simp [bsL] at ha ha'; subst ha; subst ha'; exact numV_R h3 hv
                | 3 => simp [bsL] at ha ha'; subst ha; subst ha'; exact numV_R h4 hv
                | 4 => simp [bsL] at ha ha'; subst ha; subst ha'; exact numV_R h5 hv
                | 5 => simp [bsL] at ha ha'; subst ha; subst ha'; exact hv
                | i + 6 => simp at ha)
              have hct : CtOk (sX T S L) := enX_ct (Raw.or_ok (tokF_ok _) (cutF_ok _ _))
              refine callsV (X := sX T S L) rfl hct (enX_lp _) 80 hgv hA hsf (η := [v0, vb, vk]) h6 ?_
              obtain ⟨a, x, rfl, g1, g2⟩ := hargs.cons_inv
              obtain ⟨b', o', x1, x2⟩ := g1
              rw [e2] at x1
              simp only [Option.some.injEq] at x1
              subst x1
              exact Rs.cons ⟨b', o', rfl, x2⟩ (Rs.free _ _ hrf (by simpa using hrest))
            have hrest : Rs η rest vs.tail := by
              obtain ⟨a, x, rfl, g1, g2⟩ := hargs.cons_inv
              exact g2
            split at h
            · rename_i hcase
              obtain ⟨rfl, rfl, rfl, rfl⟩ := hcase
              split at h
              · rename_i x
                split at h
                rotate_left
                · simp at h
                rename_i m hmx
                have hx := macOf_eq hmx
                subst hx
                simp only [Option.some.injEq, Prod.mk.injEq] at h
                obtain ⟨rfl, rfl⟩ := h
                obtain ⟨q1, q2, q3⟩ := hc
                exact key q2 q3 14 [optS (.num .i64 1) (.num .i64 2) i0 (.num .u32 0) (.num .u32 0) (.val (.string m))] _ [PLf L 0 glL] [] rfl hrest rfl ⟨⟨q1, rfl, rfl⟩, trivial⟩ (e14t T S L o' p' id' n' ot' m)
              · simp at h
            · split at h
              · rename_i s1 c1 hv
                simp only [Option.some.injEq, Prod.mk.injEq] at h
                obtain ⟨rfl, rfl⟩ := h
                have hc : c1 g gl := hc
                unfold enV at hv
                split at hv
                · rename_i hcase
                  obtain ⟨rfl, rfl, rfl⟩ := hcase
                  split at hv
                  · simp only [Option.some.injEq, Prod.mk.injEq] at hv
                    obtain ⟨rfl, rfl⟩ := hv
                    obtain ⟨q1, q2, q3⟩ := hc
                    exact (by cases hd with | true => exact key q2 q3 11 [] _ [PTf T 0 glL] [] rfl hrest rfl ⟨⟨q1, rfl, rfl⟩, trivial⟩ (e11t T S L o' p' id' n' ot') | false => exact key q2 q3 11 [] _ [PTf T 0 glL] [] rfl hrest rfl ⟨⟨q1, rfl, rfl⟩, trivial⟩ (e11f T S L o' p' id' n' ot'))
                  · simp at hv
                · split at hv
                  · rename_i hcase
                    obtain ⟨rfl, rfl, rfl⟩ := hcase
                    split at hv
                    · simp only [Option.some.injEq, Prod.mk.injEq] at hv
                      obtain ⟨rfl, rfl⟩ := hv
                      obtain ⟨q2, q3⟩ := hc
                      exact (by cases hd with | true => exact key q2 q3 11 [] _ [] [] rfl hrest rfl trivial (e11at T S L o' p' id' n' ot') | false => exact key q2 q3 11 [] _ [] [] rfl hrest rfl trivial (e11af T S L o' p' id' n' ot'))
                    · simp at hv
                  · split at hv
                    · rename_i hcase
                      obtain ⟨rfl, rfl, rfl⟩ := hcase
                      split at hv
                      · simp only [Option.some.injEq, Prod.mk.injEq] at hv
                        obtain ⟨rfl, rfl⟩ := hv
                        obtain ⟨q1, q2, q3⟩ := hc
                        cases hd with
                        | true => exact key q2 q3 12 [] _ [PSf S 0 glL] [] rfl hrest rfl ⟨⟨q1, rfl, rfl⟩, trivial⟩ (e12t T S L o' p' id' n' ot')
                        | false => exact key q2 q3 12 [] _ [PSf S 0 glL] [] rfl hrest rfl ⟨⟨q1, rfl, rfl⟩, trivial⟩ (e12f T S L o' p' id' n' ot')
                      · simp at hv
                    · split at hv
                      · rename_i hcase
                        obtain ⟨rfl, rfl, rfl⟩ := hcase
                        split at hv
                        · simp only [Option.some.injEq, Prod.mk.injEq] at hv
                          obtain ⟨rfl, rfl⟩ := hv
                          obtain ⟨q1, q2, q3⟩ := hc
                          cases hd with
                          | true => exact key q2 q3 15 [] _ [PLf L 0 glL] [] rfl hrest rfl ⟨⟨q1, rfl, rfl⟩, trivial⟩ (e15t T S L o' p' id' n' ot')
                          | false => exact key q2 q3 15 [] _ [PLf L 0 glL] [] rfl hrest rfl ⟨⟨q1, rfl, rfl⟩, trivial⟩ (e15f T S L o' p' id' n' ot')
                        · simp at hv
                      · simp at hv
              · simp at h
          · simp at h
        · simp at h
      · simp at h
    · simp at h
  · simp at h
/-! ### told codes -/
theorem byB_told (l : List UInt8) (i : Nat) (hi : i < 32) : byB (shL.S ⟨l.toArray⟩) i = UInt8.ofNat (bN (shN l) i) := by
  have q := shN_ok l
  unfold byB
  rw [dB_N q.1 q.2 hi]; rfl
noncomputable def inL (k t : List UInt8) : List UInt8 := mixL 54 k ++ t.map idB
noncomputable def outLk (k : List UInt8) (d : List Nat) : List UInt8 := mixL 92 k ++ (d.map UInt8.ofNat).map idB
noncomputable def hmN (k t : List UInt8) (i : Nat) : Nat := bN (shN (outLk k (digN (inL k t)))) i
theorem dgL_told (l : List UInt8) : dgL (shL.S ⟨l.toArray⟩) = (digN l).map UInt8.ofNat := by
  have q := shN_ok l
  unfold dgL digN
  rw [List.map_map]
  refine List.map_congr_left fun i hi => ?_
  rw [dB_N q.1 q.2 (by simpa using hi)]; rfl
theorem hmR_told (k t : List UInt8) (i : Nat) (hi : i < 32) : byB (hmR shL.S k t) i = UInt8.ofNat (hmN k t i) := by
  unfold hmR hmO
  have e : hmI k t = ⟨(inL k t).toArray⟩ := rfl
  rw [e, dgL_told]
  exact byB_told (outLk k (digN (inL k t))) i hi
def k12 : List UInt8 := [0, 0, 0, 0, 0, 0, 0, 1, 0, 0, 0, 0, 0, 0, 0, 2]
def t54 : List UInt8 := [0, 0, 0, 5, 0, 0, 0, 4]
def t45 : List UInt8 := [0, 0, 0, 4, 0, 0, 0, 5]
theorem odd_N : (UInt8.ofNat (hmN k12 t54 0) == UInt8.ofNat (hmN k12 t45 0)) = false := by kernel_rfl
theorem lg_head (n m a b : Int) : (lgW n m a b)[0]? = some (byB (macW n m a b) 0) := rfl
def tl (l : List UInt8) : List UInt8 := (ByteArray.mk l.toArray).toList
def eqT (x y : List UInt8) : Bool := tl x == tl y
theorem eqT_self (x : List UInt8) : eqT x x = true := beq_self_eq_true _
theorem eqT_eq {x y : List UInt8} (h : eqT x y = true) : x = y := by
  unfold eqT tl at h
  have h := eq_of_beq h
  have h2 : ByteArray.mk x.toArray = ByteArray.mk y.toArray := by
    apply ByteArray.ext
    have h3 := congrArg List.toArray h
    rw [ByteArray.toList_eq, ByteArray.toList_eq] at h
    simpa using h
  have := congrArg (fun b : ByteArray => b.data.toList) h2
  simpa using this
theorem odd_ne : eqT (lgW 1 2 5 4) (lgW 1 2 4 5) = false := by
  cases h : eqT (lgW 1 2 5 4) (lgW 1 2 4 5) with
  | false => rfl
  | true =>
    have e := congrArg (fun l : List UInt8 => l[0]?) (eqT_eq h)
    simp only [lg_head, Option.some.injEq] at e
    have e1 : byB (macW 1 2 5 4) 0 = UInt8.ofNat (hmN k12 t54 0) := hmR_told k12 t54 0 (by omega)
    have e2 : byB (macW 1 2 4 5) 0 = UInt8.ofNat (hmN k12 t45 0) := hmR_told k12 t45 0 (by omega)
    rw [e1, e2] at e
    have := odd_N
    rw [e] at this
    simp at this
/-! ### works -/
def eqBA (x y : List UInt8) : Bool := (ByteArray.mk x.toArray) == (ByteArray.mk y.toArray)
theorem eqBA_self (x : List UInt8) : eqBA x x = true := by
  show (x.toArray == x.toArray) = true
  exact beq_self_eq_true _
noncomputable def wkR (T : Int → Int) (S L : TxF) : Raw := (enG T S L).or ((tokF T).or (cutF S L))
theorem wkR_ok (T : Int → Int) (S L : TxF) : (wkR T S L).Ok := Raw.or_ok (enG_ok T S L) (Raw.or_ok (tokF_ok _) (cutF_ok _ _))
noncomputable def wkX (g : Raw) : Cx := guardX [46, 50, 31, 26, 27, 17] (rawP g)
noncomputable def LWk (T : Int → Int) (S L : TxF) : List Prop :=
  [PSf S 0 glL, PTf T 0 glL, 0 = 0 ∧ glL = glL, ((3 : Int) == 3) = true, PTf T 0 glL, (IntKind.u32.wrap (T 2 + 1) == T 2) = false, (!(IntKind.u32.wrap (T 2 + 1) == T 2)) = true, ((3 : Int) == 3) = true, PTf T 0 glL, (T 2 == T 2) = true, PSf S 0 glL, ((3 : Int) == 3) = true, PSf S 0 glL, eqT (S 2 1 5 4) (S 2 1 5 4) = true,
   PLf L 0 glL, PLf L 0 glL, PLf L 0 glL, (!(eqT (L 1 2 5 4) (L 1 2 4 5))) = true, PLf L 0 glL, PTf T 0 glL, ((T 2 == T 2 && true) && true) = true, (T 2 == T 2) = true, PSf S 0 glL, ((eqBA (S 2 1 5 4) (S 2 1 5 4) && true) && true) = true, eqT (S 2 1 5 4) (S 2 1 5 4) = true,
   PLf L 0 glL, ((eqBA (L 1 2 4 5) (L 1 2 4 5) && true) && true) = true]
theorem works_gives (T : Int → Int) (S L : TxF) : givesV (topR (wkX (wkR T S L)) (run (wkX (wkR T S L)) 80) 9 [] [globS] [true, false, true, true, true, true, true, true, true, true, true, true, true]) (.val (.bool (eqT (L 1 2 4 5) (L 1 2 4 5)))) (LWk T S L) := by
  unfold givesV; kernel_rfl
theorem next_ne (x : Int) : (IntKind.u32.wrap (x + 1) == x) = false := by
  rw [wu32]
  simp
  omega
theorem call9w {B : Nat} {η : Env} {hp : List SO} {k : Nat} {w : World} {vs : List Value} (hr : HR B η hp w) (hk : hp[k]? = some globS) (hargs : Rs [] [] vs) :
    Calls Tryd.prog 9 vs.toArray w (fun e w' => ∃ v, e = .returned v ∧ R [] (.bol true) v ∧ Below w.heap.size w w') := by
  obtain ⟨v, hv⟩ := HR.glob hr hk (by decide)
  have hok : (wkR tkT shW lgW).Ok := wkR_ok _ _ _
  have ps : PSf shW 0 glL := ⟨rfl, rfl, rfl⟩
  have pl : PLf lgW 0 glL := ⟨rfl, rfl, rfl⟩
  have pt : PTf tkT 0 glL := ⟨rfl, rfl, rfl⟩
  refine (callsV (X := wkX _) rfl (guardX_ct (rawP_ct hok)) (guardX_lp (rawP_lp _)) 80 (works_gives tkT shW lgW) ⟨ps, pt, ⟨rfl, rfl⟩, rfl, pt, next_ne _, by rw [next_ne]; rfl, rfl, pt, beq_self_eq_true _, ps, rfl, ps, eqT_self _, pl, pl, pl, by rw [odd_ne]; rfl, pl, pt, by rw [beq_self_eq_true]; rfl, beq_self_eq_true _, ps, by rw [eqBA_self]; rfl, eqT_self _, pl, by rw [eqBA_self]; rfl, trivial⟩ rfl (hv _) (Rs.free _ _ rfl hargs)).mono fun e w' hq => ?_
  obtain ⟨v, rfl, hR, hb⟩ := hq
  rw [eqT_self] at hR
  exact ⟨v, rfl, by simp only [R] at hR ⊢; exact hR, hb⟩
def Pg (g : Nat) (gl : List SV) : Prop := g = 0 ∧ gl = glL
def worksG : Raw := fun f args hp =>
  if f = 9 then
    match args, hp with
    | [], .glob g gl :: _ => some (.bol true, .pr (Pg g gl))
    | _, _ => none
  else none
theorem worksG_ok : worksG.Ok := by
  intro f args hp s c h hc B η w vs hr hargs
  unfold worksG at h
  split at h
  · rename_i hf; subst hf
    split at h
    · rename_i g gl r
      simp only [Option.some.injEq, Prod.mk.injEq] at h
      obtain ⟨rfl, rfl⟩ := h
      obtain ⟨rfl, rfl⟩ := hc
      exact call9w hr (k := 0) rfl (by simp only [Rs] at hargs; subst hargs; exact Rs.nil)
    · simp at h
  · simp at h
noncomputable def enR (T : Int → Int) (S L : TxF) : Raw := worksG.or (wkR T S L)
theorem enR_ok : (enR tkT shW lgW).Ok := Raw.or_ok worksG_ok (wkR_ok _ _ _)
end Go.Proofs.YtacgamdbmllaoaaDoor
