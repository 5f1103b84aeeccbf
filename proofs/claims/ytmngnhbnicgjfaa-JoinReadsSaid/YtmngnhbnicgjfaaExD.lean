/-
  A reckoner of programs and its soundness, part ExD: what it reckons is what 'Calls' says. No condition. By an AI agent.
-/
import Derived.Test.YtmngnhbnicgjfaaExC
import Derived.Laws.Strings
namespace Go.Ex
open Go.RowKit (Below)

/-! ### parts of a value -/
def svPart (P : Program) (t : TypeId) (l : List SV) (off : Nat) : Option SV :=
  match tagg P t with
  | some false => l[off]?
  | some true => (tsize P t).bind fun n => if off + n ≤ l.length then some (.agg ((l.drop off).take n)) else none
  | none => none
theorem svPart_ok {P : Program} {η : Env} {t : TypeId} {l : List SV} {off : Nat} {s : SV} (h : svPart P t l off = some s) {vs : Array Value} (hvs : Rs η l vs.toList) :
    ∃ v, R η s v ∧ ∀ w, (part t vs off).run P w = .ok v w := by
  unfold svPart at h
  split at h
  · rename_i ha
    obtain ⟨v, hv, hR⟩ := hvs.get h
    refine ⟨v, hR, fun w => ?_⟩
    have hv' : vs[off]? = some v := by simpa using hv
    simp [part, run_isAgg' ha, hv']
  · rename_i ha
    cases hn : tsize P t with
    | none => simp [hn] at h
    | some n =>
      simp only [hn, Option.bind_some] at h
      split at h
      · simp at h; subst h
        refine ⟨.agg (vs.extract off (off + n)), ⟨_, rfl, ?_⟩, fun w => ?_⟩
        · have := (hvs.drop off).take n
          simpa [Array.toList_extract, List.extract_eq_take_drop] using this
        · simp [part, run_isAgg' ha, run_sizeOf' hn]
      · simp at h
  · simp at h

def opField (P : Program) (ty : TypeId) (x : SV) (fi : Nat) : OR :=
  match x with
  | .agg l =>
    match P.underlying ty with
    | some (.struct fields) =>
      match fields[fi]? with
      | some f => match svPart P f.type l f.offset with
        | some s => .pure s .tt
        | none => .bad
      | none => .bad
    | _ => .bad
  | _ => .bad
theorem opField_ok {P : Program} {η : Env} {hp : List SO} {ty : TypeId} {x : SV} {vx : Value} {fi : Nat} (hx : R η x vx) :
    OrOk η hp (fun w => (Instr.field ty vx fi).run P w) (opField P ty x fi) := by
  unfold opField
  split
  · rename_i l
    simp only [R] at hx
    obtain ⟨vs, rfl, hvs⟩ := hx
    split
    · rename_i fields hu
      split
      · rename_i f hf
        split
        · rename_i s hs
          obtain ⟨v, hR, hv⟩ := svPart_ok hs hvs
          exact OrOk.value hR fun w => by simp [Instr.field, run_underlying hu, hf, asAgg, hv]
        · trivial
      · trivial
    · trivial
  · trivial

def opFieldAddr (P : Program) (ty : TypeId) (x : SV) (fi : Nat) : OR :=
  match x with
  | .ptr k off =>
    match P.underlying ty with
    | some (.struct fields) =>
      match fields[fi]? with
      | some f => match tsize P f.type with
        | some (_ + 1) => .pure (.ptr k (off + f.offset)) .tt
        | _ => .bad
      | none => .bad
    | _ => .bad
  | _ => .bad
theorem opFieldAddr_ok {P : Program} {η : Env} {hp : List SO} {ty : TypeId} {x : SV} {vx : Value} {fi : Nat} (hx : R η x vx) :
    OrOk η hp (fun w => (Instr.fieldAt ty vx fi).run P w) (opFieldAddr P ty x fi) := by
  unfold opFieldAddr
  split
  · rename_i k off
    simp only [R] at hx
    obtain ⟨b, o, he, rfl⟩ := hx
    split
    · rename_i fields hu
      split
      · rename_i f hf
        split
        · rename_i n hn
          exact OrOk.value (v := .pointer (some ⟨b, o + off + f.offset, none⟩)) ⟨b, o, he, by rw [Nat.add_assoc]⟩
            fun w => by simp [Instr.fieldAt, run_underlying hu, hf, Instr.sureAddr, fieldPlace, run_sizeOf' hn, add_at]
        · trivial
      · trivial
    · trivial
  · trivial

/-! ### an index -/
def byteAt (s : ByteArray) (i : Int) : Int := if h : i.toNat < s.size then ((s[i.toNat]'h).toNat : Int) else 0

def opIndex (P : Program) (ty : TypeId) (x ix : SV) : OR :=
  match x, ix with
  | .agg l, .num _ z =>
    match P.underlying ty with
    | some (.array len elem) =>
      if 0 ≤ z ∧ z < len then
        match tsize P elem with
        | some n => match svPart P elem l (z.toNat * n) with
          | some s => .pure s .tt
          | none => .bad
        | none => .bad
      else .bad
    | _ => .bad
  | .bts true l, .num _ z =>
    if 0 ≤ z ∧ z < l.length then
      match P.underlying ty with
      | some .string => .pure (.num .u8 (byteAt ⟨l.toArray⟩ z)) .tt
      | _ => .bad
    else .bad
  | .bts false l, .num _ z =>
    if 0 ≤ z then
      match l[z.toNat]?, P.underlying ty with
      | some b, some .string => .pure (.val (.int .u8 b.toNat)) .tt
      | _, _ => .bad
    else .bad
  | x, ix =>
    match x.val?, ix.val?, P.underlying ty with
    | some (.string s), some (.int _ i), some .string => .pure (.val (.int .u8 (byteAt s i))) (.pr (0 ≤ i ∧ i < s.size))
    | _, _, _ => .bad
theorem opIndex_ok {P : Program} {η : Env} {hp : List SO} {ty : TypeId} {x ix : SV} {vx vi : Value} (hx : R η x vx) (hi : R η ix vi) :
    OrOk η hp (fun w => (Instr.index ty vx vi).run P w) (opIndex P ty x ix) := by
  unfold opIndex
  split
  · rename_i l k z
    simp only [R] at hx hi
    obtain ⟨vs, rfl, hvs⟩ := hx
    subst hi
    split
    · rename_i len elem hu
      split
      · rename_i hz
        split
        · rename_i n hn
          split
          · rename_i s hs
            obtain ⟨v, hR, hv⟩ := svPart_ok hs hvs
            exact OrOk.value hR fun w => by simp [Instr.index, asIntOf, run_underlying hu, hz, run_sizeOf' hn, hv]
          · trivial
        · trivial
      · trivial
    · trivial
  · rename_i l k z
    simp only [R] at hx hi
    subst hx; subst hi
    split
    · rename_i hz
      split
      · rename_i hu
        have hsz : (⟨l.toArray⟩ : ByteArray).size = l.length := by show l.toArray.size = _; simp
        refine OrOk.value (v := .int .u8 (byteAt ⟨l.toArray⟩ z)) (by simp only [R]) fun w => ?_
        have hlt : z.toNat < (⟨l.toArray⟩ : ByteArray).size := by rw [hsz]; omega
        have he : (⟨l.toArray⟩ : ByteArray)[z.toNat]? = some (⟨l.toArray⟩ : ByteArray)[z.toNat] := ByteArray.getElem?_lt' _ _ hlt
        simp only [Instr.index, asIntOf, Sem.run_bind, Sem.run_pure, Result.andThen_ok, run_underlying hu, hz.1, if_true, he, byteAt, hlt, dif_pos]
      · trivial
    · trivial
  · rename_i l k z
    simp only [R] at hx hi
    subst hx; subst hi
    split
    · rename_i hz
      split
      · rename_i b hb hu
        have hsz : (⟨l.toArray⟩ : ByteArray).size = l.length := by show l.toArray.size = _; simp
        have hl : z.toNat < l.length := (List.getElem?_eq_some_iff.1 hb).1
        refine OrOk.value (v := .int .u8 b.toNat) (by simp only [R]) fun w => ?_
        have hlt : z.toNat < (⟨l.toArray⟩ : ByteArray).size := by rw [hsz]; omega
        have he : (⟨l.toArray⟩ : ByteArray)[z.toNat]? = some (⟨l.toArray⟩ : ByteArray)[z.toNat] := ByteArray.getElem?_lt' _ _ hlt
        have hbb : (⟨l.toArray⟩ : ByteArray)[z.toNat] = b := by
          have e : (⟨l.toArray⟩ : ByteArray)[z.toNat] = l[z.toNat] := rfl
          rw [e]; exact (List.getElem?_eq_some_iff.1 hb).2
        simp only [Instr.index, asIntOf, Sem.run_bind, Sem.run_pure, Result.andThen_ok, run_underlying hu, hz, if_true, he, hbb]
      · trivial
    · trivial
  · split
    · rename_i s k i h1 h2 hu
      have e1 := SV.val?_R h1 hx
      have e2 := SV.val?_R h2 hi
      subst e1; subst e2
      intro (hc : 0 ≤ i ∧ i < s.size) B w hr
      refine ⟨.int .u8 (byteAt s i), by simp only [R], ?_⟩
      have hlt : i.toNat < s.size := by omega
      simp [Instr.index, asIntOf, run_underlying hu, hc.1, byteAt, hlt]
    · trivial

def opIndexAddr (P : Program) (ty : TypeId) (x ix : SV) : OR :=
  match ix with
  | .num _ z =>
    match x, P.underlying ty with
    | .ptr k off, some (.array len elem) =>
      match tsize P elem with
      | some n => if 0 ≤ z ∧ z < len then .pure (.ptr k (off + z.toNat * n)) .tt else .bad
      | none => .bad
    | .slc k off len _, some (.slice elem) =>
      match tsize P elem with
      | some n => if 0 ≤ z ∧ z < len then .pure (.ptr k (off + z.toNat * n)) .tt else .bad
      | none => .bad
    | .sle k off len _, some (.slice elem) =>
      match tsize P elem with
      | some n => if 0 ≤ z ∧ z < len then .pure (.ptr k (off + z.toNat * n)) .tt else .bad
      | none => .bad
    | _, _ => .bad
  | _ => .bad
theorem opIndexAddr_ok {P : Program} {η : Env} {hp : List SO} {ty : TypeId} {x ix : SV} {vx vi : Value} (hx : R η x vx) (hi : R η ix vi) :
    OrOk η hp (fun w => (Instr.indexAt ty vx vi).run P w) (opIndexAddr P ty x ix) := by
  unfold opIndexAddr
  split
  · rename_i kk z
    simp only [R] at hi
    subst hi
    split
    · rename_i k off len elem hu
      simp only [R] at hx
      obtain ⟨b, o, he, rfl⟩ := hx
      split
      · rename_i n hn
        split
        · rename_i hz
          exact OrOk.value (v := .pointer (some ⟨b, o + off + z.toNat * n, none⟩)) ⟨b, o, he, by rw [Nat.add_assoc]⟩
            fun w => by simp [Instr.indexAt, asIntOf, run_underlying hu, Instr.sureAddr, hz, run_sizeOf' hn, add_at]
        · trivial
      · trivial
    · rename_i k off len cap elem hu
      simp only [R] at hx
      obtain ⟨b, o, he, rfl⟩ := hx
      split
      · rename_i n hn
        split
        · rename_i hz
          exact OrOk.value (v := .pointer (some ⟨b, o + off + z.toNat * n, none⟩)) ⟨b, o, he, by rw [Nat.add_assoc]⟩
            fun w => by simp [Instr.indexAt, asIntOf, run_underlying hu, hz, run_sizeOf' hn, add_at]
        · trivial
      · trivial
    · rename_i k off len kc elem hu
      simp only [R] at hx
      obtain ⟨b, o, c, he, _, _, rfl⟩ := hx
      split
      · rename_i n hn
        split
        · rename_i hz
          exact OrOk.value (v := .pointer (some ⟨b, o + off + z.toNat * n, none⟩)) ⟨b, o, he, by rw [Nat.add_assoc]⟩
            fun w => by simp [Instr.indexAt, asIntOf, run_underlying hu, hz, run_sizeOf' hn, add_at]
        · trivial
      · trivial
    · trivial
  · trivial

/-! ### a slice expression -/
/-- A told bound. -/
def bnd (dflt : Nat) : Option SV → Option Nat
  | none => some dflt
  | some (.num _ z) => if 0 ≤ z then some z.toNat else none
  | _ => none
/-- Both are there, and go together, or neither. -/
def Ro (η : Env) : Option SV → Option Value → Prop
  | none, none => True
  | some s, some v => R η s v
  | _, _ => False
theorem run_sliceBounds {P : Program} {η : Env} {len cap l h : Nat} {lo hi : Option SV} {vlo vhi : Option Value} (hlo : Ro η lo vlo) (hhi : Ro η hi vhi)
    (e1 : bnd 0 lo = some l) (e2 : bnd len hi = some h) (c1 : l ≤ h) (c2 : h ≤ cap) (isS : Bool) (w : World) :
    (Instr.sliceBounds isS len cap vlo vhi none).run P w = .ok (l, h, cap) w := by
  have sb : ∀ (s : SV) (v : Value) (n y : Nat) (code : BoundsCode), R η s v → bnd 0 (some s) = some n → n ≤ y → (Instr.sliceBound v y code).run P w = .ok n w := by
    intro s v n y code hR hb hle
    cases s <;> simp [bnd] at hb
    simp only [R] at hR
    subst hR
    obtain ⟨h0, rfl⟩ := hb
    rename_i z
    have : z ≤ (y : Int) := by omega
    simp [Instr.sliceBound, asIntOf, h0, this]
  have nb : ∀ (s : SV) (d d' : Nat), bnd d (some s) = bnd d' (some s) := fun s d d' => by cases s <;> rfl
  unfold Instr.sliceBounds
  cases lo with
  | none =>
    cases vlo with
    | some _ => exact hlo.elim
    | none =>
      simp [bnd] at e1; subst e1
      cases hi with
      | none =>
        cases vhi with
        | some _ => exact hhi.elim
        | none => simp [bnd] at e2; subst e2; simp
      | some s =>
        cases vhi with
        | none => exact hhi.elim
        | some v => simp [sb s v h cap _ hhi (by rw [nb s 0 len]; exact e2) c2]
  | some s =>
    cases vlo with
    | none => exact hlo.elim
    | some v =>
      cases hi with
      | none =>
        cases vhi with
        | some _ => exact hhi.elim
        | none => simp [bnd] at e2; subst e2; simp [sb s v l len _ hlo e1 c1]
      | some s' =>
        cases vhi with
        | none => exact hhi.elim
        | some v' => simp [sb s v l h _ hlo e1 c1, sb s' v' h cap _ hhi (by rw [nb s' 0 len]; exact e2) c2]

/-- The number of a bound, told or not. -/
def ibnd (dflt : Int) : Option SV → Option Int
  | none => some dflt
  | some s => match s.val? with
    | some (.int _ i) => some i
    | _ => none
theorem run_sliceBounds' {P : Program} {η : Env} {len : Nat} {l h : Int} {lo hi : Option SV} {vlo vhi : Option Value} (hlo : Ro η lo vlo) (hhi : Ro η hi vhi)
    (e1 : ibnd 0 lo = some l) (e2 : ibnd len hi = some h) (c0 : 0 ≤ l) (c1 : l ≤ h) (c2 : h ≤ len) (isS : Bool) (w : World) :
    (Instr.sliceBounds isS len len vlo vhi none).run P w = .ok (l.toNat, h.toNat, len) w := by
  have sb : ∀ (s : SV) (v : Value) (n : Int) (y : Nat) (code : BoundsCode) (d : Int), R η s v → ibnd d (some s) = some n → 0 ≤ n → n ≤ y → (Instr.sliceBound v y code).run P w = .ok n.toNat w := by
    intro s v n y code d hR hb h0 hle
    simp only [ibnd] at hb
    split at hb
    · rename_i k i hv
      simp at hb; subst hb
      have := SV.val?_R hv hR
      subst this
      simp [Instr.sliceBound, asIntOf, h0, hle]
    · simp at hb
  have hh : h.toNat = h := by omega
  unfold Instr.sliceBounds
  cases lo with
  | none =>
    cases vlo with
    | some _ => exact hlo.elim
    | none =>
      simp [ibnd] at e1; subst e1
      cases hi with
      | none =>
        cases vhi with
        | some _ => exact hhi.elim
        | none => simp [ibnd] at e2; subst e2; simp
      | some s =>
        cases vhi with
        | none => exact hhi.elim
        | some v => simp [sb s v h len _ _ hhi e2 (by omega) c2]
  | some s =>
    cases vlo with
    | none => exact hlo.elim
    | some v =>
      cases hi with
      | none =>
        cases vhi with
        | some _ => exact hhi.elim
        | none => simp [ibnd] at e2; subst e2; simp [sb s v l len _ _ hlo e1 c0 (by omega)]
      | some s' =>
        cases vhi with
        | none => exact hhi.elim
        | some v' => simp [sb s v l h.toNat _ _ hlo e1 c0 (by omega), sb s' v' h len _ _ hhi e2 (by omega) c2]

theorem ba_extract (l : List UInt8) (i j : Nat) : (⟨l.toArray⟩ : ByteArray).extract i j = ⟨((l.take j).drop i).toArray⟩ := by
  apply ByteArray.ext
  rw [ByteArray.data_extract]
  apply Array.toList_inj.1
  simp [List.extract_eq_take_drop, List.drop_take]

/-- A byte. -/
def bAt (s : ByteArray) (i : Nat) : UInt8 := (s.data[i]?).getD 0
/-- The bytes of a piece, spelled out. -/
def cutL (s : ByteArray) : Nat → Nat → List UInt8
  | _, 0 => []
  | i, n + 1 => bAt s i :: cutL s (i + 1) n
theorem cutL_length (s : ByteArray) : ∀ (n i : Nat), (cutL s i n).length = n
  | 0, _ => rfl
  | n + 1, i => by simp [cutL, cutL_length s n]
theorem cutL_get (s : ByteArray) : ∀ (n i k : Nat), k < n → (cutL s i n)[k]? = some (bAt s (i + k))
  | 0, _, _, h => by omega
  | n + 1, i, 0, _ => by simp [cutL]
  | n + 1, i, k + 1, h => by
    simp only [cutL, List.getElem?_cons_succ]
    rw [cutL_get s n (i + 1) k (by omega), show i + 1 + k = i + (k + 1) by omega]
theorem cutL_eq {s : ByteArray} {i j : Nat} (h : i ≤ j) (hj : j ≤ s.size) : (⟨(cutL s i (j - i)).toArray⟩ : ByteArray) = s.extract i j := by
  have hs : s.size = s.data.size := rfl
  apply ByteArray.ext
  rw [ByteArray.data_extract]
  apply Array.toList_inj.1
  apply List.ext_getElem?
  intro k
  by_cases hk : k < j - i
  · simp only []
    rw [cutL_get s _ _ _ hk]
    have : i + k < s.data.size := by omega
    simp [bAt, Array.getElem?_eq_getElem this, List.extract_eq_take_drop, List.getElem?_take_of_lt hk]
  · rw [List.getElem?_eq_none (by simp [cutL_length]; omega), List.getElem?_eq_none (by simp [List.extract_eq_take_drop]; omega)]

/-- A bound that is typed, and told. -/
def hbnd : Option SV → Option Nat
  | none => none
  | some s => bnd 0 (some s)

def opSlice (P : Program) (ty : TypeId) (x : SV) (lo hi mx : Option SV) : OR :=
  match mx with
  | some _ => .bad
  | none =>
    match P.underlying ty, x with
    | some .string, .bts told l =>
      match bnd 0 lo, bnd l.length hi with
      | some i, some j => if i ≤ j ∧ j ≤ l.length then .pure (.bts told ((l.take j).drop i)) .tt else .bad
      | _, _ =>
        match ibnd 0 lo, ibnd (l.length : Int) hi with
        | some i, some j => .pure (.val (.string ((⟨l.toArray⟩ : ByteArray).extract i.toNat j.toNat))) (.pr (0 ≤ i ∧ i ≤ j ∧ j ≤ l.length))
        | _, _ => .bad
    | some .string, .val (.string s) =>
      match bnd 0 lo, hbnd hi with
      | some i, some j => .pure (.bts false (cutL s i (j - i))) (.pr (i ≤ j ∧ j ≤ s.size))
      | _, _ =>
        match ibnd 0 lo, ibnd (s.size : Int) hi with
        | some i, some j => .pure (.val (.string (s.extract i.toNat j.toNat))) (.pr (0 ≤ i ∧ i ≤ j ∧ j ≤ s.size))
        | _, _ => .bad
    | some (.array n elem), .ptr k off =>
      match bnd 0 lo, bnd n hi, tsize P elem with
      | some i, some j, some sz => if i ≤ j ∧ j ≤ n then .pure (.slc k (if n = i then off else off + i * sz) (j - i) (n - i)) .tt else .bad
      | _, _, _ => .bad
    | some (.slice elem), .slc k off len cap =>
      match bnd 0 lo, bnd len hi, tsize P elem with
      | some i, some j, some sz => if i ≤ j ∧ j ≤ cap then .pure (.slc k (if cap = i then off else off + i * sz) (j - i) (cap - i)) .tt else .bad
      | _, _, _ => .bad
    | _, _ => .bad
theorem opSlice_ok {P : Program} {η : Env} {hp : List SO} {ty : TypeId} {x : SV} {vx : Value} {lo hi mx : Option SV} {vlo vhi vmx : Option Value}
    (hx : R η x vx) (hlo : Ro η lo vlo) (hhi : Ro η hi vhi) (hmx : Ro η mx vmx) :
    OrOk η hp (fun w => (Instr.sliceAt ty vx vlo vhi vmx).run P w) (opSlice P ty x lo hi mx) := by
  unfold opSlice
  cases mx with
  | some _ => trivial
  | none =>
    cases vmx with
    | some _ => exact hmx.elim
    | none =>
      simp only []
      split
      · rename_i told l hu
        simp only [R] at hx
        subst hx
        have hsz : (⟨l.toArray⟩ : ByteArray).size = l.length := by simp [ByteArray.size]
        split
        · rename_i i j e1 e2
          split
          · rename_i hc
            refine OrOk.value (v := .string ⟨((l.take j).drop i).toArray⟩) (by simp only [R]) fun w => ?_
            have := run_sliceBounds (P := P) (cap := l.length) hlo hhi e1 e2 hc.1 hc.2 false w
            simp [Instr.sliceAt, Instr.slice, run_underlying hu, hsz, this, ba_extract]
          · trivial
        · split
          · rename_i i j e1 e2
            intro hc B w hr; simp only [Cnd.Is] at hc
            refine ⟨.string ((⟨l.toArray⟩ : ByteArray).extract i.toNat j.toNat), by simp only [R], ?_⟩
            have := run_sliceBounds' (P := P) hlo hhi e1 e2 hc.1 hc.2.1 hc.2.2 false w
            simp [Instr.sliceAt, Instr.slice, run_underlying hu, hsz, this]
          · trivial
      · rename_i s hu
        simp only [R] at hx
        subst hx
        split
        · rename_i i j e1 e2
          intro hc B w hr; simp only [Cnd.Is] at hc
          refine ⟨.string ⟨(cutL s i (j - i)).toArray⟩, by simp only [R], ?_⟩
          have e2' : bnd s.size hi = some j := by
            cases hi with
            | none => simp [hbnd] at e2
            | some q => cases q <;> simp [hbnd, bnd] at e2 ⊢ <;> exact e2
          have := run_sliceBounds (P := P) (cap := s.size) hlo hhi e1 e2' hc.1 hc.2 false w
          simp only []
          rw [cutL_eq hc.1 hc.2]
          simp [Instr.sliceAt, Instr.slice, run_underlying hu, this]
        · split
          · rename_i i j e1 e2
            intro hc B w hr; simp only [Cnd.Is] at hc
            refine ⟨.string (s.extract i.toNat j.toNat), by simp only [R], ?_⟩
            have := run_sliceBounds' (P := P) hlo hhi e1 e2 hc.1 hc.2.1 hc.2.2 false w
            simp [Instr.sliceAt, Instr.slice, run_underlying hu, this]
          · trivial
      · rename_i n elem k off hu
        simp only [R] at hx
        obtain ⟨b, o, he, rfl⟩ := hx
        split
        · rename_i i j sz e1 e2 hsz
          split
          · rename_i hc
            refine OrOk.value (v := .slice (some ⟨b, o + (if n = i then off else off + i * sz), none⟩) (j - i) (n - i)) ⟨b, o, he, rfl⟩ fun w => ?_
            have := run_sliceBounds (P := P) (cap := n) hlo hhi e1 e2 hc.1 hc.2 false w
            simp [Instr.sliceAt, run_underlying hu, Instr.sureAddr, this, run_sizeOf' hsz, add_at]
            split <;> simp [Nat.add_assoc]
          · trivial
        · trivial
      · rename_i elem k off len cap hu
        simp only [R] at hx
        obtain ⟨b, o, he, rfl⟩ := hx
        split
        · rename_i i j sz e1 e2 hsz
          split
          · rename_i hc
            refine OrOk.value (v := .slice (some ⟨b, o + (if cap = i then off else off + i * sz), none⟩) (j - i) (cap - i)) ⟨b, o, he, rfl⟩ fun w => ?_
            have := run_sliceBounds (P := P) (cap := cap) hlo hhi e1 e2 hc.1 hc.2 true w
            simp [Instr.sliceAt, Instr.slice, run_underlying hu, this, run_sizeOf' hsz, add_at]
            split <;> simp [Nat.add_assoc]
          · trivial
        · trivial
      · trivial
end Go.Ex
