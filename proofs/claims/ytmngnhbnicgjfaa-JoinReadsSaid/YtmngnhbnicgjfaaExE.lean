/-
  A reckoner of programs and its soundness, part ExE: what it reckons is what 'Calls' says. No condition. By an AI agent.
-/
import Derived.Test.YtmngnhbnicgjfaaExD
import Derived.Laws.Tables
import Derived.Laws.BytesString
import Derived.Laws.Concat
import Derived.Laws.StructEq
namespace Go.Ex
open Go.RowKit (Below)

/-! ### a composite literal -/
def svFill (place : Nat → Option (Nat × Nat)) (cells : List SV) : List (Nat × SV) → Option (List SV)
  | [] => some cells
  | (i, s) :: rest =>
    match place i, s.cells with
    | some (off, size), some cs => if cs.length = size ∧ off + size ≤ cells.length then svFill place (setAll cells off cs) rest else none
    | _, _ => none

theorem foldl_set {η : Env} : ∀ (cs : List SV) (us : List Value) (n : Nat) (l : List SV) (vs : Array Value) (off : Nat), Rs η cs us → Rs η l vs.toList →
    Rs η (setAll l (off + n) cs) ((us.zipIdx n).foldl (fun (a : Array Value) (x : Value × Nat) => a.setIfInBounds (off + x.2) x.1) vs).toList
  | [], us, n, l, vs, off, h, hl => by
    simp only [Rs] at h; subst h; simpa [setAll] using hl
  | s :: cs, us, n, l, vs, off, h, hl => by
    obtain ⟨u, us', rfl, hu, hus⟩ := h.cons_inv
    simp only [List.zipIdx_cons, List.foldl_cons, setAll]
    have := foldl_set cs us' (n + 1) (l.set (off + n) s) (vs.setIfInBounds (off + n) u) off hus (by
      rw [Array.toList_setIfInBounds]; exact hl.set hu)
    rwa [show off + (n + 1) = off + n + 1 by omega] at this

theorem svFill_ok {η : Env} {place : Nat → Option (Nat × Nat)} : ∀ (parts : List (Nat × SV)) (vparts : List (Nat × Value)) (cells : List SV) (vs : Array Value) (r : List SV),
    parts.map (·.1) = vparts.map (·.1) → Rs η (parts.map (·.2)) (vparts.map (·.2)) → Rs η cells vs.toList → svFill place cells parts = some r →
    ∃ us, Instr.fill place vs vparts = some us ∧ Rs η r us.toList
  | [], vparts, cells, vs, r, h1, _, hc, h => by
    have : vparts = [] := by simpa using h1.symm
    subst this
    simp [svFill] at h; subst h
    exact ⟨vs, by simp [Instr.fill], hc⟩
  | (i, s) :: parts, [], cells, vs, r, h1, _, hc, h => by simp at h1
  | (i, s) :: parts, (j, v) :: vparts, cells, vs, r, h1, h2, hc, h => by
    simp only [List.map_cons, List.cons.injEq] at h1
    obtain ⟨rfl, h1⟩ := h1
    simp only [List.map_cons] at h2
    obtain ⟨v', r', he, hv, h2⟩ := h2.cons_inv
    obtain ⟨rfl, rfl⟩ := List.cons.inj he
    simp only [svFill] at h
    split at h
    · rename_i off size cs hp hcs
      split at h
      · rename_i hsz
        obtain ⟨hR, _⟩ := SV.cells_R hcs hv
        have hl := hR.length
        have hl2 := hc.length
        rw [Array.length_toList] at hl hl2
        have hset := foldl_set cs v.cells.toList 0 cells vs off hR hc
        obtain ⟨us, hus, hRus⟩ := svFill_ok parts vparts (setAll cells off cs) _ r h1 h2 hset h
        refine ⟨us, ?_, hRus⟩
        rw [← hus]
        simp only [Instr.fill, hp]
        have hcond : (decide (v.cells.size ≠ size) || decide (off + v.cells.size > vs.size)) = false := by
          simp; omega
        simp only [Bool.or_eq_false_iff, decide_eq_false_iff_not] at hcond
        rw [if_neg (by simp; omega)]
        congr 1
        rw [← Array.foldl_toList, Array.toList_zipIdx]
      · simp at h
    · simp at h

def opBuild (P : Program) (ty : TypeId) (parts : List (Nat × SV)) : OR :=
  match P.info? ty, P.underlying ty with
  | some it, some (.array _ e) =>
    match it.zero, P.info? e with
    | some z, some ie => match svFill (fun i => some (i * ie.size, ie.size)) (z.cells.toList.map ofV1) parts with
      | some l => .pure (.agg l) .tt
      | none => .bad
    | _, _ => .bad
  | some it, some (.struct fields) =>
    match it.zero, fields.toList.mapM (fun f => (P.info? f.type).map fun i => (f.offset, i.size)) with
    | some z, some places => match svFill (fun i => places[i]?) (z.cells.toList.map ofV1) parts with
      | some l => .pure (.agg l) .tt
      | none => .bad
    | _, _ => .bad
  | _, _ => .bad
theorem opBuild_ok {P : Program} {η : Env} {hp : List SO} {ty : TypeId} {parts : List (Nat × SV)} {vparts : Array (Nat × Value)}
    (h1 : parts.map (·.1) = vparts.toList.map (·.1)) (h2 : Rs η (parts.map (·.2)) (vparts.toList.map (·.2))) :
    OrOk η hp (fun w => (Instr.build ty vparts).run P w) (opBuild P ty parts) := by
  unfold opBuild
  split
  · rename_i it n e hi hu
    split
    · rename_i z ie hz hie
      split
      · rename_i l hl
        obtain ⟨us, hus, hR⟩ := svFill_ok parts vparts.toList _ z.cells l h1 h2 (ofV1s_R η _) hl
        refine OrOk.value (v := .agg us) ⟨us, rfl, hR⟩ fun w => run_build w ty vparts us ?_
        simp only [Program.built, hi, hu, hz, hie]
        exact hus
      · trivial
    · trivial
  · rename_i it fields hi hu
    split
    · rename_i z places hz hpl
      split
      · rename_i l hl
        obtain ⟨us, hus, hR⟩ := svFill_ok parts vparts.toList _ z.cells l h1 h2 (ofV1s_R η _) hl
        refine OrOk.value (v := .agg us) ⟨us, rfl, hR⟩ fun w => run_build w ty vparts us ?_
        simp only [Program.built, hi, hu, hz, hpl]
        simpa using hus
      · trivial
    · trivial
  · trivial

/-! ### bytes to a string -/
def SV.byte? : SV → Option UInt8
  | .num .u8 z => some (UInt8.ofNat z.toNat)
  | .val (.int .u8 z) => some (UInt8.ofNat z.toNat)
  | _ => none
def svBytes : List SV → Option (List UInt8)
  | [] => some []
  | s :: l => match s.byte?, svBytes l with
    | some b, some r => some (b :: r)
    | _, _ => none
theorem svBytes_ok {η : Env} : ∀ {l : List SV} {bs : List UInt8} {vs : List Value}, svBytes l = some bs → Rs η l vs →
    ∃ ns : List Int, vs = ns.map (Value.int .u8) ∧ bs = ns.map fun n => UInt8.ofNat n.toNat
  | [], bs, vs, h, hvs => by simp [svBytes] at h; simp only [Rs] at hvs; exact ⟨[], by simp [hvs, h]⟩
  | s :: l, bs, vs, h, hvs => by
    obtain ⟨v, r, rfl, hv, hr⟩ := hvs.cons_inv
    simp only [svBytes] at h
    split at h
    · rename_i b r' hb hr'
      simp at h; subst h
      obtain ⟨ns, rfl, rfl⟩ := svBytes_ok hr' hr
      have : ∃ n : Int, v = .int .u8 n ∧ b = UInt8.ofNat n.toNat := by
        unfold SV.byte? at hb
        split at hb
        · simp at hb; simp only [R] at hv; exact ⟨_, hv, hb.symm⟩
        · simp at hb; simp only [R] at hv; exact ⟨_, hv, hb.symm⟩
        · simp at hb
      obtain ⟨n, rfl, rfl⟩ := this
      exact ⟨n :: ns, rfl, rfl⟩
    · simp at h

theorem foldl_push (ns : List Int) : ∀ (s : ByteArray), ns.foldl (fun r n => r.push (UInt8.ofNat n.toNat)) s = ⟨(s.data.toList ++ ns.map fun n => UInt8.ofNat n.toNat).toArray⟩ := by
  induction ns with
  | nil => intro s; simp
  | cons n ns ih =>
    intro s
    simp only [List.foldl_cons, ih, List.map_cons]
    congr 1
    simp [ByteArray.push]

def opBytesToString (P : Program) (hp : List SO) (src dst : TypeId) (x : SV) : OR :=
  match (match x with | .slc k off len _ => some (k, off, len) | .sle k off len _ => some (k, off, len) | _ => none), P.underlying src, P.underlying dst with
  | some (k, off, len), some (.slice e), some .string =>
    match P.underlying e, hp[k]? with
    | some (.int .u8), some (.cells _ l) => if off + len ≤ l.length then
        match svBytes ((l.drop off).take len) with
        | some bs => .pure (.bts (((l.drop off).take len).all SV.lit) bs) .tt
        | none => .bad
      else .bad
    | _, _ => .bad
  | _, _, _ => .bad
theorem opBytesToString_ok {P : Program} {η : Env} {hp : List SO} {src dst : TypeId} {x : SV} {vx : Value} (hx : R η x vx) :
    OrOk η hp (fun w => (convert src dst vx).run P w) (opBytesToString P hp src dst x) := by
  unfold opBytesToString
  split
  · rename_i k off len e hxx hs hd
    obtain ⟨b, o, cap, he, rfl⟩ : ∃ b o cap, η[k]? = some (.pointer (some ⟨b, o, none⟩)) ∧ vx = .slice (some ⟨b, o + off, none⟩) len cap := by
      split at hxx
      · simp at hxx
        obtain ⟨rfl, rfl, rfl⟩ := hxx
        simp only [R] at hx
        obtain ⟨b, o, h1, h2⟩ := hx
        exact ⟨b, o, _, h1, h2⟩
      · simp at hxx
        obtain ⟨rfl, rfl, rfl⟩ := hxx
        simp only [R] at hx
        obtain ⟨b, o, c, h1, _, _, h2⟩ := hx
        exact ⟨b, o, _, h1, h2⟩
      · simp at hxx
    split
    · rename_i wr l hue hk
      split
      · rename_i hle
        split
        · rename_i bs hbs
          intro _ B w hr
          obtain ⟨vs, hvs, hc⟩ := (hr.blk k _ hk).row he
          have hl := hvs.length
          obtain ⟨ns, hns, rfl⟩ := svBytes_ok hbs ((hvs.drop off).take len)
          refine ⟨.string ⟨(ns.map fun n => UInt8.ofNat n.toNat).toArray⟩, by simp only [R], ?_⟩
          have hlen : ((vs.drop off).take len).length = len := by simp; omega
          have hload := run_loadCells_list (P := P) w ⟨b, o + off, none⟩ ((vs.drop off).take len) (fun j v hj => by
            have h1 : j < len := by
              have := (List.getElem?_eq_some_iff.1 hj).1
              omega
            rw [List.getElem?_take_of_lt h1, List.getElem?_drop] at hj
            rw [add_at, Nat.add_assoc]
            exact (hc _ v hj).1)
          rw [hlen, hns] at hload
          simp only []
          rw [run_convert_bytes_string w src dst e _ _ _ hs hue hd, run_bytesToString w _ len cap ns hload, foldl_push]
          rfl
        · trivial
      · trivial
    · trivial
  · trivial

/-! ### a sum of strings -/
def opConcat (x y : SV) : OR :=
  match x, y with
  | .bts c a, .bts d b => if a.length + b.length ≤ 4611686018427387904 then .pure (.bts (c && d) (a ++ b)) .tt else .bad
  | x, y => match x.val?, y.val? with
    | some (.string a), some (.string b) => .pure (.val (.string (a ++ b))) (.pr (a.size + b.size ≤ 9223372036854775807))
    | _, _ => .bad
theorem opConcat_ok {P : Program} {η : Env} {hp : List SO} {ty : TypeId} {x y : SV} {vx vy : Value} (hx : R η x vx) (hy : R η y vy) :
    OrOk η hp (fun w => (binOp .add ty vx vy).run P w) (opConcat x y) := by
  unfold opConcat
  split
  · rename_i c a d b
    simp only [R] at hx hy
    subst hx; subst hy
    split
    · rename_i h
      refine OrOk.value (v := .string ⟨(a ++ b).toArray⟩) (by simp only [R]) fun w => ?_
      rw [binOp_string_add, run_string_add_sum, ByteArray.mk_append_mk]
      simp [ByteArray.size]; omega
    · trivial
  · split
    · rename_i a b h1 h2
      have e1 := SV.val?_R h1 hx
      have e2 := SV.val?_R h2 hy
      subst e1; subst e2
      intro hc B w hr; simp only [Cnd.Is] at hc
      exact ⟨.string (a ++ b), by simp only [R], by simp only []; rw [binOp_string_add, run_string_add_sum _ _ _ hc]⟩
    · trivial

/-! ### == and != -/
/-- Told or untold, as a value. -/
def SV.vals : List SV → Option (List Value)
  | [] => some []
  | s :: l => match s.val?, SV.vals l with
    | some v, some r => some (v :: r)
    | _, _ => none
theorem SV.vals_R {η : Env} : ∀ {l : List SV} {xs vs : List Value}, SV.vals l = some xs → Rs η l vs → vs = xs
  | [], xs, vs, h, hvs => by simp [SV.vals] at h; simp only [Rs] at hvs; rw [hvs, ← h]
  | s :: l, xs, vs, h, hvs => by
    obtain ⟨v, r, rfl, hv, hr⟩ := hvs.cons_inv
    simp only [SV.vals] at h
    split at h
    · rename_i a b ha hb
      simp at h; subst h
      rw [SV.val?_R ha hv, SV.vals_R hb hr]
    · simp at h

/-- Are two values of a type the same? -/
def eqB (P : Program) : Nat → TypeId → Value → Value → Option Bool
  | 0, _, _, _ => none
  | d + 1, t, x, y =>
    match P.underlying t, x, y with
    | some .bool, .bool a, .bool b => some (a == b)
    | some (.int _), .int k a, .int k' b => if k = k' then some (a == b) else none
    | some .string, .string a, .string b => some (a == b)
    | some (.array len e), .agg xs, .agg ys =>
      match tsize P e, tagg P e with
      | some 1, some false => if xs.size = len ∧ ys.size = len then
          (xs.toList.zip ys.toList).foldr (fun (p : Value × Value) (r : Option Bool) => match eqB P d e p.1 p.2, r with | some a, some b => some (a && b) | _, _ => none) (some true)
        else none
      | _, _ => none
    | some (.struct fs), .agg xs, .agg ys =>
      if P.stoodInHeld t then none else
      fs.toList.foldr (fun (f : Field) (r : Option Bool) =>
        if f.name = "_" then r else
        match tagg P f.type with
        | some false => match xs[f.offset]?, ys[f.offset]? with
          | some a, some b => match eqB P d f.type a b, r with | some a, some b => some (a && b) | _, _ => none
          | _, _ => none
        | some true => match tsize P f.type with
          | some n => match eqB P d f.type (.agg (xs.extract f.offset (f.offset + n))) (.agg (ys.extract f.offset (f.offset + n))), r with | some a, some b => some (a && b) | _, _ => none
          | none => none
        | none => none) (some true)
    | _, _, _ => none
end Go.Ex
