/-
  Walks of functions, reckoned through, and what they give (part R12). No condition beyond what each says. By an AI agent.
-/
import Derived.Test.YtopillmjfpnmoaaExS
import Derived.Test.YtopillmjfpnmoaaShelf
import Derived.Test.YtopillmjfpnmoaaChecked
namespace Go.Proofs.Ytopillmjfpnmoaa
open Go.Ex
open Go.RowKit (Below)
set_option linter.unusedVariables false
/-- Two texts behind each other. -/
def catS (x y : SV) : SV :=
  match x, y with
  | .bts c a, .bts d b => .bts (c && d) (a ++ b)
  | x, .bts _ [] => x
  | x, y => match x.val?, y.val? with
    | some (.string a), some (.string b) => .val (.string (a ++ b))
    | _, _ => x
theorem app_nil (a : ByteArray) : a ++ (⟨([] : List UInt8).toArray⟩ : ByteArray) = a := by
  apply ByteArray.ext; simp
theorem catS_val {x y : SV} {a b : ByteArray} (hx : x.val? = some (.string a)) (hy : y.val? = some (.string b)) : (catS x y).val? = some (.string (a ++ b)) := by
  unfold catS
  split
  · simp only [SV.val?, Option.some.injEq, Value.string.injEq] at hx hy ⊢
    subst hx; subst hy
    rw [ByteArray.mk_append_mk]
  · simp only [SV.val?, Option.some.injEq, Value.string.injEq] at hy
    subst hy
    rw [app_nil]; exact hx
  · rw [hx, hy]; rfl
/-- The texts. -/
def textsOf : List SV → Option (List ByteArray)
  | [] => some []
  | s :: l => match s.val?, textsOf l with
    | some (.string x), some r => some (x :: r)
    | _, _ => none
def sumT : List ByteArray → List UInt8
  | [] => []
  | x :: r => x.data.toList ++ sumT r
theorem join_sum : ∀ (xs : List ByteArray), Lib.join (xs.map (·.data.toList)) [] = sumT xs := by
  have tail : ∀ (xs : List ByteArray), Lib.joinTail [] (xs.map (·.data.toList)) = sumT xs := by
    intro xs
    induction xs with
    | nil => rfl
    | cons x r ih => unfold Lib.joinTail at ih ⊢; simp only [List.map_cons, List.flatten_cons, List.nil_append, sumT] at ih ⊢; rw [ih]
  intro xs
  cases xs with
  | nil => rfl
  | cons x r => rw [List.map_cons, Lib.join_cons, tail]; rfl
theorem fold_cat : ∀ (l : List SV) (xs : List ByteArray) (x : SV) (a : ByteArray), textsOf l = some xs → x.val? = some (.string a) →
    (l.foldl catS x).val? = some (.string ⟨(a.data.toList ++ sumT xs).toArray⟩)
  | [], xs, x, a, h, hx => by
    simp only [textsOf, Option.some.injEq] at h; subst h
    rw [List.foldl_nil, hx]; simp [sumT]
  | s :: l, xs, x, a, h, hx => by
    simp only [textsOf] at h
    split at h
    · rename_i y r hy hr
      simp only [Option.some.injEq] at h; subst h
      rw [List.foldl_cons, fold_cat l r _ _ hr (catS_val hx hy)]
      simp [sumT, List.append_assoc]
    · simp at h
/-- strings.Join, with nothing between. -/
def joinG (args : List SV) (hp : List SO) : Option (SV × Cnd) :=
  match args with
  | [.slc k off n cap, .bts _ []] =>
    match hp[k]? with
    | some o => match o.told with
      | some l => if n ≤ cap ∧ n ≤ 1000 ∧ ((l.drop off).take n).length = n then (match textsOf ((l.drop off).take n) with
          | some _ => (match ((l.drop off).take n).foldl catS (.bts true []) with
            | .bts c t => if t.length ≤ 140737488355328 then some (.bts c t, .tt) else none
            | s => match s.val? with
              | some (.string a) => some (s, .pr (a.size ≤ 140737488355328))
              | _ => none)
          | none => none) else none
      | none => none
    | none => none
  | _ => none
theorem textsOf_get : ∀ {l : List SV} {xs : List ByteArray}, textsOf l = some xs → xs.length = l.length ∧ ∀ (j : Nat) (x : ByteArray), xs[j]? = some x → ∃ s : SV, l[j]? = some s ∧ s.val? = some (.string x)
  | [], xs, h => by simp only [textsOf, Option.some.injEq] at h; subst h; exact ⟨rfl, by simp⟩
  | s :: l, xs, h => by
    simp only [textsOf] at h
    split at h
    · rename_i y r hy hr
      simp only [Option.some.injEq] at h; subst h
      obtain ⟨h1, h2⟩ := textsOf_get hr
      refine ⟨by simp [h1], fun j x hj => ?_⟩
      cases j with
      | zero => simp at hj; subst hj; exact ⟨s, rfl, hy⟩
      | succ j => simp at hj; obtain ⟨s', e1, e2⟩ := h2 j x hj; exact ⟨s', by simpa using e1, e2⟩
    · simp at h
theorem joinG_ok : ∀ args hp s c, joinG args hp = some (s, c) → c.Is → ∀ (B : Nat) (η : Env) (w : World) (vs : List Value), HR B η hp w → Rs η args vs →
    Calls Try.prog 37 vs.toArray w (fun e w' => ∃ v, e = .returned v ∧ R [] s v ∧ Below w.heap.size w w') := by
  intro args hp s c hg hc B η w vs hr hv
  unfold joinG at hg
  split at hg
  · rename_i k off n cap tt
    split at hg
    · rename_i o ho
      split at hg
      · rename_i l hl
        split at hg
        · rename_i hn
          split at hg
          · rename_i xs hxs
            obtain ⟨v1, r1, rfl, h1, hr1⟩ := hv.cons_inv
            obtain ⟨v2, r2, rfl, h2, hr2⟩ := hr1.cons_inv
            simp only [Rs] at hr2; subst hr2
            simp only [R] at h1 h2
            subst h2
            obtain ⟨wr, hrow⟩ := SO.told_row hl
            obtain ⟨b, ob, e1, e2, e3, e4⟩ := (hr.blk k o ho).1 wr l hrow
            obtain ⟨b', ob', f1, rfl⟩ := h1
            rw [e1] at f1
            simp only [Option.some.injEq, Value.pointer.injEq, Addr.mk.injEq, and_true] at f1
            obtain ⟨rfl, rfl⟩ := f1
            obtain ⟨g1, g2⟩ := textsOf_get hxs
            rw [hn.2.2] at g1
            have hsum := fold_cat _ _ (.bts true []) ⟨([] : List UInt8).toArray⟩ hxs rfl
            have hjoin : Lib.join (xs.map (·.data.toList)) (⟨([] : List UInt8).toArray⟩ : ByteArray).data.toList = sumT xs := join_sum xs
            have cells : ∀ (j : Nat) x, xs[j]? = some x → w.cell? ⟨b, ob + off + j, none⟩ = some (.string x) := by
              intro j x hj
              obtain ⟨s', q1, q2⟩ := g2 j x hj
              have hjn : j < n := by
                have := (List.getElem?_eq_some_iff.1 hj).1
                omega
              rw [List.getElem?_take_of_lt hjn, List.getElem?_drop] at q1
              obtain ⟨⟨v, q3, q4, _⟩, _⟩ := e4 (off + j) s' q1
              rw [Nat.add_assoc, q3, SV.val?_R q2 q4]
            have main : (sumT xs).length ≤ 140737488355328 → Calls Try.prog 37 #[.slice (some ⟨b, ob + off, none⟩) n cap, .string ⟨([] : List UInt8).toArray⟩] w fun e w' => e = .returned (.string ⟨(sumT xs).toArray⟩) ∧ Below w.heap.size w w' := by
              intro hlen
              have := Try.strings_Join b (ob + off) cap xs ⟨([] : List UInt8).toArray⟩ w cells e2 (by omega) (by omega) (by rw [hjoin]; exact hlen)
              rw [hjoin, g1] at this
              exact this
            simp only [List.nil_append] at hsum
            split at hg
            · rename_i c' t he
              split at hg
              · rename_i hlt
                simp only [Option.some.injEq, Prod.mk.injEq] at hg
                obtain ⟨rfl, rfl⟩ := hg
                rw [he] at hsum
                simp only [SV.val?, Option.some.injEq, Value.string.injEq, ByteArray.mk.injEq] at hsum
                have ht : t = sumT xs := by have := congrArg Array.toList hsum; simpa using this
                subst ht
                refine (main hlt).mono fun e w' ⟨q1, q2⟩ => ⟨_, q1, by simp only [R], q2⟩
              · simp at hg
            · split at hg
              · rename_i a ha
                simp only [Option.some.injEq, Prod.mk.injEq] at hg
                obtain ⟨rfl, rfl⟩ := hg
                rw [ha] at hsum
                simp only [Option.some.injEq, Value.string.injEq] at hsum
                simp only [Cnd.Is] at hc
                have hlt : (sumT xs).length ≤ 140737488355328 := by
                  rw [hsum, size_mk] at hc
                  simpa using hc
                refine (main hlt).mono fun e w' ⟨q1, q2⟩ => ⟨_, q1, SV.R_val? ?_, q2⟩
                rw [ha, hsum]
              · simp at hg
          · simp at hg
        · simp at hg
      · simp at hg
    · simp at hg
  · simp at hg
noncomputable def joinC : Con Try.prog := Con.oneH 37 joinG joinG_ok
noncomputable def X : Cx := conned joinC
end Go.Proofs.Ytopillmjfpnmoaa
