/-
  Walks of functions, reckoned through, and what they give (part W10k). No condition beyond what each says. By an AI agent.
-/
import Derived.Test.YtmngnhbnicgjfaaW10p
namespace Go.Proofs.Ytmngnhbnicgjfaa
open Go.Ex
open Go.RowKit (Below)
set_option linter.unusedVariables false
set_option linter.unusedSimpArgs false
/-! ### the reference's Encode of an option that may be, spelled -/
def spellG (args : List SV) : Option (SV × Prop) :=
  match args with
  | [.agg [.num .i64 fo, b, i, t, n, m]] =>
    match b.val?, i.val?, t.val?, n.val? with
    | some (.bool bk), some (.int .i64 id), some (.int .u32 tk), some (.int .u32 nn) =>
      match m with
      | .bts _ l =>
        if fo = 0 ∧ l.length = 0 then some (.tup [.bts false [hd bk, byK 1 id, byK 16777216 tk, byK 65536 tk, byK 256 tk, byK 1 tk, byK 16777216 nn, byK 65536 nn, byK 256 nn, byK 1 nn], .num .i64 0], may ⟨0, bk, id, tk, nn, ⟨#[]⟩⟩ ∧ (0 ≤ tk ∧ tk < 4294967296) ∧ (0 ≤ nn ∧ nn < 4294967296))
        else if fo = 1 ∧ l.length = 8 then some (.tup [.bts false (hd bk :: byK 1 id :: (l ++ [byK 16777216 nn, byK 65536 nn, byK 256 nn, byK 1 nn])), .num .i64 0], may ⟨1, bk, id, tk, nn, ⟨l.toArray⟩⟩ ∧ (0 ≤ tk ∧ tk < 4294967296) ∧ (0 ≤ nn ∧ nn < 4294967296))
        else if fo = 2 ∧ l.length = 20 then some (.tup [.bts false (hd bk :: byK 1 id :: l), .num .i64 0], may ⟨2, bk, id, tk, nn, ⟨l.toArray⟩⟩ ∧ (0 ≤ tk ∧ tk < 4294967296) ∧ (0 ≤ nn ∧ nn < 4294967296))
        else none
      | _ => none
    | _, _, _, _ => none
  | _ => none
theorem enc_pos (x : JV) (h : may x) : enc x = (if x.fo = 0 then ⟨#[hd x.bk, byK 1 x.id, byK 16777216 x.t, byK 65536 x.t, byK 256 x.t, byK 1 x.t, byK 16777216 x.n, byK 65536 x.n, byK 256 x.n, byK 1 x.n]⟩
     else if x.fo = 1 then ⟨#[hd x.bk, byK 1 x.id]⟩ ++ x.m ++ ⟨#[byK 16777216 x.n, byK 65536 x.n, byK 256 x.n, byK 1 x.n]⟩
     else ⟨#[hd x.bk, byK 1 x.id]⟩ ++ x.m, 0) := by rw [enc, if_pos h]
theorem app2 (a b : UInt8) (l : List UInt8) : ByteArray.mk #[a, b] ++ ByteArray.mk l.toArray = ⟨(a :: b :: l).toArray⟩ := by
  rw [app_mk]; simp
theorem app3 (a b : UInt8) (l : List UInt8) (c d e f : UInt8) : ByteArray.mk #[a, b] ++ ByteArray.mk l.toArray ++ ByteArray.mk #[c, d, e, f] = ⟨(a :: b :: (l ++ [c, d, e, f])).toArray⟩ := by
  rw [app_mk, app_mk]; simp
theorem spellG_ok : ∀ args s p, spellG args = some (s, p) → p → s.pln = true ∧ ∀ (w : World) (vs : List Value), Rs [] args vs →
    Calls Try.prog 10 vs.toArray w (fun e w' => e = .returned s.toV ∧ Below w.heap.size w w') := by
  intro args s p hg hp
  unfold spellG at hg
  split at hg
  · rename_i fo b i t n m
    split at hg
    · rename_i bk id tk nn hb hi ht hn
      split at hg
      · rename_i c l
        have key : ∀ (k : Int) (x : SV), fo = k → s = x → p → s.pln = true → (enc ⟨k, bk, id, tk, nn, ⟨l.toArray⟩⟩).2 = 0 → (0 ≤ tk ∧ tk < 4294967296) → (0 ≤ nn ∧ nn < 4294967296) → l.length ≤ 20 →
            x.toV = .tuple #[.string (enc ⟨k, bk, id, tk, nn, ⟨l.toArray⟩⟩).1, .int .i64 (enc ⟨k, bk, id, tk, nn, ⟨l.toArray⟩⟩).2] →
            s.pln = true ∧ ∀ (w : World) (vs : List Value), Rs [] [.agg [.num .i64 fo, b, i, t, n, .bts c l]] vs → Calls Try.prog 10 vs.toArray w (fun e w' => e = .returned s.toV ∧ Below w.heap.size w w') := by
          intro k x hk hs _ hpl he rt rn hl hx
          refine ⟨hpl, fun w vs hv => ?_⟩
          obtain ⟨v, r', rfl, hv1, hr'⟩ := hv.cons_inv
          simp only [Rs] at hr'; subst hr'
          obtain ⟨us, rfl, hus⟩ := hv1
          have e := SV.vals_R (xs := [.int .i64 fo, .bool bk, .int .i64 id, .int .u32 tk, .int .u32 nn, .string ⟨l.toArray⟩]) (by
            have v0 : (SV.num .i64 fo).val? = some (.int .i64 fo) := rfl
            have v5 : (SV.bts c l).val? = some (.string ⟨l.toArray⟩) := rfl
            simp only [SV.vals, v0, v5, hb, hi, ht, hn]) hus
          have e2 : us = #[.int .i64 fo, .bool bk, .int .i64 id, .int .u32 tk, .int .u32 nn, .string ⟨l.toArray⟩] := Array.toList_inj.1 e
          subst e2; subst hk; subst hs
          rw [hx]
          exact ref_enc_calls ⟨fo, bk, id, tk, nn, ⟨l.toArray⟩⟩ rt rn (by simp only [size_mk]; omega) w
        split at hg
        · rename_i h0
          simp only [Option.some.injEq, Prod.mk.injEq] at hg
          obtain ⟨rfl, rfl⟩ := hg
          obtain rfl : l = [] := List.eq_nil_of_length_eq_zero h0.2
          have he := enc_pos ⟨0, bk, id, tk, nn, ⟨#[]⟩⟩ hp.1
          exact key 0 _ h0.1 rfl hp rfl (by rw [he]) hp.2.1 hp.2.2 (by simp) (by rw [he]; rfl)
        · split at hg
          · rename_i h1
            simp only [Option.some.injEq, Prod.mk.injEq] at hg
            obtain ⟨rfl, rfl⟩ := hg
            have he := enc_pos ⟨1, bk, id, tk, nn, ⟨l.toArray⟩⟩ hp.1
            exact key 1 _ h1.1 rfl hp rfl (by rw [he]) hp.2.1 hp.2.2 (by omega) (by rw [he]; simp only [if_false, if_true, Int.reduceEq, app3]; rfl)
          · split at hg
            · rename_i h2
              simp only [Option.some.injEq, Prod.mk.injEq] at hg
              obtain ⟨rfl, rfl⟩ := hg
              have he := enc_pos ⟨2, bk, id, tk, nn, ⟨l.toArray⟩⟩ hp.1
              exact key 2 _ h2.1 rfl hp rfl (by rw [he]) hp.2.1 hp.2.2 (by omega) (by rw [he]; simp only [if_false, Int.reduceEq, app2]; rfl)
            · simp at hg
      · simp at hg
    · simp at hg
  · simp at hg
noncomputable def spellC : Con Try.prog := Con.ofVals 10 spellG spellG_ok
noncomputable def allC3 : Con Try.prog := spellC.or allC
noncomputable def V : Cx := conned allC3
end Go.Proofs.Ytmngnhbnicgjfaa
