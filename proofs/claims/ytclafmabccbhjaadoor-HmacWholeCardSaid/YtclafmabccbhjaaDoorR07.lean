/-
  Walks of functions, reckoned through, and what they give (part R07). No condition beyond what each says. By an AI agent.
-/
import Derived.Test.YtclafmabccbhjaaDoorExS
import Derived.Test.YtclafmabccbhjaaDoorShelf
import Derived.Test.YtclafmabccbhjaaDoorChecked
namespace Go.Proofs.YtclafmabccbhjaaDoor
open Go.Ex
open Go.RowKit (Below)
/-- strings.Repeat, of told texts and counts. -/
def repG (args : List SV) : Option (SV × Cnd) :=
  match args with
  | [.bts c l, .num .i64 z] => if 0 ≤ z ∧ z ≤ 1000000 ∧ l.length * z.toNat ≤ 1000000 then some (.bts c (Lib.repeatL l z.toNat), .tt) else none
  | _ => none
theorem repG_ok : ∀ args s c, repG args = some (s, c) → c.Is → ∀ (w : World) (vs : List Value), Rs [] args vs →
    Calls Tryd.prog 18 vs.toArray w (fun e w' => ∃ v, e = .returned v ∧ R [] s v ∧ Below w.heap.size w w') := by
  intro args s c hg _ w vs hv
  unfold repG at hg
  split at hg
  · rename_i t l z
    split at hg
    · rename_i hz
      simp only [Option.some.injEq, Prod.mk.injEq] at hg
      obtain ⟨rfl, rfl⟩ := hg
      obtain ⟨v, r, rfl, h1, hr⟩ := hv.cons_inv
      obtain ⟨v2, r2, rfl, h2, hr2⟩ := hr.cons_inv
      simp only [Rs] at hr2; subst hr2
      simp only [R] at h1 h2
      subst h1; subst h2
      obtain ⟨n, rfl⟩ := Int.eq_ofNat_of_zero_le hz.1
      refine (Tryd.strings_Repeat ⟨l.toArray⟩ n w (by omega) (by rw [size_mk]; simp only [Int.toNat_natCast] at hz; omega)).mono fun e w' hq => ?_
      obtain ⟨rfl, hb⟩ := hq
      exact ⟨_, rfl, by simp only [R, Int.toNat_natCast], hb⟩
    · simp at hg
  · simp at hg
end Go.Proofs.YtclafmabccbhjaaDoor
