/-
  Walks of functions, reckoned through, and what they give (part W11L). No condition beyond what each says. By an AI agent.
-/
import Derived.Test.YtpbcjeigiklanaaExP
import Derived.Test.YtpbcjeigiklanaaPDssLaysx5
namespace Go.Proofs.Ytpbcjeigiklanaa
open Go.Ex
open Go.RowKit (Below)
open Go.Proofs.Ytpbcjeigiklanaa.PDssLays
/-! ### plaitref01.Laid, of one, two, eight bytes -/
theorem laid1 (n : Int) : plaitref01_Laid.f 3 n 1 = some ⟨#[byK 1 n]⟩ := by kernel_rfl
theorem laid2 (n : Int) : plaitref01_Laid.f 4 n 2 = some ⟨#[byK 256 n, byK 1 n]⟩ := by kernel_rfl
theorem laid4 (n : Int) : plaitref01_Laid.f 6 n 4 = some ⟨#[byK 16777216 n, byK 65536 n, byK 256 n, byK 1 n]⟩ := by kernel_rfl
theorem laid8 (n : Int) : plaitref01_Laid.f 10 n 8 = some ⟨#[byK 72057594037927936 n, byK 281474976710656 n, byK 1099511627776 n, byK 4294967296 n, byK 16777216 n, byK 65536 n, byK 256 n, byK 1 n]⟩ := by kernel_rfl
def laidG (args : List SV) : Option (SV × Cnd) :=
  match args with
  | [x, .num .i64 z] =>
    match x.val? with
    | some (.int .u64 n) =>
      if z = 1 then some (.bts false [byK 1 n], .tt)
      else if z = 2 then some (.bts false [byK 256 n, byK 1 n], .tt)
      else if z = 4 then some (.bts false [byK 16777216 n, byK 65536 n, byK 256 n, byK 1 n], .tt)
      else if z = 8 then some (.bts false [byK 72057594037927936 n, byK 281474976710656 n, byK 1099511627776 n, byK 4294967296 n, byK 16777216 n, byK 65536 n, byK 256 n, byK 1 n], .tt)
      else none
    | _ => none
  | _ => none
theorem laidG_ok : ∀ args s c, laidG args = some (s, c) → c.Is → ∀ (w : World) (vs : List Value), Rs [] args vs →
    Calls Try.prog 25 vs.toArray w (fun e w' => ∃ v, e = .returned v ∧ R [] s v ∧ Below w.heap.size w w') := by
  intro args s c hg _ w vs hv
  unfold laidG at hg
  split at hg
  · rename_i x z
    split at hg
    · rename_i n hx
      obtain ⟨v, r, rfl, h1, hr⟩ := hv.cons_inv
      obtain ⟨v2, r2, rfl, h2, hr2⟩ := hr.cons_inv
      simp only [Rs] at hr2; subst hr2
      have e1 := SV.val?_R hx h1
      simp only [R] at h2
      subst e1; subst h2
      have fin : ∀ (k : Nat) (l : List UInt8), plaitref01_Laid.f k n z = some ⟨l.toArray⟩ → s = .bts false l →
          Calls Try.prog 25 #[.int .u64 n, .int .i64 z] w (fun e w' => ∃ v, e = .returned v ∧ R [] s v ∧ Below w.heap.size w w') := fun k l hk hs =>
        (plaitref01_Laid.calls k n z _ w hk).mono fun e w' ⟨h1, h2⟩ => ⟨_, h1, by rw [hs]; simp only [R], h2⟩
      split at hg
      · rename_i e; subst e
        simp only [Option.some.injEq, Prod.mk.injEq] at hg
        exact fin 3 _ (laid1 n) hg.1.symm
      · split at hg
        · rename_i e; subst e
          simp only [Option.some.injEq, Prod.mk.injEq] at hg
          exact fin 4 _ (laid2 n) hg.1.symm
        · split at hg
          · rename_i e; subst e
            simp only [Option.some.injEq, Prod.mk.injEq] at hg
            exact fin 6 _ (laid4 n) hg.1.symm
          · split at hg
            · rename_i e; subst e
              simp only [Option.some.injEq, Prod.mk.injEq] at hg
              exact fin 10 _ (laid8 n) hg.1.symm
            · simp at hg
    · simp at hg
  · simp at hg
noncomputable def laidC : Con Try.prog := Con.one 25 laidG laidG_ok
noncomputable def XL : Cx := conned laidC
end Go.Proofs.Ytpbcjeigiklanaa
