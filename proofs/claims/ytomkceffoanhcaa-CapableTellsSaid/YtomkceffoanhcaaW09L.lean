/-
  Walks of functions, reckoned through, and what they give (part W09L). No condition beyond what each says. By an AI agent.
-/
import Derived.Test.YtomkceffoanhcaaW09e
namespace Go.Proofs.Ytomkceffoanhcaa
open Go.Ex
open Go.RowKit (Below)
set_option linter.unusedVariables false
set_option linter.unusedSimpArgs false
set_option maxRecDepth 1000000 in
theorem lai1_0 (n : Int) : gives (callR X0 (run X0 (100 : Nat)) (22 : FuncId) [SV.val (Value.int IntKind.u64 n), SV.num IntKind.i64 (1 : Int)] [] []) (SV.bts false [UInt8.ofNat (IntKind.u8.wrap (n.fdiv (1 : Int))).toNat]) [] := by unfold gives; kernel_rfl
set_option maxRecDepth 1000000 in
theorem lai2_0 (n : Int) : gives (callR X0 (run X0 (100 : Nat)) (22 : FuncId) [SV.val (Value.int IntKind.u64 n), SV.num IntKind.i64 (2 : Int)] [] []) (SV.bts false [UInt8.ofNat (IntKind.u8.wrap (n.fdiv (256 : Int))).toNat, UInt8.ofNat (IntKind.u8.wrap (n.fdiv (1 : Int))).toNat]) [] := by unfold gives; kernel_rfl
set_option maxRecDepth 1000000 in
theorem lai4_0 (n : Int) : gives (callR X0 (run X0 (100 : Nat)) (22 : FuncId) [SV.val (Value.int IntKind.u64 n), SV.num IntKind.i64 (4 : Int)] [] []) (SV.bts false [UInt8.ofNat (IntKind.u8.wrap (n.fdiv (16777216 : Int))).toNat, UInt8.ofNat (IntKind.u8.wrap (n.fdiv (65536 : Int))).toNat, UInt8.ofNat (IntKind.u8.wrap (n.fdiv (256 : Int))).toNat, UInt8.ofNat (IntKind.u8.wrap (n.fdiv (1 : Int))).toNat]) [] := by unfold gives; kernel_rfl
set_option maxRecDepth 1000000 in
theorem lai8_0 (n : Int) : gives (callR X0 (run X0 (100 : Nat)) (22 : FuncId) [SV.val (Value.int IntKind.u64 n), SV.num IntKind.i64 (8 : Int)] [] []) (SV.bts false [UInt8.ofNat (IntKind.u8.wrap (n.fdiv (72057594037927936 : Int))).toNat, UInt8.ofNat (IntKind.u8.wrap (n.fdiv (281474976710656 : Int))).toNat, UInt8.ofNat (IntKind.u8.wrap (n.fdiv (1099511627776 : Int))).toNat, UInt8.ofNat (IntKind.u8.wrap (n.fdiv (4294967296 : Int))).toNat, UInt8.ofNat (IntKind.u8.wrap (n.fdiv (16777216 : Int))).toNat, UInt8.ofNat (IntKind.u8.wrap (n.fdiv (65536 : Int))).toNat, UInt8.ofNat (IntKind.u8.wrap (n.fdiv (256 : Int))).toNat, UInt8.ofNat (IntKind.u8.wrap (n.fdiv (1 : Int))).toNat]) [] := by unfold gives; kernel_rfl

theorem lq (k n : Int) (hk : 0 ≤ k) : UInt8.ofNat (IntKind.u8.wrap (n.fdiv k)).toNat = byK k n := byK_of (by rw [wu8, fd _ _ hk])

theorem laid1 (n : Int) (w : World) : Calls Try.prog 22 #[.int .u64 n, .int .i64 1] w (fun e w' => e = .returned (.string ⟨([byK 1 n] : List UInt8).toArray⟩) ∧ Below w.heap.size w w') :=
  leaf (lai1_0 n) trivial rfl (Rs.cons (by simp only [R]) (Rs.cons (by simp only [R]) Rs.nil)) (by simp only [SV.toV, lq 1 n (by decide)]) rfl
theorem laid2 (n : Int) (w : World) : Calls Try.prog 22 #[.int .u64 n, .int .i64 2] w (fun e w' => e = .returned (.string ⟨([byK 256 n, byK 1 n] : List UInt8).toArray⟩) ∧ Below w.heap.size w w') :=
  leaf (lai2_0 n) trivial rfl (Rs.cons (by simp only [R]) (Rs.cons (by simp only [R]) Rs.nil)) (by simp only [SV.toV, lq 256 n (by decide), lq 1 n (by decide)]) rfl
theorem laid4 (n : Int) (w : World) : Calls Try.prog 22 #[.int .u64 n, .int .i64 4] w (fun e w' => e = .returned (.string ⟨([byK 16777216 n, byK 65536 n, byK 256 n, byK 1 n] : List UInt8).toArray⟩) ∧ Below w.heap.size w w') :=
  leaf (lai4_0 n) trivial rfl (Rs.cons (by simp only [R]) (Rs.cons (by simp only [R]) Rs.nil)) (by simp only [SV.toV, lq 16777216 n (by decide), lq 65536 n (by decide), lq 256 n (by decide), lq 1 n (by decide)]) rfl
theorem laid8 (n : Int) (w : World) : Calls Try.prog 22 #[.int .u64 n, .int .i64 8] w (fun e w' => e = .returned (.string ⟨([byK 72057594037927936 n, byK 281474976710656 n, byK 1099511627776 n, byK 4294967296 n, byK 16777216 n, byK 65536 n, byK 256 n, byK 1 n] : List UInt8).toArray⟩) ∧ Below w.heap.size w w') :=
  leaf (lai8_0 n) trivial rfl (Rs.cons (by simp only [R]) (Rs.cons (by simp only [R]) Rs.nil)) (by simp only [SV.toV, lq 72057594037927936 n (by decide), lq 281474976710656 n (by decide), lq 1099511627776 n (by decide), lq 4294967296 n (by decide), lq 16777216 n (by decide), lq 65536 n (by decide), lq 256 n (by decide), lq 1 n (by decide)]) rfl
def laidG (args : List SV) : Option (SV × Cnd) :=
  match args with
  | [x, .num .i64 z] =>
    match x.val? with
    | some (.int .u64 n) =>
      if z = 1 then some (.bts false [byK 1 n], .tt)
      else if z = 2 then some (.bts false [byK 256 n, byK 1 n], .tt)
      else if z = 4 then some (.bts false [byK 16777216 n, byK 65536 n, byK 256 n, byK 1 n], .tt)
      else if z = 8 then some (.bts false [byK 72057594037927936 n, byK 281474976710656 n, byK 1099511627776 n, byK 4294967296 n, byK 16777216 n, byK 65536 n, byK 256 n, byK 1 n], .tt)
      else none
    | _ => none
  | _ => none
theorem laidG_ok : ∀ args s c, laidG args = some (s, c) → c.Is → ∀ (w : World) (vs : List Value), Rs [] args vs →
    Calls Try.prog 22 vs.toArray w (fun e w' => ∃ v, e = .returned v ∧ R [] s v ∧ Below w.heap.size w w') := by
  intro args s c hg _ w vs hv
  unfold laidG at hg
  split at hg
  · rename_i x z
    split at hg
    · rename_i n hx
      obtain ⟨v, r, rfl, h1, hr⟩ := hv.cons_inv
      obtain ⟨v2, r2, rfl, h2, hr2⟩ := hr.cons_inv
      simp only [Rs] at hr2; subst hr2
      have e1 := SV.val?_R hx h1
      simp only [R] at h2
      subst e1; subst h2

      split at hg
      · rename_i e; subst e
        simp only [Option.some.injEq, Prod.mk.injEq] at hg
        refine (laid1 n w).mono fun e w' ⟨h1, h2⟩ => ⟨_, h1, ?_, h2⟩
        rw [← hg.1]; simp only [R]
      split at hg
      · rename_i e; subst e
        simp only [Option.some.injEq, Prod.mk.injEq] at hg
        refine (laid2 n w).mono fun e w' ⟨h1, h2⟩ => ⟨_, h1, ?_, h2⟩
        rw [← hg.1]; simp only [R]
      split at hg
      · rename_i e; subst e
        simp only [Option.some.injEq, Prod.mk.injEq] at hg
        refine (laid4 n w).mono fun e w' ⟨h1, h2⟩ => ⟨_, h1, ?_, h2⟩
        rw [← hg.1]; simp only [R]
      split at hg
      · rename_i e; subst e
        simp only [Option.some.injEq, Prod.mk.injEq] at hg
        refine (laid8 n w).mono fun e w' ⟨h1, h2⟩ => ⟨_, h1, ?_, h2⟩
        rw [← hg.1]; simp only [R]
      · simp at hg
    · simp at hg
  · simp at hg
noncomputable def laidC : Con Try.prog := Con.one 22 laidG laidG_ok
noncomputable def XL : Cx := conned laidC
end Go.Proofs.Ytomkceffoanhcaa
