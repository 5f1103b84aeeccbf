/-
  Walks of functions, reckoned through, and what they give (part W10d). No condition beyond what each says. By an AI agent.
-/
import Derived.Test.YtmngnhbnicgjfaaW10b
namespace Go.Proofs.Ytmngnhbnicgjfaa
open Go.Ex
open Go.RowKit (Below)
set_option linter.unusedVariables false
set_option linter.unusedSimpArgs false

set_option maxRecDepth 1000000 in
theorem dr_0 (d : Int) (i : Int) (b : Bool) (t : Int) (n : Int) (m0 : Int) (m1 : Int) (m2 : Int) (m3 : Int) (m4 : Int) (m5 : Int) (m6 : Int) (m7 : Int) (m8 : Int) (m9 : Int) (m10 : Int) (m11 : Int) (m12 : Int) (m13 : Int) (m14 : Int) (m15 : Int) (m16 : Int) (m17 : Int) (m18 : Int) (m19 : Int) : gives (Go.Ex.callR (Go.Proofs.Ytmngnhbnicgjfaa.X) (Go.Ex.run (Go.Proofs.Ytmngnhbnicgjfaa.X) (100 : Nat)) (13 : Go.FuncId) [Go.Ex.SV.agg [Go.Ex.SV.val (Go.Value.int Go.IntKind.u8 d), Go.Ex.SV.val (Go.Value.int Go.IntKind.u8 i), Go.Ex.SV.val (Go.Value.bool b), Go.Ex.SV.val (Go.Value.int Go.IntKind.u32 t), Go.Ex.SV.val (Go.Value.int Go.IntKind.u32 n), Go.Ex.SV.val (Go.Value.int Go.IntKind.u8 m0), Go.Ex.SV.val (Go.Value.int Go.IntKind.u8 m1), Go.Ex.SV.val (Go.Value.int Go.IntKind.u8 m2), Go.Ex.SV.val (Go.Value.int Go.IntKind.u8 m3), Go.Ex.SV.val (Go.Value.int Go.IntKind.u8 m4), Go.Ex.SV.val (Go.Value.int Go.IntKind.u8 m5), Go.Ex.SV.val (Go.Value.int Go.IntKind.u8 m6), Go.Ex.SV.val (Go.Value.int Go.IntKind.u8 m7), Go.Ex.SV.val (Go.Value.int Go.IntKind.u8 m8), Go.Ex.SV.val (Go.Value.int Go.IntKind.u8 m9), Go.Ex.SV.val (Go.Value.int Go.IntKind.u8 m10), Go.Ex.SV.val (Go.Value.int Go.IntKind.u8 m11), Go.Ex.SV.val (Go.Value.int Go.IntKind.u8 m12), Go.Ex.SV.val (Go.Value.int Go.IntKind.u8 m13), Go.Ex.SV.val (Go.Value.int Go.IntKind.u8 m14), Go.Ex.SV.val (Go.Value.int Go.IntKind.u8 m15), Go.Ex.SV.val (Go.Value.int Go.IntKind.u8 m16), Go.Ex.SV.val (Go.Value.int Go.IntKind.u8 m17), Go.Ex.SV.val (Go.Value.int Go.IntKind.u8 m18), Go.Ex.SV.val (Go.Value.int Go.IntKind.u8 m19)]] [] [Bool.true]) (Go.Ex.SV.agg [Go.Ex.SV.num Go.IntKind.i64 (0 : Int), Go.Ex.SV.val (Go.Value.bool b), Go.Ex.SV.val (Go.Value.int Go.IntKind.i64 (Go.IntKind.i64.wrap i)), Go.Ex.SV.val (Go.Value.int Go.IntKind.u32 t), Go.Ex.SV.val (Go.Value.int Go.IntKind.u32 n), Go.Ex.SV.bts Bool.true []]) ([(d.tmod (3 : Int) == (0 : Int)) = Bool.true]) := by unfold gives; kernel_rfl
set_option maxRecDepth 1000000 in
theorem dr_1 (d : Int) (i : Int) (b : Bool) (t : Int) (n : Int) (m0 : Int) (m1 : Int) (m2 : Int) (m3 : Int) (m4 : Int) (m5 : Int) (m6 : Int) (m7 : Int) (m8 : Int) (m9 : Int) (m10 : Int) (m11 : Int) (m12 : Int) (m13 : Int) (m14 : Int) (m15 : Int) (m16 : Int) (m17 : Int) (m18 : Int) (m19 : Int) : gives (Go.Ex.callR (Go.Proofs.Ytmngnhbnicgjfaa.X) (Go.Ex.run (Go.Proofs.Ytmngnhbnicgjfaa.X) (100 : Nat)) (13 : Go.FuncId) [Go.Ex.SV.agg [Go.Ex.SV.val (Go.Value.int Go.IntKind.u8 d), Go.Ex.SV.val (Go.Value.int Go.IntKind.u8 i), Go.Ex.SV.val (Go.Value.bool b), Go.Ex.SV.val (Go.Value.int Go.IntKind.u32 t), Go.Ex.SV.val (Go.Value.int Go.IntKind.u32 n), Go.Ex.SV.val (Go.Value.int Go.IntKind.u8 m0), Go.Ex.SV.val (Go.Value.int Go.IntKind.u8 m1), Go.Ex.SV.val (Go.Value.int Go.IntKind.u8 m2), Go.Ex.SV.val (Go.Value.int Go.IntKind.u8 m3), Go.Ex.SV.val (Go.Value.int Go.IntKind.u8 m4), Go.Ex.SV.val (Go.Value.int Go.IntKind.u8 m5), Go.Ex.SV.val (Go.Value.int Go.IntKind.u8 m6), Go.Ex.SV.val (Go.Value.int Go.IntKind.u8 m7), Go.Ex.SV.val (Go.Value.int Go.IntKind.u8 m8), Go.Ex.SV.val (Go.Value.int Go.IntKind.u8 m9), Go.Ex.SV.val (Go.Value.int Go.IntKind.u8 m10), Go.Ex.SV.val (Go.Value.int Go.IntKind.u8 m11), Go.Ex.SV.val (Go.Value.int Go.IntKind.u8 m12), Go.Ex.SV.val (Go.Value.int Go.IntKind.u8 m13), Go.Ex.SV.val (Go.Value.int Go.IntKind.u8 m14), Go.Ex.SV.val (Go.Value.int Go.IntKind.u8 m15), Go.Ex.SV.val (Go.Value.int Go.IntKind.u8 m16), Go.Ex.SV.val (Go.Value.int Go.IntKind.u8 m17), Go.Ex.SV.val (Go.Value.int Go.IntKind.u8 m18), Go.Ex.SV.val (Go.Value.int Go.IntKind.u8 m19)]] [] [Bool.false, Bool.true]) (Go.Ex.SV.agg [Go.Ex.SV.num Go.IntKind.i64 (1 : Int), Go.Ex.SV.val (Go.Value.bool b), Go.Ex.SV.val (Go.Value.int Go.IntKind.i64 (Go.IntKind.i64.wrap i)), Go.Ex.SV.num Go.IntKind.u32 (0 : Int), Go.Ex.SV.val (Go.Value.int Go.IntKind.u32 n), Go.Ex.SV.bts Bool.false [UInt8.ofNat m0.toNat, UInt8.ofNat m1.toNat, UInt8.ofNat m2.toNat, UInt8.ofNat m3.toNat, UInt8.ofNat m4.toNat, UInt8.ofNat m5.toNat, UInt8.ofNat m6.toNat, UInt8.ofNat m7.toNat]]) ([(d.tmod (3 : Int) == (0 : Int)) = Bool.false, (d.tmod (3 : Int) == (1 : Int)) = Bool.true]) := by unfold gives; kernel_rfl
set_option maxRecDepth 1000000 in
theorem dr_2 (d : Int) (i : Int) (b : Bool) (t : Int) (n : Int) (m0 : Int) (m1 : Int) (m2 : Int) (m3 : Int) (m4 : Int) (m5 : Int) (m6 : Int) (m7 : Int) (m8 : Int) (m9 : Int) (m10 : Int) (m11 : Int) (m12 : Int) (m13 : Int) (m14 : Int) (m15 : Int) (m16 : Int) (m17 : Int) (m18 : Int) (m19 : Int) : gives (Go.Ex.callR (Go.Proofs.Ytmngnhbnicgjfaa.X) (Go.Ex.run (Go.Proofs.Ytmngnhbnicgjfaa.X) (100 : Nat)) (13 : Go.FuncId) [Go.Ex.SV.agg [Go.Ex.SV.val (Go.Value.int Go.IntKind.u8 d), Go.Ex.SV.val (Go.Value.int Go.IntKind.u8 i), Go.Ex.SV.val (Go.Value.bool b), Go.Ex.SV.val (Go.Value.int Go.IntKind.u32 t), Go.Ex.SV.val (Go.Value.int Go.IntKind.u32 n), Go.Ex.SV.val (Go.Value.int Go.IntKind.u8 m0), Go.Ex.SV.val (Go.Value.int Go.IntKind.u8 m1), Go.Ex.SV.val (Go.Value.int Go.IntKind.u8 m2), Go.Ex.SV.val (Go.Value.int Go.IntKind.u8 m3), Go.Ex.SV.val (Go.Value.int Go.IntKind.u8 m4), Go.Ex.SV.val (Go.Value.int Go.IntKind.u8 m5), Go.Ex.SV.val (Go.Value.int Go.IntKind.u8 m6), Go.Ex.SV.val (Go.Value.int Go.IntKind.u8 m7), Go.Ex.SV.val (Go.Value.int Go.IntKind.u8 m8), Go.Ex.SV.val (Go.Value.int Go.IntKind.u8 m9), Go.Ex.SV.val (Go.Value.int Go.IntKind.u8 m10), Go.Ex.SV.val (Go.Value.int Go.IntKind.u8 m11), Go.Ex.SV.val (Go.Value.int Go.IntKind.u8 m12), Go.Ex.SV.val (Go.Value.int Go.IntKind.u8 m13), Go.Ex.SV.val (Go.Value.int Go.IntKind.u8 m14), Go.Ex.SV.val (Go.Value.int Go.IntKind.u8 m15), Go.Ex.SV.val (Go.Value.int Go.IntKind.u8 m16), Go.Ex.SV.val (Go.Value.int Go.IntKind.u8 m17), Go.Ex.SV.val (Go.Value.int Go.IntKind.u8 m18), Go.Ex.SV.val (Go.Value.int Go.IntKind.u8 m19)]] [] [Bool.false, Bool.false]) (Go.Ex.SV.agg [Go.Ex.SV.num Go.IntKind.i64 (2 : Int), Go.Ex.SV.bol Bool.false, Go.Ex.SV.num Go.IntKind.i64 (0 : Int), Go.Ex.SV.num Go.IntKind.u32 (0 : Int), Go.Ex.SV.num Go.IntKind.u32 (0 : Int), Go.Ex.SV.bts Bool.false [UInt8.ofNat m0.toNat, UInt8.ofNat m1.toNat, UInt8.ofNat m2.toNat, UInt8.ofNat m3.toNat, UInt8.ofNat m4.toNat, UInt8.ofNat m5.toNat, UInt8.ofNat m6.toNat, UInt8.ofNat m7.toNat, UInt8.ofNat m8.toNat, UInt8.ofNat m9.toNat, UInt8.ofNat m10.toNat, UInt8.ofNat m11.toNat, UInt8.ofNat m12.toNat, UInt8.ofNat m13.toNat, UInt8.ofNat m14.toNat, UInt8.ofNat m15.toNat, UInt8.ofNat m16.toNat, UInt8.ofNat m17.toNat, UInt8.ofNat m18.toNat, UInt8.ofNat m19.toNat]]) ([(d.tmod (3 : Int) == (0 : Int)) = Bool.false, (d.tmod (3 : Int) == (1 : Int)) = Bool.false]) := by unfold gives; kernel_rfl
set_option maxRecDepth 1000000 in
theorem by_0 (fo : Int) : gives (Go.Ex.callR (Go.Proofs.Ytmngnhbnicgjfaa.X) (Go.Ex.run (Go.Proofs.Ytmngnhbnicgjfaa.X) (100 : Nat)) (11 : Go.FuncId) [Go.Ex.SV.val (Go.Value.int Go.IntKind.i64 fo)] [] [Bool.true]) (Go.Ex.SV.num Go.IntKind.i64 (10 : Int)) ([(fo == (0 : Int)) = Bool.true]) := by unfold gives; kernel_rfl
set_option maxRecDepth 1000000 in
theorem by_1 (fo : Int) : gives (Go.Ex.callR (Go.Proofs.Ytmngnhbnicgjfaa.X) (Go.Ex.run (Go.Proofs.Ytmngnhbnicgjfaa.X) (100 : Nat)) (11 : Go.FuncId) [Go.Ex.SV.val (Go.Value.int Go.IntKind.i64 fo)] [] [Bool.false, Bool.true]) (Go.Ex.SV.num Go.IntKind.i64 (14 : Int)) ([(fo == (0 : Int)) = Bool.false, (fo == (1 : Int)) = Bool.true]) := by unfold gives; kernel_rfl
set_option maxRecDepth 1000000 in
theorem by_2 (fo : Int) : gives (Go.Ex.callR (Go.Proofs.Ytmngnhbnicgjfaa.X) (Go.Ex.run (Go.Proofs.Ytmngnhbnicgjfaa.X) (100 : Nat)) (11 : Go.FuncId) [Go.Ex.SV.val (Go.Value.int Go.IntKind.i64 fo)] [] [Bool.false, Bool.false, Bool.true]) (Go.Ex.SV.num Go.IntKind.i64 (22 : Int)) ([(fo == (0 : Int)) = Bool.false, (fo == (1 : Int)) = Bool.false, (fo == (2 : Int)) = Bool.true]) := by unfold gives; kernel_rfl
set_option maxRecDepth 1000000 in
theorem by_3 (fo : Int) : gives (Go.Ex.callR (Go.Proofs.Ytmngnhbnicgjfaa.X) (Go.Ex.run (Go.Proofs.Ytmngnhbnicgjfaa.X) (100 : Nat)) (11 : Go.FuncId) [Go.Ex.SV.val (Go.Value.int Go.IntKind.i64 fo)] [] [Bool.false, Bool.false, Bool.false]) (Go.Ex.SV.num Go.IntKind.i64 (0 : Int)) ([(fo == (0 : Int)) = Bool.false, (fo == (1 : Int)) = Bool.false, (fo == (2 : Int)) = Bool.false]) := by unfold gives; kernel_rfl


def bytesOf (fo : Int) : Int := if fo = 0 then 10 else if fo = 1 then 14 else if fo = 2 then 22 else 0
theorem bytes_calls (fo : Int) (w : World) : Calls Try.prog 11 #[.int .i64 fo] w (fun e w' => e = .returned (.int .i64 (bytesOf fo)) ∧ Below w.heap.size w w') := by

  rcases Bool.eq_false_or_eq_true (fo == (0 : Int)) with hb0 | hb0
  · have c0 := hb0
    try simp only [decide_eq_true_eq, decide_eq_false_iff_not, beq_iff_eq, bne_iff_ne, ne_eq, beq_eq_false_iff_ne, bne_eq_false_iff_eq, Bool.not_eq_true', Bool.not_eq_false', Bool.false_eq_true, if_false, Bool.and_true, Bool.true_and, ba_beq, ba_toList_beq, ba_none, wi64, Bool.and_eq_true, Bool.and_eq_false_imp, Bool.not_eq_true, Bool.not_eq_false, beq_self_eq_true, Int.ofNat_eq_natCast] at c0
    exact leaf (by_0 fo) (by simp only [AllP, and_true]; (repeat' apply And.intro) <;> first | assumption | rfl | omega) rfl (Rs.cons (by simp only [R]) Rs.nil) (by rw [bytesOf, if_pos c0]; rfl) rfl
  · have c0 := hb0
    try simp only [decide_eq_true_eq, decide_eq_false_iff_not, beq_iff_eq, bne_iff_ne, ne_eq, beq_eq_false_iff_ne, bne_eq_false_iff_eq, Bool.not_eq_true', Bool.not_eq_false', Bool.false_eq_true, if_false, Bool.and_true, Bool.true_and, ba_beq, ba_toList_beq, ba_none, wi64, Bool.and_eq_true, Bool.and_eq_false_imp, Bool.not_eq_true, Bool.not_eq_false, beq_self_eq_true, Int.ofNat_eq_natCast] at c0
    rcases Bool.eq_false_or_eq_true (fo == (1 : Int)) with hb1 | hb1
    · have c1 := hb1
      try simp only [decide_eq_true_eq, decide_eq_false_iff_not, beq_iff_eq, bne_iff_ne, ne_eq, beq_eq_false_iff_ne, bne_eq_false_iff_eq, Bool.not_eq_true', Bool.not_eq_false', Bool.false_eq_true, if_false, Bool.and_true, Bool.true_and, ba_beq, ba_toList_beq, ba_none, wi64, Bool.and_eq_true, Bool.and_eq_false_imp, Bool.not_eq_true, Bool.not_eq_false, beq_self_eq_true, Int.ofNat_eq_natCast] at c1
      exact leaf (by_1 fo) (by simp only [AllP, and_true]; (repeat' apply And.intro) <;> first | assumption | rfl | omega) rfl (Rs.cons (by simp only [R]) Rs.nil) (by rw [bytesOf, if_neg c0, if_pos c1]; rfl) rfl
    · have c1 := hb1
      try simp only [decide_eq_true_eq, decide_eq_false_iff_not, beq_iff_eq, bne_iff_ne, ne_eq, beq_eq_false_iff_ne, bne_eq_false_iff_eq, Bool.not_eq_true', Bool.not_eq_false', Bool.false_eq_true, if_false, Bool.and_true, Bool.true_and, ba_beq, ba_toList_beq, ba_none, wi64, Bool.and_eq_true, Bool.and_eq_false_imp, Bool.not_eq_true, Bool.not_eq_false, beq_self_eq_true, Int.ofNat_eq_natCast] at c1
      rcases Bool.eq_false_or_eq_true (fo == (2 : Int)) with hb2 | hb2
      · have c2 := hb2
        try simp only [decide_eq_true_eq, decide_eq_false_iff_not, beq_iff_eq, bne_iff_ne, ne_eq, beq_eq_false_iff_ne, bne_eq_false_iff_eq, Bool.not_eq_true', Bool.not_eq_false', Bool.false_eq_true, if_false, Bool.and_true, Bool.true_and, ba_beq, ba_toList_beq, ba_none, wi64, Bool.and_eq_true, Bool.and_eq_false_imp, Bool.not_eq_true, Bool.not_eq_false, beq_self_eq_true, Int.ofNat_eq_natCast] at c2
        exact leaf (by_2 fo) (by simp only [AllP, and_true]; (repeat' apply And.intro) <;> first | assumption | rfl | omega) rfl (Rs.cons (by simp only [R]) Rs.nil) (by rw [bytesOf, if_neg c0, if_neg c1, if_pos c2]; rfl) rfl
      · have c2 := hb2
        try simp only [decide_eq_true_eq, decide_eq_false_iff_not, beq_iff_eq, bne_iff_ne, ne_eq, beq_eq_false_iff_ne, bne_eq_false_iff_eq, Bool.not_eq_true', Bool.not_eq_false', Bool.false_eq_true, if_false, Bool.and_true, Bool.true_and, ba_beq, ba_toList_beq, ba_none, wi64, Bool.and_eq_true, Bool.and_eq_false_imp, Bool.not_eq_true, Bool.not_eq_false, beq_self_eq_true, Int.ofNat_eq_natCast] at c2
        exact leaf (by_3 fo) (by simp only [AllP, and_true]; (repeat' apply And.intro) <;> first | assumption | rfl | omega) rfl (Rs.cons (by simp only [R]) Rs.nil) (by rw [bytesOf, if_neg c0, if_neg c1, if_neg c2]; rfl) rfl


/-- A draft's option. -/
def draft (d i : Int) (b : Bool) (t n : Int) (l : List Int) : JV :=
  if d % 3 = 0 then ⟨0, b, i, t, n, ⟨#[]⟩⟩ else if d % 3 = 1 then ⟨1, b, i, 0, n, ⟨((l.take 8).map u8).toArray⟩⟩ else ⟨2, false, 0, 0, 0, ⟨(l.map u8).toArray⟩⟩
theorem draft_calls (d i : Int) (b : Bool) (t n : Int) (m0 m1 m2 m3 m4 m5 m6 m7 m8 m9 m10 m11 m12 m13 m14 m15 m16 m17 m18 m19 : Int) (hd : 0 ≤ d ∧ d < 256) (hi : 0 ≤ i ∧ i < 256) (w : World) :
    Calls Try.prog 13 #[.agg #[.int .u8 d, .int .u8 i, .bool b, .int .u32 t, .int .u32 n, .int .u8 m0, .int .u8 m1, .int .u8 m2, .int .u8 m3, .int .u8 m4, .int .u8 m5, .int .u8 m6, .int .u8 m7, .int .u8 m8, .int .u8 m9, .int .u8 m10, .int .u8 m11, .int .u8 m12, .int .u8 m13, .int .u8 m14, .int .u8 m15, .int .u8 m16, .int .u8 m17, .int .u8 m18, .int .u8 m19]] w (fun e w' => e = .returned (draft d i b t n [m0, m1, m2, m3, m4, m5, m6, m7, m8, m9, m10, m11, m12, m13, m14, m15, m16, m17, m18, m19]).v ∧ Below w.heap.size w w') := by
  have hw : IntKind.i64.wrap i = i := by rw [wi64]; omega
  by_cases h0 : d % 3 = 0
  · exact leaf (dr_0 d i b t n m0 m1 m2 m3 m4 m5 m6 m7 m8 m9 m10 m11 m12 m13 m14 m15 m16 m17 m18 m19) (by simp only [AllP, and_true, beq_iff_eq, tm d 3 hd.1]; exact h0) rfl (Rs.cons (by exact ⟨_, rfl, by simp [Rs, R]⟩) Rs.nil) (by rw [draft, if_pos h0]; simp only [SV.toV, toVs, JV.v, hw]) rfl
  by_cases h1 : d % 3 = 1
  · exact leaf (dr_1 d i b t n m0 m1 m2 m3 m4 m5 m6 m7 m8 m9 m10 m11 m12 m13 m14 m15 m16 m17 m18 m19) (by simp only [AllP, and_true, beq_iff_eq, beq_eq_false_iff_ne, tm d 3 hd.1]; exact ⟨h0, h1⟩) rfl (Rs.cons (by exact ⟨_, rfl, by simp [Rs, R]⟩) Rs.nil) (by rw [draft, if_neg h0, if_pos h1]; simp only [SV.toV, toVs, JV.v, hw]; rfl) rfl
  exact leaf (dr_2 d i b t n m0 m1 m2 m3 m4 m5 m6 m7 m8 m9 m10 m11 m12 m13 m14 m15 m16 m17 m18 m19) (by simp only [AllP, and_true, beq_iff_eq, beq_eq_false_iff_ne, tm d 3 hd.1]; exact ⟨h0, h1⟩) rfl (Rs.cons (by exact ⟨_, rfl, by simp [Rs, R]⟩) Rs.nil) (by rw [draft, if_neg h0, if_neg h1]; rfl) rfl
def intsOf : List Value → Option (List Int)
  | [] => some []
  | .int .u8 z :: r => match intsOf r with | some l => some (z :: l) | none => none
  | _ => none
theorem intsOf_ok : ∀ (vs : List Value) (l : List Int), intsOf vs = some l → vs = l.map (Value.int .u8)
  | [], l, h => by simp [intsOf] at h; subst h; rfl
  | v :: r, l, h => by
    unfold intsOf at h
    split at h
    · rename_i heq; cases heq
    · rename_i z r' heq
      split at h
      · rename_i l' hl
        simp only [Option.some.injEq] at h; subst h
        injection heq with e1 e2
        subst e1; subst e2
        rw [intsOf_ok _ l' hl]; rfl
      · cases h
    · cases h
def JV.sv' (x : JV) : SV := .agg [.val (.int .i64 x.fo), .val (.bool x.bk), .val (.int .i64 x.id), .val (.int .u32 x.t), .val (.int .u32 x.n), .val (.string x.m)]
def draftG (args : List SV) : Option (SV × Prop) :=
  match args with
  | [.agg l] =>
    match SV.vals l with
    | some (.int .u8 d :: .int .u8 i :: .bool b :: .int .u32 t :: .int .u32 n :: r) =>
      match intsOf r with
      | some ms => if ms.length = 20 then
          some (.agg [.val (.int .i64 (draft d i b t n ms).fo), .val (.bool (draft d i b t n ms).bk), .val (.int .i64 (draft d i b t n ms).id), .val (.int .u32 (draft d i b t n ms).t), .val (.int .u32 (draft d i b t n ms).n), .val (.string (draft d i b t n ms).m)], (0 ≤ d ∧ d < 256) ∧ (0 ≤ i ∧ i < 256))
        else none
      | none => none
    | _ => none
  | _ => none
theorem list20 (l : List Int) (h : l.length = 20) : ∃ m0 m1 m2 m3 m4 m5 m6 m7 m8 m9 m10 m11 m12 m13 m14 m15 m16 m17 m18 m19, l = [m0, m1, m2, m3, m4, m5, m6, m7, m8, m9, m10, m11, m12, m13, m14, m15, m16, m17, m18, m19] := by
  match l, h with
  | [m0, m1, m2, m3, m4, m5, m6, m7, m8, m9, m10, m11, m12, m13, m14, m15, m16, m17, m18, m19], _ => exact ⟨m0, m1, m2, m3, m4, m5, m6, m7, m8, m9, m10, m11, m12, m13, m14, m15, m16, m17, m18, m19, rfl⟩
theorem draftG_ok : ∀ args s p, draftG args = some (s, p) → p → s.pln = true ∧ ∀ (w : World) (vs : List Value), Rs [] args vs →
    Calls Try.prog 13 vs.toArray w (fun e w' => e = .returned s.toV ∧ Below w.heap.size w w') := by
  intro args s p hg hp
  unfold draftG at hg
  split at hg
  · rename_i l
    split at hg
    · rename_i d i b t n r hl
      split at hg
      · rename_i ks hr
        split at hg
        · rename_i h20
          simp only [Option.some.injEq, Prod.mk.injEq] at hg
          obtain ⟨rfl, rfl⟩ := hg
          refine ⟨rfl, fun w vs hv => ?_⟩
          obtain ⟨v, r', rfl, hv1, hr'⟩ := hv.cons_inv
          simp only [Rs] at hr'; subst hr'
          obtain ⟨us, rfl, hus⟩ := hv1
          have e := SV.vals_R hl hus
          have e3 := intsOf_ok _ _ hr
          obtain ⟨m0, m1, m2, m3, m4, m5, m6, m7, m8, m9, m10, m11, m12, m13, m14, m15, m16, m17, m18, m19, rfl⟩ := list20 ks h20
          have e2 : us = #[.int .u8 d, .int .u8 i, .bool b, .int .u32 t, .int .u32 n, .int .u8 m0, .int .u8 m1, .int .u8 m2, .int .u8 m3, .int .u8 m4, .int .u8 m5, .int .u8 m6, .int .u8 m7, .int .u8 m8, .int .u8 m9, .int .u8 m10, .int .u8 m11, .int .u8 m12, .int .u8 m13, .int .u8 m14, .int .u8 m15, .int .u8 m16, .int .u8 m17, .int .u8 m18, .int .u8 m19] := Array.toList_inj.1 (by rw [e, e3]; rfl)
          subst e2
          exact draft_calls d i b t n m0 m1 m2 m3 m4 m5 m6 m7 m8 m9 m10 m11 m12 m13 m14 m15 m16 m17 m18 m19 hp.1 hp.2 w
        · simp at hg
      · simp at hg
    · simp at hg
  · simp at hg
def bytesG (args : List SV) : Option (SV × Prop) :=
  match SV.vals args with
  | some [.int .i64 fo] => some (.val (.int .i64 (bytesOf fo)), True)
  | _ => none
theorem bytesG_ok : ∀ args s p, bytesG args = some (s, p) → p → s.pln = true ∧ ∀ (w : World) (vs : List Value), Rs [] args vs →
    Calls Try.prog 11 vs.toArray w (fun e w' => e = .returned s.toV ∧ Below w.heap.size w w') := by
  intro args s p hg hp
  unfold bytesG at hg
  split at hg
  · rename_i b hl
    simp only [Option.some.injEq, Prod.mk.injEq] at hg
    obtain ⟨rfl, rfl⟩ := hg
    refine ⟨rfl, fun w vs hv => ?_⟩
    have e := SV.vals_R hl hv
    subst e
    exact bytes_calls b w
  · simp at hg
noncomputable def draftC : Con Try.prog := Con.ofVals 13 draftG draftG_ok
noncomputable def bytesC : Con Try.prog := Con.ofVals 11 bytesG bytesG_ok
end Go.Proofs.Ytmngnhbnicgjfaa
