/-
  Walks of functions, reckoned through, and what they give (part W12c). No condition beyond what each says. By an AI agent.
-/
import Derived.Test.YtopillmjfpnmoaaW12v
namespace Go.Proofs.Ytopillmjfpnmoaa
open Go.Ex
open Go.RowKit (Below)
set_option linter.unusedVariables false
set_option linter.unusedSimpArgs false
noncomputable def dr_r0 (x : DV) (ans : List Bool) : Rr (SV × Option (List SO)) := callR X (run X (100 : Nat)) (14 : FuncId) [x.sv] [] ans
def dr_p0 (x : DV) : Prop :=
  gives (dr_r0 x [true, true, false]) (SV.agg [SV.val (Value.bool x.ec), SV.val (Value.int IntKind.i64 (IntKind.i64.wrap x.i)), SV.bts false [UInt8.ofNat x.b0.toNat, UInt8.ofNat x.b1.toNat, UInt8.ofNat x.b2.toNat, UInt8.ofNat x.b3.toNat, UInt8.ofNat x.b4.toNat, UInt8.ofNat x.b5.toNat, UInt8.ofNat x.b6.toNat, UInt8.ofNat x.b7.toNat, UInt8.ofNat x.b8.toNat, UInt8.ofNat x.b9.toNat, UInt8.ofNat x.b10.toNat, UInt8.ofNat x.b11.toNat, UInt8.ofNat x.b12.toNat, UInt8.ofNat x.b13.toNat, UInt8.ofNat x.b14.toNat, UInt8.ofNat x.b15.toNat], SV.val (Value.bool x.po), SV.val (Value.int IntKind.i64 (IntKind.i64.wrap x.n)), SV.bts true []]) [x.wide = true, x.po = true, (!x.ec) = false]
def dr_p1 (x : DV) : Prop :=
  gives (dr_r0 x [true, false, false]) (SV.agg [SV.val (Value.bool x.ec), SV.val (Value.int IntKind.i64 (IntKind.i64.wrap x.i)), SV.bts false [UInt8.ofNat x.b0.toNat, UInt8.ofNat x.b1.toNat, UInt8.ofNat x.b2.toNat, UInt8.ofNat x.b3.toNat, UInt8.ofNat x.b4.toNat, UInt8.ofNat x.b5.toNat, UInt8.ofNat x.b6.toNat, UInt8.ofNat x.b7.toNat, UInt8.ofNat x.b8.toNat, UInt8.ofNat x.b9.toNat, UInt8.ofNat x.b10.toNat, UInt8.ofNat x.b11.toNat, UInt8.ofNat x.b12.toNat, UInt8.ofNat x.b13.toNat, UInt8.ofNat x.b14.toNat, UInt8.ofNat x.b15.toNat], SV.val (Value.bool x.po), SV.num IntKind.i64 (0 : Int), SV.bts true []]) [x.wide = true, x.po = false, (!x.ec) = false]
def dr_p2 (x : DV) : Prop :=
  gives (dr_r0 x [false, true, false]) (SV.agg [SV.val (Value.bool x.ec), SV.val (Value.int IntKind.i64 (IntKind.i64.wrap x.i)), SV.bts false [UInt8.ofNat x.b0.toNat, UInt8.ofNat x.b1.toNat, UInt8.ofNat x.b2.toNat, UInt8.ofNat x.b3.toNat], SV.val (Value.bool x.po), SV.val (Value.int IntKind.i64 (IntKind.i64.wrap x.n)), SV.bts true []]) [x.wide = false, x.po = true, (!x.ec) = false]
def dr_p3 (x : DV) : Prop :=
  gives (dr_r0 x [false, false, false]) (SV.agg [SV.val (Value.bool x.ec), SV.val (Value.int IntKind.i64 (IntKind.i64.wrap x.i)), SV.bts false [UInt8.ofNat x.b0.toNat, UInt8.ofNat x.b1.toNat, UInt8.ofNat x.b2.toNat, UInt8.ofNat x.b3.toNat], SV.val (Value.bool x.po), SV.num IntKind.i64 (0 : Int), SV.bts true []]) [x.wide = false, x.po = false, (!x.ec) = false]
def dr_p4 (x : DV) : Prop :=
  gives (dr_r0 x [true, true, true]) (SV.agg [SV.val (Value.bool x.ec), SV.val (Value.int IntKind.i64 (IntKind.i64.wrap x.i)), SV.bts false [UInt8.ofNat x.b0.toNat, UInt8.ofNat x.b1.toNat, UInt8.ofNat x.b2.toNat, UInt8.ofNat x.b3.toNat, UInt8.ofNat x.b4.toNat, UInt8.ofNat x.b5.toNat, UInt8.ofNat x.b6.toNat, UInt8.ofNat x.b7.toNat, UInt8.ofNat x.b8.toNat, UInt8.ofNat x.b9.toNat, UInt8.ofNat x.b10.toNat, UInt8.ofNat x.b11.toNat, UInt8.ofNat x.b12.toNat, UInt8.ofNat x.b13.toNat, UInt8.ofNat x.b14.toNat, UInt8.ofNat x.b15.toNat], SV.val (Value.bool x.po), SV.val (Value.int IntKind.i64 (IntKind.i64.wrap x.n)), SV.bts false [UInt8.ofNat x.b16.toNat, UInt8.ofNat x.b17.toNat, UInt8.ofNat x.b18.toNat, UInt8.ofNat x.b19.toNat, UInt8.ofNat x.b20.toNat, UInt8.ofNat x.b21.toNat, UInt8.ofNat x.b22.toNat, UInt8.ofNat x.b23.toNat]]) [x.wide = true, x.po = true, (!x.ec) = true]
def dr_p5 (x : DV) : Prop :=
  gives (dr_r0 x [true, false, true]) (SV.agg [SV.val (Value.bool x.ec), SV.val (Value.int IntKind.i64 (IntKind.i64.wrap x.i)), SV.bts false [UInt8.ofNat x.b0.toNat, UInt8.ofNat x.b1.toNat, UInt8.ofNat x.b2.toNat, UInt8.ofNat x.b3.toNat, UInt8.ofNat x.b4.toNat, UInt8.ofNat x.b5.toNat, UInt8.ofNat x.b6.toNat, UInt8.ofNat x.b7.toNat, UInt8.ofNat x.b8.toNat, UInt8.ofNat x.b9.toNat, UInt8.ofNat x.b10.toNat, UInt8.ofNat x.b11.toNat, UInt8.ofNat x.b12.toNat, UInt8.ofNat x.b13.toNat, UInt8.ofNat x.b14.toNat, UInt8.ofNat x.b15.toNat], SV.val (Value.bool x.po), SV.num IntKind.i64 (0 : Int), SV.bts false [UInt8.ofNat x.b16.toNat, UInt8.ofNat x.b17.toNat, UInt8.ofNat x.b18.toNat, UInt8.ofNat x.b19.toNat, UInt8.ofNat x.b20.toNat, UInt8.ofNat x.b21.toNat, UInt8.ofNat x.b22.toNat, UInt8.ofNat x.b23.toNat]]) [x.wide = true, x.po = false, (!x.ec) = true]
def dr_p6 (x : DV) : Prop :=
  gives (dr_r0 x [false, true, true]) (SV.agg [SV.val (Value.bool x.ec), SV.val (Value.int IntKind.i64 (IntKind.i64.wrap x.i)), SV.bts false [UInt8.ofNat x.b0.toNat, UInt8.ofNat x.b1.toNat, UInt8.ofNat x.b2.toNat, UInt8.ofNat x.b3.toNat], SV.val (Value.bool x.po), SV.val (Value.int IntKind.i64 (IntKind.i64.wrap x.n)), SV.bts false [UInt8.ofNat x.b16.toNat, UInt8.ofNat x.b17.toNat, UInt8.ofNat x.b18.toNat, UInt8.ofNat x.b19.toNat, UInt8.ofNat x.b20.toNat, UInt8.ofNat x.b21.toNat, UInt8.ofNat x.b22.toNat, UInt8.ofNat x.b23.toNat]]) [x.wide = false, x.po = true, (!x.ec) = true]
def dr_p7 (x : DV) : Prop :=
  gives (dr_r0 x [false, false, true]) (SV.agg [SV.val (Value.bool x.ec), SV.val (Value.int IntKind.i64 (IntKind.i64.wrap x.i)), SV.bts false [UInt8.ofNat x.b0.toNat, UInt8.ofNat x.b1.toNat, UInt8.ofNat x.b2.toNat, UInt8.ofNat x.b3.toNat], SV.val (Value.bool x.po), SV.num IntKind.i64 (0 : Int), SV.bts false [UInt8.ofNat x.b16.toNat, UInt8.ofNat x.b17.toNat, UInt8.ofNat x.b18.toNat, UInt8.ofNat x.b19.toNat, UInt8.ofNat x.b20.toNat, UInt8.ofNat x.b21.toNat, UInt8.ofNat x.b22.toNat, UInt8.ofNat x.b23.toNat]]) [x.wide = false, x.po = false, (!x.ec) = true]
set_option maxRecDepth 1000000 in
theorem dr_b0 (x : DV) : dr_p0 x ∧ dr_p1 x ∧ dr_p2 x ∧ dr_p3 x ∧ dr_p4 x ∧ dr_p5 x ∧ dr_p6 x ∧ dr_p7 x := by
  unfold dr_p0 dr_p1 dr_p2 dr_p3 dr_p4 dr_p5 dr_p6 dr_p7 gives; exact ⟨by kernel_rfl, by kernel_rfl, by kernel_rfl, by kernel_rfl, by kernel_rfl, by kernel_rfl, by kernel_rfl, by kernel_rfl⟩
theorem dr_0 (x : DV) : dr_p0 x := (dr_b0 x).1
theorem dr_1 (x : DV) : dr_p1 x := (dr_b0 x).2.1
theorem dr_2 (x : DV) : dr_p2 x := (dr_b0 x).2.2.1
theorem dr_3 (x : DV) : dr_p3 x := (dr_b0 x).2.2.2.1
theorem dr_4 (x : DV) : dr_p4 x := (dr_b0 x).2.2.2.2.1
theorem dr_5 (x : DV) : dr_p5 x := (dr_b0 x).2.2.2.2.2.1
theorem dr_6 (x : DV) : dr_p6 x := (dr_b0 x).2.2.2.2.2.2.1
theorem dr_7 (x : DV) : dr_p7 x := (dr_b0 x).2.2.2.2.2.2.2

theorem draft_calls (x : DV) (w : World) : Calls Try.prog 14 #[x.v] w (fun e w' => e = .returned x.j.v ∧ Below w.heap.size w w') := by
  rcases Bool.eq_false_or_eq_true (x.wide) with hb0 | hb0 <;> have c0 := hb0 <;> try simp only [decide_eq_true_eq, decide_eq_false_iff_not, beq_iff_eq, bne_iff_ne, ne_eq, beq_eq_false_iff_ne, bne_eq_false_iff_eq, Bool.not_eq_true', Bool.not_eq_false', Bool.false_eq_true, if_false, Bool.and_true, Bool.true_and, ba_beq, ba_toList_beq, ba_none, wi64, Bool.and_eq_true, Bool.and_eq_false_imp, Bool.not_eq_false, beq_self_eq_true, Int.ofNat_eq_natCast] at c0
  · rcases Bool.eq_false_or_eq_true (x.po) with hb1 | hb1 <;> have c1 := hb1 <;> try simp only [decide_eq_true_eq, decide_eq_false_iff_not, beq_iff_eq, bne_iff_ne, ne_eq, beq_eq_false_iff_ne, bne_eq_false_iff_eq, Bool.not_eq_true', Bool.not_eq_false', Bool.false_eq_true, if_false, Bool.and_true, Bool.true_and, ba_beq, ba_toList_beq, ba_none, wi64, Bool.and_eq_true, Bool.and_eq_false_imp, Bool.not_eq_false, beq_self_eq_true, Int.ofNat_eq_natCast] at c1
    · rcases Bool.eq_false_or_eq_true (!x.ec) with hb2 | hb2 <;> have c2 := hb2 <;> try simp only [decide_eq_true_eq, decide_eq_false_iff_not, beq_iff_eq, bne_iff_ne, ne_eq, beq_eq_false_iff_ne, bne_eq_false_iff_eq, Bool.not_eq_true', Bool.not_eq_false', Bool.false_eq_true, if_false, Bool.and_true, Bool.true_and, ba_beq, ba_toList_beq, ba_none, wi64, Bool.and_eq_true, Bool.and_eq_false_imp, Bool.not_eq_false, beq_self_eq_true, Int.ofNat_eq_natCast] at c2
      · refine leaf (dr_4 x) (by simp only [AllP, and_true]; (repeat' apply And.intro) <;> assumption) rfl (Rs.cons (by exact ⟨_, rfl, by simp [Rs, R]⟩) Rs.nil) ?_ rfl
        simp only [SV.toV, toVs, AV.v, DV.j, DV.ip4, DV.ip16, DV.mac8, c0, c1, c2, if_true, if_false, Bool.false_eq_true]
      · refine leaf (dr_0 x) (by simp only [AllP, and_true]; (repeat' apply And.intro) <;> assumption) rfl (Rs.cons (by exact ⟨_, rfl, by simp [Rs, R]⟩) Rs.nil) ?_ rfl
        simp only [SV.toV, toVs, AV.v, DV.j, DV.ip4, DV.ip16, DV.mac8, c0, c1, c2, if_true, if_false, Bool.false_eq_true]
    · rcases Bool.eq_false_or_eq_true (!x.ec) with hb2 | hb2 <;> have c2 := hb2 <;> try simp only [decide_eq_true_eq, decide_eq_false_iff_not, beq_iff_eq, bne_iff_ne, ne_eq, beq_eq_false_iff_ne, bne_eq_false_iff_eq, Bool.not_eq_true', Bool.not_eq_false', Bool.false_eq_true, if_false, Bool.and_true, Bool.true_and, ba_beq, ba_toList_beq, ba_none, wi64, Bool.and_eq_true, Bool.and_eq_false_imp, Bool.not_eq_false, beq_self_eq_true, Int.ofNat_eq_natCast] at c2
      · refine leaf (dr_5 x) (by simp only [AllP, and_true]; (repeat' apply And.intro) <;> assumption) rfl (Rs.cons (by exact ⟨_, rfl, by simp [Rs, R]⟩) Rs.nil) ?_ rfl
        simp only [SV.toV, toVs, AV.v, DV.j, DV.ip4, DV.ip16, DV.mac8, c0, c1, c2, if_true, if_false, Bool.false_eq_true]
      · refine leaf (dr_1 x) (by simp only [AllP, and_true]; (repeat' apply And.intro) <;> assumption) rfl (Rs.cons (by exact ⟨_, rfl, by simp [Rs, R]⟩) Rs.nil) ?_ rfl
        simp only [SV.toV, toVs, AV.v, DV.j, DV.ip4, DV.ip16, DV.mac8, c0, c1, c2, if_true, if_false, Bool.false_eq_true]
  · rcases Bool.eq_false_or_eq_true (x.po) with hb1 | hb1 <;> have c1 := hb1 <;> try simp only [decide_eq_true_eq, decide_eq_false_iff_not, beq_iff_eq, bne_iff_ne, ne_eq, beq_eq_false_iff_ne, bne_eq_false_iff_eq, Bool.not_eq_true', Bool.not_eq_false', Bool.false_eq_true, if_false, Bool.and_true, Bool.true_and, ba_beq, ba_toList_beq, ba_none, wi64, Bool.and_eq_true, Bool.and_eq_false_imp, Bool.not_eq_false, beq_self_eq_true, Int.ofNat_eq_natCast] at c1
    · rcases Bool.eq_false_or_eq_true (!x.ec) with hb2 | hb2 <;> have c2 := hb2 <;> try simp only [decide_eq_true_eq, decide_eq_false_iff_not, beq_iff_eq, bne_iff_ne, ne_eq, beq_eq_false_iff_ne, bne_eq_false_iff_eq, Bool.not_eq_true', Bool.not_eq_false', Bool.false_eq_true, if_false, Bool.and_true, Bool.true_and, ba_beq, ba_toList_beq, ba_none, wi64, Bool.and_eq_true, Bool.and_eq_false_imp, Bool.not_eq_false, beq_self_eq_true, Int.ofNat_eq_natCast] at c2
      · refine leaf (dr_6 x) (by simp only [AllP, and_true]; (repeat' apply And.intro) <;> assumption) rfl (Rs.cons (by exact ⟨_, rfl, by simp [Rs, R]⟩) Rs.nil) ?_ rfl
        simp only [SV.toV, toVs, AV.v, DV.j, DV.ip4, DV.ip16, DV.mac8, c0, c1, c2, if_true, if_false, Bool.false_eq_true]
      · refine leaf (dr_2 x) (by simp only [AllP, and_true]; (repeat' apply And.intro) <;> assumption) rfl (Rs.cons (by exact ⟨_, rfl, by simp [Rs, R]⟩) Rs.nil) ?_ rfl
        simp only [SV.toV, toVs, AV.v, DV.j, DV.ip4, DV.ip16, DV.mac8, c0, c1, c2, if_true, if_false, Bool.false_eq_true]
    · rcases Bool.eq_false_or_eq_true (!x.ec) with hb2 | hb2 <;> have c2 := hb2 <;> try simp only [decide_eq_true_eq, decide_eq_false_iff_not, beq_iff_eq, bne_iff_ne, ne_eq, beq_eq_false_iff_ne, bne_eq_false_iff_eq, Bool.not_eq_true', Bool.not_eq_false', Bool.false_eq_true, if_false, Bool.and_true, Bool.true_and, ba_beq, ba_toList_beq, ba_none, wi64, Bool.and_eq_true, Bool.and_eq_false_imp, Bool.not_eq_false, beq_self_eq_true, Int.ofNat_eq_natCast] at c2
      · refine leaf (dr_7 x) (by simp only [AllP, and_true]; (repeat' apply And.intro) <;> assumption) rfl (Rs.cons (by exact ⟨_, rfl, by simp [Rs, R]⟩) Rs.nil) ?_ rfl
        simp only [SV.toV, toVs, AV.v, DV.j, DV.ip4, DV.ip16, DV.mac8, c0, c1, c2, if_true, if_false, Bool.false_eq_true]
      · refine leaf (dr_3 x) (by simp only [AllP, and_true]; (repeat' apply And.intro) <;> assumption) rfl (Rs.cons (by exact ⟨_, rfl, by simp [Rs, R]⟩) Rs.nil) ?_ rfl
        simp only [SV.toV, toVs, AV.v, DV.j, DV.ip4, DV.ip16, DV.mac8, c0, c1, c2, if_true, if_false, Bool.false_eq_true]


/-! ### the contracts -/
def intsOf : List Value → Option (List Int)
  | [] => some []
  | .int .u8 z :: r => match intsOf r with
    | some l => some (z :: l)
    | none => none
  | _ => none
theorem intsOf_ok : ∀ (r : List Value) (l : List Int), intsOf r = some l → r = l.map (Value.int .u8)
  | [], l, h => by simp [intsOf] at h; subst h; rfl
  | x :: r, l, h => by
    unfold intsOf at h
    split at h
    · rename_i e; cases e
    · rename_i z r' e
      injection e with e1 e2
      subst e1; subst e2
      split at h
      · rename_i l' hl
        simp only [Option.some.injEq] at h
        subst h
        rw [intsOf_ok _ _ hl]; rfl
      · cases h
    · cases h
def dvOf (ec wide po : Bool) (i n : Int) (m : List Int) : DV := ⟨ec, wide, po, i, n, m.getD 0 0, m.getD 1 0, m.getD 2 0, m.getD 3 0, m.getD 4 0, m.getD 5 0, m.getD 6 0, m.getD 7 0, m.getD 8 0, m.getD 9 0, m.getD 10 0, m.getD 11 0, m.getD 12 0, m.getD 13 0, m.getD 14 0, m.getD 15 0, m.getD 16 0, m.getD 17 0, m.getD 18 0, m.getD 19 0, m.getD 20 0, m.getD 21 0, m.getD 22 0, m.getD 23 0⟩
theorem list24 (l : List Int) (h : l.length = 24) : ∃ m0 m1 m2 m3 m4 m5 m6 m7 m8 m9 m10 m11 m12 m13 m14 m15 m16 m17 m18 m19 m20 m21 m22 m23, l = [m0, m1, m2, m3, m4, m5, m6, m7, m8, m9, m10, m11, m12, m13, m14, m15, m16, m17, m18, m19, m20, m21, m22, m23] := by
  match l, h with
  | [m0, m1, m2, m3, m4, m5, m6, m7, m8, m9, m10, m11, m12, m13, m14, m15, m16, m17, m18, m19, m20, m21, m22, m23], _ => exact ⟨m0, m1, m2, m3, m4, m5, m6, m7, m8, m9, m10, m11, m12, m13, m14, m15, m16, m17, m18, m19, m20, m21, m22, m23, rfl⟩
def draftG (args : List SV) : Option (SV × Prop) :=
  match args with
  | [.agg l] =>
    match SV.vals l with
    | some (.bool ec :: .bool wide :: .bool po :: .int .u8 i :: .int .u16 n :: r) =>
      match intsOf r with
      | some m => if m.length = 24 then some ((dvOf ec wide po i n m).j.sv, True) else none
      | none => none
    | _ => none
  | _ => none
theorem draftG_ok : ∀ args s p, draftG args = some (s, p) → p → s.pln = true ∧ ∀ (w : World) (vs : List Value), Rs [] args vs →
    Calls Try.prog 14 vs.toArray w (fun e w' => e = .returned s.toV ∧ Below w.heap.size w w') := by
  intro args s p hg hp
  unfold draftG at hg
  split at hg
  · rename_i l
    split at hg
    · rename_i ec wide po i n r hl
      split at hg
      · rename_i ks hr
        split at hg
        · rename_i h24
          simp only [Option.some.injEq, Prod.mk.injEq] at hg
          obtain ⟨rfl, rfl⟩ := hg
          refine ⟨rfl, fun w vs hv => ?_⟩
          obtain ⟨v, r', rfl, hv1, hr'⟩ := hv.cons_inv
          simp only [Rs] at hr'; subst hr'
          obtain ⟨us, rfl, hus⟩ := hv1
          have e := SV.vals_R hl hus
          have e3 := intsOf_ok _ _ hr
          obtain ⟨m0, m1, m2, m3, m4, m5, m6, m7, m8, m9, m10, m11, m12, m13, m14, m15, m16, m17, m18, m19, m20, m21, m22, m23, rfl⟩ := list24 ks h24
          have e2 : us = #[.bool ec, .bool wide, .bool po, .int .u8 i, .int .u16 n, .int .u8 m0, .int .u8 m1, .int .u8 m2, .int .u8 m3, .int .u8 m4, .int .u8 m5, .int .u8 m6, .int .u8 m7, .int .u8 m8, .int .u8 m9, .int .u8 m10, .int .u8 m11, .int .u8 m12, .int .u8 m13, .int .u8 m14, .int .u8 m15, .int .u8 m16, .int .u8 m17, .int .u8 m18, .int .u8 m19, .int .u8 m20, .int .u8 m21, .int .u8 m22, .int .u8 m23] := Array.toList_inj.1 (by rw [e, e3]; rfl)
          subst e2
          exact draft_calls ⟨ec, wide, po, i, n, m0, m1, m2, m3, m4, m5, m6, m7, m8, m9, m10, m11, m12, m13, m14, m15, m16, m17, m18, m19, m20, m21, m22, m23⟩ w
        · simp at hg
      · simp at hg
    · simp at hg
  · simp at hg
def encG (args : List SV) : Option (SV × Prop) :=
  match args with
  | [.agg l] =>
    match SV.vals l with
    | some [.bool ec, .int .i64 id, .string ip, .bool has, .int .i64 port, .string mac] =>
      some (.tup [.val (.string (enc ⟨ec, id, ip, has, port, mac⟩).1), .val (.int .i64 (enc ⟨ec, id, ip, has, port, mac⟩).2)], ((-9223372036854775808 ≤ id ∧ id < 9223372036854775808) ∧ (-9223372036854775808 ≤ port ∧ port < 9223372036854775808)))
    | _ => none
  | _ => none
theorem encG_ok {f : FuncId} (h : ∀ (ec : Bool) (id : Int) (ip : ByteArray) (has : Bool) (port : Int) (mac : ByteArray), (-9223372036854775808 ≤ id ∧ id < 9223372036854775808) → (-9223372036854775808 ≤ port ∧ port < 9223372036854775808) → ∀ (w : World),
    Calls Try.prog f #[.agg #[.bool ec, .int .i64 id, .string ip, .bool has, .int .i64 port, .string mac]] w (fun e w' => e = .returned (.tuple #[.string (enc ⟨ec, id, ip, has, port, mac⟩).1, .int .i64 (enc ⟨ec, id, ip, has, port, mac⟩).2]) ∧ Below w.heap.size w w')) :
    ∀ args s p, encG args = some (s, p) → p → s.pln = true ∧ ∀ (w : World) (vs : List Value), Rs [] args vs →
    Calls Try.prog f vs.toArray w (fun e w' => e = .returned s.toV ∧ Below w.heap.size w w') := by
  intro args s p hg hp
  unfold encG at hg
  split at hg
  · rename_i l
    split at hg
    · rename_i ec id ip has port mac hl
      simp only [Option.some.injEq, Prod.mk.injEq] at hg
      obtain ⟨rfl, rfl⟩ := hg
      refine ⟨rfl, fun w vs hv => ?_⟩
      obtain ⟨v, r, rfl, hv1, hr⟩ := hv.cons_inv
      simp only [Rs] at hr; subst hr
      obtain ⟨us, rfl, hus⟩ := hv1
      have e := SV.vals_R hl hus
      have e2 : us = #[.bool ec, .int .i64 id, .string ip, .bool has, .int .i64 port, .string mac] := Array.toList_inj.1 e
      subst e2
      exact h ec id ip has port mac hp.1 hp.2 w
    · simp at hg
  · simp at hg
def decG (args : List SV) : Option (SV × Prop) :=
  match SV.vals args with
  | some [.string s] => some (.tup [(dec s).1.sv, .val (.int .i64 (dec s).2)], s.size ≤ 4611686018427387904)
  | _ => none
theorem decG_ok {f : FuncId} (h : ∀ (s : ByteArray), s.size ≤ 4611686018427387904 → ∀ (w : World), Calls Try.prog f #[.string s] w (fun e w' => e = .returned (.tuple #[(dec s).1.v, .int .i64 (dec s).2]) ∧ Below w.heap.size w w')) :
    ∀ args s p, decG args = some (s, p) → p → s.pln = true ∧ ∀ (w : World) (vs : List Value), Rs [] args vs →
    Calls Try.prog f vs.toArray w (fun e w' => e = .returned s.toV ∧ Below w.heap.size w w') := by
  intro args s p hg hp
  unfold decG at hg
  split at hg
  · rename_i b hl
    simp only [Option.some.injEq, Prod.mk.injEq] at hg
    obtain ⟨rfl, rfl⟩ := hg
    refine ⟨rfl, fun w vs hv => ?_⟩
    have e := SV.vals_R hl hv
    subst e
    exact h b hp w
  · simp at hg
def encRG (args : List SV) : Option (SV × Prop) :=
  match args with
  | [.agg l] =>
    match SV.vals l with
    | some [.string s] => some (.tup [.val (.string (encR s).1), .val (.int .i64 (encR s).2)], True)
    | _ => none
  | _ => none
theorem encRG_ok {f : FuncId} (h : ∀ (s : ByteArray) (w : World), Calls Try.prog f #[.agg #[.string s]] w (fun e w' => e = .returned (.tuple #[.string (encR s).1, .int .i64 (encR s).2]) ∧ Below w.heap.size w w')) :
    ∀ args s p, encRG args = some (s, p) → p → s.pln = true ∧ ∀ (w : World) (vs : List Value), Rs [] args vs →
    Calls Try.prog f vs.toArray w (fun e w' => e = .returned s.toV ∧ Below w.heap.size w w') := by
  intro args s p hg hp
  unfold encRG at hg
  split at hg
  · rename_i l
    split at hg
    · rename_i b hl
      simp only [Option.some.injEq, Prod.mk.injEq] at hg
      obtain ⟨rfl, rfl⟩ := hg
      refine ⟨rfl, fun w vs hv => ?_⟩
      obtain ⟨v, r, rfl, hv1, hr⟩ := hv.cons_inv
      simp only [Rs] at hr; subst hr
      obtain ⟨us, rfl, hus⟩ := hv1
      have e := SV.vals_R hl hus
      have e2 : us = #[.string b] := Array.toList_inj.1 e
      subst e2
      exact h b w
    · simp at hg
  · simp at hg
def decRG (args : List SV) : Option (SV × Prop) :=
  match SV.vals args with
  | some [.string s] => some (.tup [.agg [.val (.string (decR s).1)], .val (.int .i64 (decR s).2)], s.size ≤ 4611686018427387904)
  | _ => none
theorem decRG_ok {f : FuncId} (h : ∀ (s : ByteArray) (w : World), s.size ≤ 4611686018427387904 → Calls Try.prog f #[.string s] w (fun e w' => e = .returned (.tuple #[.agg #[.string (decR s).1], .int .i64 (decR s).2]) ∧ Below w.heap.size w w')) :
    ∀ args s p, decRG args = some (s, p) → p → s.pln = true ∧ ∀ (w : World) (vs : List Value), Rs [] args vs →
    Calls Try.prog f vs.toArray w (fun e w' => e = .returned s.toV ∧ Below w.heap.size w w') := by
  intro args s p hg hp
  unfold decRG at hg
  split at hg
  · rename_i b hl
    simp only [Option.some.injEq, Prod.mk.injEq] at hg
    obtain ⟨rfl, rfl⟩ := hg
    refine ⟨rfl, fun w vs hv => ?_⟩
    have e := SV.vals_R hl hv
    subst e
    exact h b w hp
  · simp at hg
set_option maxRecDepth 1000000 in
theorem works_r : gives (callR X (run X 100) 13 [] [] []) (.bol true) [] := by unfold gives; kernel_rfl
noncomputable def worksT : Go.Ex.Told Try.prog := ⟨13, [], .bol true, fun _ _ h => con_gives _ _ _ works_r trivial rfl h⟩
noncomputable def allC : Con Try.prog := (Con.ofVals 9 encG (encG_ok e_calls)).or ((Con.ofVals 10 encG (encG_ok r_calls)).or ((Con.ofVals 15 decG (decG_ok d_calls)).or ((Con.ofVals 16 decG (decG_ok q_calls)).or ((Con.ofVals 11 encRG (encRG_ok em_calls)).or ((Con.ofVals 12 encRG (encRG_ok rm_calls)).or ((Con.ofVals 17 decRG (decRG_ok dm_calls)).or ((Con.ofVals 18 decRG (decRG_ok qm_calls)).or ((Con.ofVals 14 draftG draftG_ok).or (Con.told [worksT])))))))))
noncomputable def Y : Cx := conned allC
end Go.Proofs.Ytopillmjfpnmoaa
