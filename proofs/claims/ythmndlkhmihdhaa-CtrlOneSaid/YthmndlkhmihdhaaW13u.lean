/-
  Walks of functions, reckoned through, and what they give (part W13u). No condition beyond what each says. By an AI agent.
-/
import Derived.Test.YthmndlkhmihdhaaW13t
namespace Go.Proofs.Ythmndlkhmihdhaa
open Go.Ex
open Go.RowKit (Below)
set_option linter.unusedVariables false
set_option linter.unusedSimpArgs false
noncomputable def rp_r0 (s : ByteArray) (ans : List Bool) : Rr (SV × Option (List SO)) := callR X (run X (100 : Nat)) (28 : FuncId) [SV.val (Value.string s)] [] ans
def rp_p0 (s : ByteArray) : Prop :=
  gives (rp_r0 s [true]) (SV.tup [SV.agg [SV.bol false], SV.num IntKind.i64 (4 : Int)]) [(s.toList == (ByteArray.mk (ByteArray.mk #[]).data.toList.toArray).toList) = true]
def rp_p1 (s : ByteArray) : Prop :=
  gives (rp_r0 s [false, true]) (SV.tup [SV.agg [SV.bol false], SV.num IntKind.i64 (7 : Int)]) [(s.toList == (ByteArray.mk (ByteArray.mk #[]).data.toList.toArray).toList) = false, (0 : Int) ≤ (0 : Int) ∧ (0 : Int) < (↑s.size : Int), (IntKind.i64.wrap ((IntKind.i64.wrap (byteAt s (0 : Int))).tdiv (16 : Int)) != (5 : Int)) = true]
def rp_p2 (s : ByteArray) : Prop :=
  gives (rp_r0 s [false, false, false, false]) (SV.tup [SV.agg [SV.val (Value.bool ((byteAt s (0 : Int)).tmod (2 : Int) == (1 : Int)))], SV.num IntKind.i64 (0 : Int)]) [(s.toList == (ByteArray.mk (ByteArray.mk #[]).data.toList.toArray).toList) = false, (0 : Int) ≤ (0 : Int) ∧ (0 : Int) < (↑s.size : Int), (IntKind.i64.wrap ((IntKind.i64.wrap (byteAt s (0 : Int))).tdiv (16 : Int)) != (5 : Int)) = false, decide ((↑s.size : Int) < (1 : Int)) = false, decide ((↑s.size : Int) > (1 : Int)) = false, (0 : Int) ≤ (0 : Int) ∧ (0 : Int) < (↑s.size : Int)]
def rp_p3 (s : ByteArray) : Prop :=
  gives (rp_r0 s [false, false, false, true]) (SV.tup [SV.agg [SV.bol false], SV.num IntKind.i64 (5 : Int)]) [(s.toList == (ByteArray.mk (ByteArray.mk #[]).data.toList.toArray).toList) = false, (0 : Int) ≤ (0 : Int) ∧ (0 : Int) < (↑s.size : Int), (IntKind.i64.wrap ((IntKind.i64.wrap (byteAt s (0 : Int))).tdiv (16 : Int)) != (5 : Int)) = false, decide ((↑s.size : Int) < (1 : Int)) = false, decide ((↑s.size : Int) > (1 : Int)) = true]
set_option maxRecDepth 1000000 in
theorem rp_b0 (s : ByteArray) : rp_p0 s ∧ rp_p1 s ∧ rp_p2 s ∧ rp_p3 s := by
  unfold rp_p0 rp_p1 rp_p2 rp_p3 gives; exact ⟨by kernel_rfl, by kernel_rfl, by kernel_rfl, by kernel_rfl⟩
theorem rp_0 (s : ByteArray) : rp_p0 s := (rp_b0 s).1
theorem rp_1 (s : ByteArray) : rp_p1 s := (rp_b0 s).2.1
theorem rp_2 (s : ByteArray) : rp_p2 s := (rp_b0 s).2.2.1
theorem rp_3 (s : ByteArray) : rp_p3 s := (rp_b0 s).2.2.2
noncomputable def rf_r0 (s : ByteArray) (ans : List Bool) : Rr (SV × Option (List SO)) := callR X (run X (100 : Nat)) (29 : FuncId) [SV.val (Value.string s)] [] ans
def rf_p0 (s : ByteArray) : Prop :=
  gives (rf_r0 s [true]) (SV.tup [SV.agg [SV.num IntKind.u64 (0 : Int)], SV.num IntKind.i64 (4 : Int)]) [(s.toList == (ByteArray.mk (ByteArray.mk #[]).data.toList.toArray).toList) = true]
def rf_p1 (s : ByteArray) : Prop :=
  gives (rf_r0 s [false, true]) (SV.tup [SV.agg [SV.num IntKind.u64 (0 : Int)], SV.num IntKind.i64 (7 : Int)]) [(s.toList == (ByteArray.mk (ByteArray.mk #[]).data.toList.toArray).toList) = false, (0 : Int) ≤ (0 : Int) ∧ (0 : Int) < (↑s.size : Int), (IntKind.i64.wrap ((IntKind.i64.wrap (byteAt s (0 : Int))).tdiv (16 : Int)) != (6 : Int)) = true]
def rf_p2 (s : ByteArray) : Prop :=
  gives (rf_r0 s [false, false, true]) (SV.tup [SV.agg [SV.num IntKind.u64 (0 : Int)], SV.num IntKind.i64 (4 : Int)]) [(s.toList == (ByteArray.mk (ByteArray.mk #[]).data.toList.toArray).toList) = false, (0 : Int) ≤ (0 : Int) ∧ (0 : Int) < (↑s.size : Int), (IntKind.i64.wrap ((IntKind.i64.wrap (byteAt s (0 : Int))).tdiv (16 : Int)) != (6 : Int)) = false, decide ((↑s.size : Int) < (10 : Int)) = true]
def rf_p3 (s : ByteArray) : Prop :=
  gives (rf_r0 s [false, false, false, false, true, true, true, true, true, true, true, true, false]) (SV.tup [SV.agg [SV.val (Value.int IntKind.u64 (IntKind.u64.wrap (IntKind.u64.wrap (IntKind.u64.wrap (IntKind.u64.wrap (IntKind.u64.wrap (IntKind.u64.wrap (IntKind.u64.wrap (IntKind.u64.wrap (IntKind.u64.wrap (IntKind.u64.wrap (IntKind.u64.wrap (IntKind.u64.wrap (IntKind.u64.wrap (IntKind.u64.wrap (IntKind.u64.wrap ((0 : Int) + IntKind.u64.wrap (byteAt (s.extract (2 : Nat) (↑s.size : Int).toNat) (0 : Int))) * (256 : Int)) + IntKind.u64.wrap (byteAt (s.extract (2 : Nat) (↑s.size : Int).toNat) (1 : Int))) * (256 : Int)) + IntKind.u64.wrap (byteAt (s.extract (2 : Nat) (↑s.size : Int).toNat) (2 : Int))) * (256 : Int)) + IntKind.u64.wrap (byteAt (s.extract (2 : Nat) (↑s.size : Int).toNat) (3 : Int))) * (256 : Int)) + IntKind.u64.wrap (byteAt (s.extract (2 : Nat) (↑s.size : Int).toNat) (4 : Int))) * (256 : Int)) + IntKind.u64.wrap (byteAt (s.extract (2 : Nat) (↑s.size : Int).toNat) (5 : Int))) * (256 : Int)) + IntKind.u64.wrap (byteAt (s.extract (2 : Nat) (↑s.size : Int).toNat) (6 : Int))) * (256 : Int)) + IntKind.u64.wrap (byteAt (s.extract (2 : Nat) (↑s.size : Int).toNat) (7 : Int)))))], SV.num IntKind.i64 (0 : Int)]) [(s.toList == (ByteArray.mk (ByteArray.mk #[]).data.toList.toArray).toList) = false, (0 : Int) ≤ (0 : Int) ∧ (0 : Int) < (↑s.size : Int), (IntKind.i64.wrap ((IntKind.i64.wrap (byteAt s (0 : Int))).tdiv (16 : Int)) != (6 : Int)) = false, decide ((↑s.size : Int) < (10 : Int)) = false, decide ((↑s.size : Int) > (10 : Int)) = false, (0 : Int) ≤ (2 : Int) ∧ (2 : Int) ≤ (↑s.size : Int) ∧ (↑s.size : Int) ≤ (↑s.size : Int), decide ((0 : Int) < (↑(s.extract (2 : Nat) (↑s.size : Int).toNat).size : Int)) = true, (0 : Int) ≤ (0 : Int) ∧ (0 : Int) < (↑(s.extract (2 : Nat) (↑s.size : Int).toNat).size : Int), decide ((1 : Int) < (↑(s.extract (2 : Nat) (↑s.size : Int).toNat).size : Int)) = true, (0 : Int) ≤ (1 : Int) ∧ (1 : Int) < (↑(s.extract (2 : Nat) (↑s.size : Int).toNat).size : Int), decide ((2 : Int) < (↑(s.extract (2 : Nat) (↑s.size : Int).toNat).size : Int)) = true, (0 : Int) ≤ (2 : Int) ∧ (2 : Int) < (↑(s.extract (2 : Nat) (↑s.size : Int).toNat).size : Int), decide ((3 : Int) < (↑(s.extract (2 : Nat) (↑s.size : Int).toNat).size : Int)) = true, (0 : Int) ≤ (3 : Int) ∧ (3 : Int) < (↑(s.extract (2 : Nat) (↑s.size : Int).toNat).size : Int), decide ((4 : Int) < (↑(s.extract (2 : Nat) (↑s.size : Int).toNat).size : Int)) = true, (0 : Int) ≤ (4 : Int) ∧ (4 : Int) < (↑(s.extract (2 : Nat) (↑s.size : Int).toNat).size : Int), decide ((5 : Int) < (↑(s.extract (2 : Nat) (↑s.size : Int).toNat).size : Int)) = true, (0 : Int) ≤ (5 : Int) ∧ (5 : Int) < (↑(s.extract (2 : Nat) (↑s.size : Int).toNat).size : Int), decide ((6 : Int) < (↑(s.extract (2 : Nat) (↑s.size : Int).toNat).size : Int)) = true, (0 : Int) ≤ (6 : Int) ∧ (6 : Int) < (↑(s.extract (2 : Nat) (↑s.size : Int).toNat).size : Int), decide ((7 : Int) < (↑(s.extract (2 : Nat) (↑s.size : Int).toNat).size : Int)) = true, (0 : Int) ≤ (7 : Int) ∧ (7 : Int) < (↑(s.extract (2 : Nat) (↑s.size : Int).toNat).size : Int), decide ((8 : Int) < (↑(s.extract (2 : Nat) (↑s.size : Int).toNat).size : Int)) = false]
def rf_p4 (s : ByteArray) : Prop :=
  gives (rf_r0 s [false, false, false, true]) (SV.tup [SV.agg [SV.num IntKind.u64 (0 : Int)], SV.num IntKind.i64 (5 : Int)]) [(s.toList == (ByteArray.mk (ByteArray.mk #[]).data.toList.toArray).toList) = false, (0 : Int) ≤ (0 : Int) ∧ (0 : Int) < (↑s.size : Int), (IntKind.i64.wrap ((IntKind.i64.wrap (byteAt s (0 : Int))).tdiv (16 : Int)) != (6 : Int)) = false, decide ((↑s.size : Int) < (10 : Int)) = false, decide ((↑s.size : Int) > (10 : Int)) = true]
set_option maxRecDepth 1000000 in
theorem rf_b0 (s : ByteArray) : rf_p0 s ∧ rf_p1 s ∧ rf_p2 s ∧ rf_p3 s ∧ rf_p4 s := by
  unfold rf_p0 rf_p1 rf_p2 rf_p3 rf_p4 gives; exact ⟨by kernel_rfl, by kernel_rfl, by kernel_rfl, by kernel_rfl, by kernel_rfl⟩
theorem rf_0 (s : ByteArray) : rf_p0 s := (rf_b0 s).1
theorem rf_1 (s : ByteArray) : rf_p1 s := (rf_b0 s).2.1
theorem rf_2 (s : ByteArray) : rf_p2 s := (rf_b0 s).2.2.1
theorem rf_3 (s : ByteArray) : rf_p3 s := (rf_b0 s).2.2.2.1
theorem rf_4 (s : ByteArray) : rf_p4 s := (rf_b0 s).2.2.2.2
noncomputable def rk_r0 (s : ByteArray) (ans : List Bool) : Rr (SV × Option (List SO)) := callR X (run X (100 : Nat)) (30 : FuncId) [SV.val (Value.string s)] [] ans
def rk_p0 (s : ByteArray) : Prop :=
  gives (rk_r0 s [true]) (SV.tup [SV.agg [SV.num IntKind.u64 (0 : Int)], SV.num IntKind.i64 (4 : Int)]) [(s.toList == (ByteArray.mk (ByteArray.mk #[]).data.toList.toArray).toList) = true]
def rk_p1 (s : ByteArray) : Prop :=
  gives (rk_r0 s [false, true]) (SV.tup [SV.agg [SV.num IntKind.u64 (0 : Int)], SV.num IntKind.i64 (7 : Int)]) [(s.toList == (ByteArray.mk (ByteArray.mk #[]).data.toList.toArray).toList) = false, (0 : Int) ≤ (0 : Int) ∧ (0 : Int) < (↑s.size : Int), (IntKind.i64.wrap ((IntKind.i64.wrap (byteAt s (0 : Int))).tdiv (16 : Int)) != (7 : Int)) = true]
def rk_p2 (s : ByteArray) : Prop :=
  gives (rk_r0 s [false, false, true]) (SV.tup [SV.agg [SV.num IntKind.u64 (0 : Int)], SV.num IntKind.i64 (4 : Int)]) [(s.toList == (ByteArray.mk (ByteArray.mk #[]).data.toList.toArray).toList) = false, (0 : Int) ≤ (0 : Int) ∧ (0 : Int) < (↑s.size : Int), (IntKind.i64.wrap ((IntKind.i64.wrap (byteAt s (0 : Int))).tdiv (16 : Int)) != (7 : Int)) = false, decide ((↑s.size : Int) < (10 : Int)) = true]
def rk_p3 (s : ByteArray) : Prop :=
  gives (rk_r0 s [false, false, false, false, true, true, true, true, true, true, true, true, false]) (SV.tup [SV.agg [SV.val (Value.int IntKind.u64 (IntKind.u64.wrap (IntKind.u64.wrap (IntKind.u64.wrap (IntKind.u64.wrap (IntKind.u64.wrap (IntKind.u64.wrap (IntKind.u64.wrap (IntKind.u64.wrap (IntKind.u64.wrap (IntKind.u64.wrap (IntKind.u64.wrap (IntKind.u64.wrap (IntKind.u64.wrap (IntKind.u64.wrap (IntKind.u64.wrap ((0 : Int) + IntKind.u64.wrap (byteAt (s.extract (2 : Nat) (↑s.size : Int).toNat) (0 : Int))) * (256 : Int)) + IntKind.u64.wrap (byteAt (s.extract (2 : Nat) (↑s.size : Int).toNat) (1 : Int))) * (256 : Int)) + IntKind.u64.wrap (byteAt (s.extract (2 : Nat) (↑s.size : Int).toNat) (2 : Int))) * (256 : Int)) + IntKind.u64.wrap (byteAt (s.extract (2 : Nat) (↑s.size : Int).toNat) (3 : Int))) * (256 : Int)) + IntKind.u64.wrap (byteAt (s.extract (2 : Nat) (↑s.size : Int).toNat) (4 : Int))) * (256 : Int)) + IntKind.u64.wrap (byteAt (s.extract (2 : Nat) (↑s.size : Int).toNat) (5 : Int))) * (256 : Int)) + IntKind.u64.wrap (byteAt (s.extract (2 : Nat) (↑s.size : Int).toNat) (6 : Int))) * (256 : Int)) + IntKind.u64.wrap (byteAt (s.extract (2 : Nat) (↑s.size : Int).toNat) (7 : Int)))))], SV.num IntKind.i64 (0 : Int)]) [(s.toList == (ByteArray.mk (ByteArray.mk #[]).data.toList.toArray).toList) = false, (0 : Int) ≤ (0 : Int) ∧ (0 : Int) < (↑s.size : Int), (IntKind.i64.wrap ((IntKind.i64.wrap (byteAt s (0 : Int))).tdiv (16 : Int)) != (7 : Int)) = false, decide ((↑s.size : Int) < (10 : Int)) = false, decide ((↑s.size : Int) > (10 : Int)) = false, (0 : Int) ≤ (2 : Int) ∧ (2 : Int) ≤ (↑s.size : Int) ∧ (↑s.size : Int) ≤ (↑s.size : Int), decide ((0 : Int) < (↑(s.extract (2 : Nat) (↑s.size : Int).toNat).size : Int)) = true, (0 : Int) ≤ (0 : Int) ∧ (0 : Int) < (↑(s.extract (2 : Nat) (↑s.size : Int).toNat).size : Int), decide ((1 : Int) < (↑(s.extract (2 : Nat) (↑s.size : Int).toNat).size : Int)) = true, (0 : Int) ≤ (1 : Int) ∧ (1 : Int) < (↑(s.extract (2 : Nat) (↑s.size : Int).toNat).size : Int), decide ((2 : Int) < (↑(s.extract (2 : Nat) (↑s.size : Int).toNat).size : Int)) = true, (0 : Int) ≤ (2 : Int) ∧ (2 : Int) < (↑(s.extract (2 : Nat) (↑s.size : Int).toNat).size : Int), decide ((3 : Int) < (↑(s.extract (2 : Nat) (↑s.size : Int).toNat).size : Int)) = true, (0 : Int) ≤ (3 : Int) ∧ (3 : Int) < (↑(s.extract (2 : Nat) (↑s.size : Int).toNat).size : Int), decide ((4 : Int) < (↑(s.extract (2 : Nat) (↑s.size : Int).toNat).size : Int)) = true, (0 : Int) ≤ (4 : Int) ∧ (4 : Int) < (↑(s.extract (2 : Nat) (↑s.size : Int).toNat).size : Int), decide ((5 : Int) < (↑(s.extract (2 : Nat) (↑s.size : Int).toNat).size : Int)) = true, (0 : Int) ≤ (5 : Int) ∧ (5 : Int) < (↑(s.extract (2 : Nat) (↑s.size : Int).toNat).size : Int), decide ((6 : Int) < (↑(s.extract (2 : Nat) (↑s.size : Int).toNat).size : Int)) = true, (0 : Int) ≤ (6 : Int) ∧ (6 : Int) < (↑(s.extract (2 : Nat) (↑s.size : Int).toNat).size : Int), decide ((7 : Int) < (↑(s.extract (2 : Nat) (↑s.size : Int).toNat).size : Int)) = true, (0 : Int) ≤ (7 : Int) ∧ (7 : Int) < (↑(s.extract (2 : Nat) (↑s.size : Int).toNat).size : Int), decide ((8 : Int) < (↑(s.extract (2 : Nat) (↑s.size : Int).toNat).size : Int)) = false]
def rk_p4 (s : ByteArray) : Prop :=
  gives (rk_r0 s [false, false, false, true]) (SV.tup [SV.agg [SV.num IntKind.u64 (0 : Int)], SV.num IntKind.i64 (5 : Int)]) [(s.toList == (ByteArray.mk (ByteArray.mk #[]).data.toList.toArray).toList) = false, (0 : Int) ≤ (0 : Int) ∧ (0 : Int) < (↑s.size : Int), (IntKind.i64.wrap ((IntKind.i64.wrap (byteAt s (0 : Int))).tdiv (16 : Int)) != (7 : Int)) = false, decide ((↑s.size : Int) < (10 : Int)) = false, decide ((↑s.size : Int) > (10 : Int)) = true]
set_option maxRecDepth 1000000 in
theorem rk_b0 (s : ByteArray) : rk_p0 s ∧ rk_p1 s ∧ rk_p2 s ∧ rk_p3 s ∧ rk_p4 s := by
  unfold rk_p0 rk_p1 rk_p2 rk_p3 rk_p4 gives; exact ⟨by kernel_rfl, by kernel_rfl, by kernel_rfl, by kernel_rfl, by kernel_rfl⟩
theorem rk_0 (s : ByteArray) : rk_p0 s := (rk_b0 s).1
theorem rk_1 (s : ByteArray) : rk_p1 s := (rk_b0 s).2.1
theorem rk_2 (s : ByteArray) : rk_p2 s := (rk_b0 s).2.2.1
theorem rk_3 (s : ByteArray) : rk_p3 s := (rk_b0 s).2.2.2.1
theorem rk_4 (s : ByteArray) : rk_p4 s := (rk_b0 s).2.2.2.2
noncomputable def rr_r0 (s : ByteArray) (ans : List Bool) : Rr (SV × Option (List SO)) := callR X (run X (100 : Nat)) (31 : FuncId) [SV.val (Value.string s)] [] ans
def rr_p0 (s : ByteArray) : Prop :=
  gives (rr_r0 s [true]) (SV.tup [SV.agg [SV.num IntKind.i64 (0 : Int), SV.num IntKind.i64 (0 : Int)], SV.num IntKind.i64 (4 : Int)]) [(s.toList == (ByteArray.mk (ByteArray.mk #[]).data.toList.toArray).toList) = true]
def rr_p1 (s : ByteArray) : Prop :=
  gives (rr_r0 s [false, true]) (SV.tup [SV.agg [SV.num IntKind.i64 (0 : Int), SV.num IntKind.i64 (0 : Int)], SV.num IntKind.i64 (7 : Int)]) [(s.toList == (ByteArray.mk (ByteArray.mk #[]).data.toList.toArray).toList) = false, (0 : Int) ≤ (0 : Int) ∧ (0 : Int) < (↑s.size : Int), (IntKind.i64.wrap ((IntKind.i64.wrap (byteAt s (0 : Int))).tdiv (16 : Int)) != (8 : Int)) = true]
def rr_p2 (s : ByteArray) : Prop :=
  gives (rr_r0 s [false, false, true]) (SV.tup [SV.agg [SV.num IntKind.i64 (0 : Int), SV.num IntKind.i64 (0 : Int)], SV.num IntKind.i64 (4 : Int)]) [(s.toList == (ByteArray.mk (ByteArray.mk #[]).data.toList.toArray).toList) = false, (0 : Int) ≤ (0 : Int) ∧ (0 : Int) < (↑s.size : Int), (IntKind.i64.wrap ((IntKind.i64.wrap (byteAt s (0 : Int))).tdiv (16 : Int)) != (8 : Int)) = false, decide ((↑s.size : Int) < (2 : Int)) = true]
def rr_p3 (s : ByteArray) : Prop :=
  gives (rr_r0 s [false, false, false, false]) (SV.tup [SV.agg [SV.val (Value.int IntKind.i64 ((IntKind.i64.wrap (byteAt s (0 : Int))).tmod (16 : Int))), SV.val (Value.int IntKind.i64 (IntKind.i64.wrap (byteAt s (1 : Int))))], SV.num IntKind.i64 (0 : Int)]) [(s.toList == (ByteArray.mk (ByteArray.mk #[]).data.toList.toArray).toList) = false, (0 : Int) ≤ (0 : Int) ∧ (0 : Int) < (↑s.size : Int), (IntKind.i64.wrap ((IntKind.i64.wrap (byteAt s (0 : Int))).tdiv (16 : Int)) != (8 : Int)) = false, decide ((↑s.size : Int) < (2 : Int)) = false, decide ((↑s.size : Int) > (2 : Int)) = false, (0 : Int) ≤ (0 : Int) ∧ (0 : Int) < (↑s.size : Int), (0 : Int) ≤ (1 : Int) ∧ (1 : Int) < (↑s.size : Int)]
def rr_p4 (s : ByteArray) : Prop :=
  gives (rr_r0 s [false, false, false, true]) (SV.tup [SV.agg [SV.num IntKind.i64 (0 : Int), SV.num IntKind.i64 (0 : Int)], SV.num IntKind.i64 (5 : Int)]) [(s.toList == (ByteArray.mk (ByteArray.mk #[]).data.toList.toArray).toList) = false, (0 : Int) ≤ (0 : Int) ∧ (0 : Int) < (↑s.size : Int), (IntKind.i64.wrap ((IntKind.i64.wrap (byteAt s (0 : Int))).tdiv (16 : Int)) != (8 : Int)) = false, decide ((↑s.size : Int) < (2 : Int)) = false, decide ((↑s.size : Int) > (2 : Int)) = true]
set_option maxRecDepth 1000000 in
theorem rr_b0 (s : ByteArray) : rr_p0 s ∧ rr_p1 s ∧ rr_p2 s ∧ rr_p3 s ∧ rr_p4 s := by
  unfold rr_p0 rr_p1 rr_p2 rr_p3 rr_p4 gives; exact ⟨by kernel_rfl, by kernel_rfl, by kernel_rfl, by kernel_rfl, by kernel_rfl⟩
theorem rr_0 (s : ByteArray) : rr_p0 s := (rr_b0 s).1
theorem rr_1 (s : ByteArray) : rr_p1 s := (rr_b0 s).2.1
theorem rr_2 (s : ByteArray) : rr_p2 s := (rr_b0 s).2.2.1
theorem rr_3 (s : ByteArray) : rr_p3 s := (rr_b0 s).2.2.2.1
theorem rr_4 (s : ByteArray) : rr_p4 s := (rr_b0 s).2.2.2.2
def ep_p0 (b : Bool) : Prop :=
  gives (callR X (run X (100 : Nat)) (8 : FuncId) [SV.agg [SV.val (Value.bool b)]] [] [true]) (SV.tup [SV.bts true [UInt8.ofNat (81 : Nat)], SV.num IntKind.i64 (0 : Int)]) [b = true]
def ep_p1 (b : Bool) : Prop :=
  gives (callR X (run X (100 : Nat)) (8 : FuncId) [SV.agg [SV.val (Value.bool b)]] [] [false]) (SV.tup [SV.bts true [UInt8.ofNat (80 : Nat)], SV.num IntKind.i64 (0 : Int)]) [b = false]
set_option maxRecDepth 1000000 in
theorem ep_b0 (b : Bool) : ep_p0 b ∧ ep_p1 b := by
  unfold ep_p0 ep_p1 gives; exact ⟨by kernel_rfl, by kernel_rfl⟩
theorem ep_0 (b : Bool) : ep_p0 b := (ep_b0 b).1
theorem ep_1 (b : Bool) : ep_p1 b := (ep_b0 b).2
set_option maxRecDepth 1000000 in
theorem ef_0 (n : Int) :
    gives (callR X (run X (100 : Nat)) (9 : FuncId) [SV.agg [SV.val (Value.int IntKind.u64 n)]] [] []) (SV.tup [SV.bts false [UInt8.ofNat (96 : Nat), UInt8.ofNat (0 : Nat), UInt8.ofNat (IntKind.u8.wrap (((((((n.fdiv (256 : Int)).fdiv (256 : Int)).fdiv (256 : Int)).fdiv (256 : Int)).fdiv (256 : Int)).fdiv (256 : Int)).fdiv (256 : Int))).toNat, UInt8.ofNat (IntKind.u8.wrap ((((((n.fdiv (256 : Int)).fdiv (256 : Int)).fdiv (256 : Int)).fdiv (256 : Int)).fdiv (256 : Int)).fdiv (256 : Int))).toNat, UInt8.ofNat (IntKind.u8.wrap (((((n.fdiv (256 : Int)).fdiv (256 : Int)).fdiv (256 : Int)).fdiv (256 : Int)).fdiv (256 : Int))).toNat, UInt8.ofNat (IntKind.u8.wrap ((((n.fdiv (256 : Int)).fdiv (256 : Int)).fdiv (256 : Int)).fdiv (256 : Int))).toNat, UInt8.ofNat (IntKind.u8.wrap (((n.fdiv (256 : Int)).fdiv (256 : Int)).fdiv (256 : Int))).toNat, UInt8.ofNat (IntKind.u8.wrap ((n.fdiv (256 : Int)).fdiv (256 : Int))).toNat, UInt8.ofNat (IntKind.u8.wrap (n.fdiv (256 : Int))).toNat, UInt8.ofNat (IntKind.u8.wrap n).toNat], SV.num IntKind.i64 (0 : Int)]) [] := by unfold gives; kernel_rfl
set_option maxRecDepth 1000000 in
theorem ek_0 (n : Int) :
    gives (callR X (run X (100 : Nat)) (10 : FuncId) [SV.agg [SV.val (Value.int IntKind.u64 n)]] [] []) (SV.tup [SV.bts false [UInt8.ofNat (112 : Nat), UInt8.ofNat (0 : Nat), UInt8.ofNat (IntKind.u8.wrap (((((((n.fdiv (256 : Int)).fdiv (256 : Int)).fdiv (256 : Int)).fdiv (256 : Int)).fdiv (256 : Int)).fdiv (256 : Int)).fdiv (256 : Int))).toNat, UInt8.ofNat (IntKind.u8.wrap ((((((n.fdiv (256 : Int)).fdiv (256 : Int)).fdiv (256 : Int)).fdiv (256 : Int)).fdiv (256 : Int)).fdiv (256 : Int))).toNat, UInt8.ofNat (IntKind.u8.wrap (((((n.fdiv (256 : Int)).fdiv (256 : Int)).fdiv (256 : Int)).fdiv (256 : Int)).fdiv (256 : Int))).toNat, UInt8.ofNat (IntKind.u8.wrap ((((n.fdiv (256 : Int)).fdiv (256 : Int)).fdiv (256 : Int)).fdiv (256 : Int))).toNat, UInt8.ofNat (IntKind.u8.wrap (((n.fdiv (256 : Int)).fdiv (256 : Int)).fdiv (256 : Int))).toNat, UInt8.ofNat (IntKind.u8.wrap ((n.fdiv (256 : Int)).fdiv (256 : Int))).toNat, UInt8.ofNat (IntKind.u8.wrap (n.fdiv (256 : Int))).toNat, UInt8.ofNat (IntKind.u8.wrap n).toNat], SV.num IntKind.i64 (0 : Int)]) [] := by unfold gives; kernel_rfl
noncomputable def er_r0 (a : Int) (b : Int) (ans : List Bool) : Rr (SV × Option (List SO)) := callR X (run X (100 : Nat)) (14 : FuncId) [SV.agg [SV.val (Value.int IntKind.i64 a), SV.val (Value.int IntKind.i64 b)]] [] ans
def er_p0 (a : Int) (b : Int) : Prop :=
  gives (er_r0 a b [false, false]) (SV.tup [SV.bts false [UInt8.ofNat (IntKind.u8.wrap ((IntKind.u64.wrap (IntKind.u16.wrap (IntKind.i64.wrap (↑(BitVec.ofInt (64 : Nat) (IntKind.i64.wrap (↑(BitVec.ofInt (64 : Nat) (32768 : Int) ||| BitVec.ofInt (64 : Nat) (IntKind.i64.wrap (a * (256 : Int)))).toNat : Int)) ||| BitVec.ofInt (64 : Nat) b).toNat : Int)))).fdiv (256 : Int))).toNat, UInt8.ofNat (IntKind.u8.wrap (IntKind.u64.wrap (IntKind.u16.wrap (IntKind.i64.wrap (↑(BitVec.ofInt (64 : Nat) (IntKind.i64.wrap (↑(BitVec.ofInt (64 : Nat) (32768 : Int) ||| BitVec.ofInt (64 : Nat) (IntKind.i64.wrap (a * (256 : Int)))).toNat : Int)) ||| BitVec.ofInt (64 : Nat) b).toNat : Int))))).toNat], SV.num IntKind.i64 (0 : Int)]) [(a.fdiv (16 : Int) != (0 : Int)) = false, (b.fdiv (256 : Int) != (0 : Int)) = false]
def er_p1 (a : Int) (b : Int) : Prop :=
  gives (er_r0 a b [true]) (SV.tup [SV.bts true [], SV.num IntKind.i64 (2 : Int)]) [(a.fdiv (16 : Int) != (0 : Int)) = true]
def er_p2 (a : Int) (b : Int) : Prop :=
  gives (er_r0 a b [false, true]) (SV.tup [SV.bts true [], SV.num IntKind.i64 (2 : Int)]) [(a.fdiv (16 : Int) != (0 : Int)) = false, (b.fdiv (256 : Int) != (0 : Int)) = true]
set_option maxRecDepth 1000000 in
theorem er_b0 (a : Int) (b : Int) : er_p0 a b ∧ er_p1 a b ∧ er_p2 a b := by
  unfold er_p0 er_p1 er_p2 gives; exact ⟨by kernel_rfl, by kernel_rfl, by kernel_rfl⟩
theorem er_0 (a : Int) (b : Int) : er_p0 a b := (er_b0 a b).1
theorem er_1 (a : Int) (b : Int) : er_p1 a b := (er_b0 a b).2.1
theorem er_2 (a : Int) (b : Int) : er_p2 a b := (er_b0 a b).2.2
def xp_p0 (b : Bool) : Prop :=
  gives (callR X (run X (100 : Nat)) (11 : FuncId) [SV.agg [SV.val (Value.bool b)]] [] [true]) (SV.bts true [UInt8.ofNat (81 : Nat)]) [b = true]
def xp_p1 (b : Bool) : Prop :=
  gives (callR X (run X (100 : Nat)) (11 : FuncId) [SV.agg [SV.val (Value.bool b)]] [] [false]) (SV.bts true [UInt8.ofNat (80 : Nat)]) [b = false]
set_option maxRecDepth 1000000 in
theorem xp_b0 (b : Bool) : xp_p0 b ∧ xp_p1 b := by
  unfold xp_p0 xp_p1 gives; exact ⟨by kernel_rfl, by kernel_rfl⟩
theorem xp_0 (b : Bool) : xp_p0 b := (xp_b0 b).1
theorem xp_1 (b : Bool) : xp_p1 b := (xp_b0 b).2
set_option maxRecDepth 1000000 in
theorem xf_0 (n : Int) :
    gives (callR X (run X (100 : Nat)) (12 : FuncId) [SV.agg [SV.val (Value.int IntKind.u64 n)]] [] []) (SV.bts false [(96 : UInt8), (0 : UInt8), UInt8.ofNat (IntKind.u8.wrap (n.fdiv (72057594037927936 : Int))).toNat, UInt8.ofNat (IntKind.u8.wrap (n.fdiv (281474976710656 : Int))).toNat, UInt8.ofNat (IntKind.u8.wrap (n.fdiv (1099511627776 : Int))).toNat, UInt8.ofNat (IntKind.u8.wrap (n.fdiv (4294967296 : Int))).toNat, UInt8.ofNat (IntKind.u8.wrap (n.fdiv (16777216 : Int))).toNat, UInt8.ofNat (IntKind.u8.wrap (n.fdiv (65536 : Int))).toNat, UInt8.ofNat (IntKind.u8.wrap (n.fdiv (256 : Int))).toNat, UInt8.ofNat (IntKind.u8.wrap (n.fdiv (1 : Int))).toNat]) [] := by unfold gives; kernel_rfl
set_option maxRecDepth 1000000 in
theorem xk_0 (n : Int) :
    gives (callR X (run X (100 : Nat)) (13 : FuncId) [SV.agg [SV.val (Value.int IntKind.u64 n)]] [] []) (SV.bts false [(112 : UInt8), (0 : UInt8), UInt8.ofNat (IntKind.u8.wrap (n.fdiv (72057594037927936 : Int))).toNat, UInt8.ofNat (IntKind.u8.wrap (n.fdiv (281474976710656 : Int))).toNat, UInt8.ofNat (IntKind.u8.wrap (n.fdiv (1099511627776 : Int))).toNat, UInt8.ofNat (IntKind.u8.wrap (n.fdiv (4294967296 : Int))).toNat, UInt8.ofNat (IntKind.u8.wrap (n.fdiv (16777216 : Int))).toNat, UInt8.ofNat (IntKind.u8.wrap (n.fdiv (65536 : Int))).toNat, UInt8.ofNat (IntKind.u8.wrap (n.fdiv (256 : Int))).toNat, UInt8.ofNat (IntKind.u8.wrap (n.fdiv (1 : Int))).toNat]) [] := by unfold gives; kernel_rfl
noncomputable def xr_r0 (a : Int) (b : Int) (ans : List Bool) : Rr (SV × Option (List SO)) := callR X (run X (100 : Nat)) (15 : FuncId) [SV.agg [SV.val (Value.int IntKind.i64 a), SV.val (Value.int IntKind.i64 b)]] [] ans
def xr_p0 (a : Int) (b : Int) : Prop :=
  gives (xr_r0 a b [false, false, false, false]) (SV.tup [SV.bts false [UInt8.ofNat (IntKind.u8.wrap ((IntKind.u64.wrap (IntKind.i64.wrap ((128 : Int) + a))).fdiv (1 : Int))).toNat, UInt8.ofNat (IntKind.u8.wrap ((IntKind.u64.wrap b).fdiv (1 : Int))).toNat], SV.num IntKind.i64 (0 : Int)]) [decide (a < (0 : Int)) = false, decide (a > (15 : Int)) = false, decide (b < (0 : Int)) = false, decide (b > (255 : Int)) = false]
def xr_p1 (a : Int) (b : Int) : Prop :=
  gives (xr_r0 a b [false, true]) (SV.tup [SV.bts true [], SV.num IntKind.i64 (2 : Int)]) [decide (a < (0 : Int)) = false, decide (a > (15 : Int)) = true]
def xr_p2 (a : Int) (b : Int) : Prop :=
  gives (xr_r0 a b [false, false, false, true]) (SV.tup [SV.bts true [], SV.num IntKind.i64 (2 : Int)]) [decide (a < (0 : Int)) = false, decide (a > (15 : Int)) = false, decide (b < (0 : Int)) = false, decide (b > (255 : Int)) = true]
def xr_p3 (a : Int) (b : Int) : Prop :=
  gives (xr_r0 a b [true]) (SV.tup [SV.bts true [], SV.num IntKind.i64 (2 : Int)]) [decide (a < (0 : Int)) = true]
def xr_p4 (a : Int) (b : Int) : Prop :=
  gives (xr_r0 a b [false, false, true]) (SV.tup [SV.bts true [], SV.num IntKind.i64 (2 : Int)]) [decide (a < (0 : Int)) = false, decide (a > (15 : Int)) = false, decide (b < (0 : Int)) = true]
set_option maxRecDepth 1000000 in
theorem xr_b0 (a : Int) (b : Int) : xr_p0 a b ∧ xr_p1 a b ∧ xr_p2 a b ∧ xr_p3 a b ∧ xr_p4 a b := by
  unfold xr_p0 xr_p1 xr_p2 xr_p3 xr_p4 gives; exact ⟨by kernel_rfl, by kernel_rfl, by kernel_rfl, by kernel_rfl, by kernel_rfl⟩
theorem xr_0 (a : Int) (b : Int) : xr_p0 a b := (xr_b0 a b).1
theorem xr_1 (a : Int) (b : Int) : xr_p1 a b := (xr_b0 a b).2.1
theorem xr_2 (a : Int) (b : Int) : xr_p2 a b := (xr_b0 a b).2.2.1
theorem xr_3 (a : Int) (b : Int) : xr_p3 a b := (xr_b0 a b).2.2.2.1
theorem xr_4 (a : Int) (b : Int) : xr_p4 a b := (xr_b0 a b).2.2.2.2
end Go.Proofs.Ythmndlkhmihdhaa
