/-
  Walks of functions, reckoned through, and what they give (part W12t). No condition beyond what each says. By an AI agent.
-/
import Derived.Test.YtopillmjfpnmoaaR12
namespace Go.Proofs.Ytopillmjfpnmoaa
open Go.Ex
open Go.RowKit (Below)
set_option linter.unusedVariables false
set_option linter.unusedSimpArgs false
noncomputable def em_r0 (s : ByteArray) (ans : List Bool) : Rr (SV × Option (List SO)) := callR X (run X (100 : Nat)) (11 : FuncId) [SV.agg [SV.val (Value.string s)]] [] ans
def em_p0 (s : ByteArray) : Prop :=
  gives (em_r0 s [true]) (SV.tup [SV.bts true [], SV.num IntKind.i64 (2 : Int)]) [((↑s.size : Int) == (0 : Int)) = true]
def em_p1 (s : ByteArray) : Prop :=
  gives (em_r0 s [false, false]) (SV.tup [SV.val (Value.string (ByteArray.mk ([] ++ [UInt8.ofNat (64 : Nat)]).toArray ++ s)), SV.num IntKind.i64 (0 : Int)]) [((↑s.size : Int) == (0 : Int)) = false, decide ((↑s.size : Int) > (37 : Int)) = false, (ByteArray.mk ([] ++ [UInt8.ofNat (64 : Nat)]).toArray ++ s).size ≤ (140737488355328 : Nat)]
def em_p2 (s : ByteArray) : Prop :=
  gives (em_r0 s [false, true]) (SV.tup [SV.bts true [], SV.num IntKind.i64 (2 : Int)]) [((↑s.size : Int) == (0 : Int)) = false, decide ((↑s.size : Int) > (37 : Int)) = true]
set_option maxRecDepth 1000000 in
theorem em_b0 (s : ByteArray) : em_p0 s ∧ em_p1 s ∧ em_p2 s := by
  unfold em_p0 em_p1 em_p2 gives; exact ⟨by kernel_rfl, by kernel_rfl, by kernel_rfl⟩
theorem em_0 (s : ByteArray) : em_p0 s := (em_b0 s).1
theorem em_1 (s : ByteArray) : em_p1 s := (em_b0 s).2.1
theorem em_2 (s : ByteArray) : em_p2 s := (em_b0 s).2.2
noncomputable def rm_r0 (s : ByteArray) (ans : List Bool) : Rr (SV × Option (List SO)) := callR X (run X (100 : Nat)) (12 : FuncId) [SV.agg [SV.val (Value.string s)]] [] ans
def rm_p0 (s : ByteArray) : Prop :=
  gives (rm_r0 s [true]) (SV.tup [SV.bts true [], SV.num IntKind.i64 (2 : Int)]) [decide ((↑s.size : Int) < (1 : Int)) = true]
def rm_p1 (s : ByteArray) : Prop :=
  gives (rm_r0 s [false, false]) (SV.tup [SV.val (Value.string (ByteArray.mk (ByteArray.mk #[(64 : UInt8)]).data.toList.toArray ++ s)), SV.num IntKind.i64 (0 : Int)]) [decide ((↑s.size : Int) < (1 : Int)) = false, decide ((↑s.size : Int) > (37 : Int)) = false, (1 : Nat) + s.size ≤ (9223372036854775807 : Nat)]
def rm_p2 (s : ByteArray) : Prop :=
  gives (rm_r0 s [false, true]) (SV.tup [SV.bts true [], SV.num IntKind.i64 (2 : Int)]) [decide ((↑s.size : Int) < (1 : Int)) = false, decide ((↑s.size : Int) > (37 : Int)) = true]
set_option maxRecDepth 1000000 in
theorem rm_b0 (s : ByteArray) : rm_p0 s ∧ rm_p1 s ∧ rm_p2 s := by
  unfold rm_p0 rm_p1 rm_p2 gives; exact ⟨by kernel_rfl, by kernel_rfl, by kernel_rfl⟩
theorem rm_0 (s : ByteArray) : rm_p0 s := (rm_b0 s).1
theorem rm_1 (s : ByteArray) : rm_p1 s := (rm_b0 s).2.1
theorem rm_2 (s : ByteArray) : rm_p2 s := (rm_b0 s).2.2
noncomputable def dm_r0 (s : ByteArray) (ans : List Bool) : Rr (SV × Option (List SO)) := callR X (run X (100 : Nat)) (17 : FuncId) [SV.val (Value.string s)] [] ans
def dm_p0 (s : ByteArray) : Prop :=
  gives (dm_r0 s [true]) (SV.tup [SV.agg [SV.bts true []], SV.num IntKind.i64 (4 : Int)]) [(s.toList == (ByteArray.mk (ByteArray.mk #[]).data.toList.toArray).toList) = true]
def dm_p1 (s : ByteArray) : Prop :=
  gives (dm_r0 s [false, true]) (SV.tup [SV.agg [SV.bts true []], SV.num IntKind.i64 (7 : Int)]) [(s.toList == (ByteArray.mk (ByteArray.mk #[]).data.toList.toArray).toList) = false, (0 : Int) ≤ (0 : Int) ∧ (0 : Int) < (↑s.size : Int), ((byteAt s (0 : Int)).fdiv (16 : Int) != (4 : Int)) = true]
def dm_p2 (s : ByteArray) : Prop :=
  gives (dm_r0 s [false, false, true]) (SV.tup [SV.agg [SV.bts true []], SV.num IntKind.i64 (5 : Int)]) [(s.toList == (ByteArray.mk (ByteArray.mk #[]).data.toList.toArray).toList) = false, (0 : Int) ≤ (0 : Int) ∧ (0 : Int) < (↑s.size : Int), ((byteAt s (0 : Int)).fdiv (16 : Int) != (4 : Int)) = false, decide ((↑s.size : Int) < (2 : Int)) = true]
def dm_p3 (s : ByteArray) : Prop :=
  gives (dm_r0 s [false, false, false, false]) (SV.tup [SV.agg [SV.val (Value.string (s.extract (1 : Nat) (↑s.size : Int).toNat))], SV.num IntKind.i64 (0 : Int)]) [(s.toList == (ByteArray.mk (ByteArray.mk #[]).data.toList.toArray).toList) = false, (0 : Int) ≤ (0 : Int) ∧ (0 : Int) < (↑s.size : Int), ((byteAt s (0 : Int)).fdiv (16 : Int) != (4 : Int)) = false, decide ((↑s.size : Int) < (2 : Int)) = false, decide ((↑s.size : Int) > (38 : Int)) = false, (0 : Int) ≤ (1 : Int) ∧ (1 : Int) ≤ (↑s.size : Int) ∧ (↑s.size : Int) ≤ (↑s.size : Int)]
def dm_p4 (s : ByteArray) : Prop :=
  gives (dm_r0 s [false, false, false, true]) (SV.tup [SV.agg [SV.bts true []], SV.num IntKind.i64 (5 : Int)]) [(s.toList == (ByteArray.mk (ByteArray.mk #[]).data.toList.toArray).toList) = false, (0 : Int) ≤ (0 : Int) ∧ (0 : Int) < (↑s.size : Int), ((byteAt s (0 : Int)).fdiv (16 : Int) != (4 : Int)) = false, decide ((↑s.size : Int) < (2 : Int)) = false, decide ((↑s.size : Int) > (38 : Int)) = true]
set_option maxRecDepth 1000000 in
theorem dm_b0 (s : ByteArray) : dm_p0 s ∧ dm_p1 s ∧ dm_p2 s ∧ dm_p3 s ∧ dm_p4 s := by
  unfold dm_p0 dm_p1 dm_p2 dm_p3 dm_p4 gives; exact ⟨by kernel_rfl, by kernel_rfl, by kernel_rfl, by kernel_rfl, by kernel_rfl⟩
theorem dm_0 (s : ByteArray) : dm_p0 s := (dm_b0 s).1
theorem dm_1 (s : ByteArray) : dm_p1 s := (dm_b0 s).2.1
theorem dm_2 (s : ByteArray) : dm_p2 s := (dm_b0 s).2.2.1
theorem dm_3 (s : ByteArray) : dm_p3 s := (dm_b0 s).2.2.2.1
theorem dm_4 (s : ByteArray) : dm_p4 s := (dm_b0 s).2.2.2.2
noncomputable def qm_r0 (s : ByteArray) (ans : List Bool) : Rr (SV × Option (List SO)) := callR X (run X (100 : Nat)) (18 : FuncId) [SV.val (Value.string s)] [] ans
def qm_p0 (s : ByteArray) : Prop :=
  gives (qm_r0 s [true]) (SV.tup [SV.agg [SV.bts true []], SV.num IntKind.i64 (4 : Int)]) [(s.toList == (ByteArray.mk (ByteArray.mk #[]).data.toList.toArray).toList) = true]
def qm_p1 (s : ByteArray) : Prop :=
  gives (qm_r0 s [false, true]) (SV.tup [SV.agg [SV.bts true []], SV.num IntKind.i64 (7 : Int)]) [(s.toList == (ByteArray.mk (ByteArray.mk #[]).data.toList.toArray).toList) = false, (0 : Int) ≤ (0 : Int) ∧ (0 : Int) < (↑s.size : Int), (IntKind.u8.wrap ((byteAt s (0 : Int)).tdiv (16 : Int)) != (4 : Int)) = true]
def qm_p2 (s : ByteArray) : Prop :=
  gives (qm_r0 s [false, false, true]) (SV.tup [SV.agg [SV.bts true []], SV.num IntKind.i64 (5 : Int)]) [(s.toList == (ByteArray.mk (ByteArray.mk #[]).data.toList.toArray).toList) = false, (0 : Int) ≤ (0 : Int) ∧ (0 : Int) < (↑s.size : Int), (IntKind.u8.wrap ((byteAt s (0 : Int)).tdiv (16 : Int)) != (4 : Int)) = false, decide ((↑s.size : Int) < (2 : Int)) = true]
def qm_p3 (s : ByteArray) : Prop :=
  gives (qm_r0 s [false, false, false, false]) (SV.tup [SV.agg [SV.val (Value.string (s.extract (1 : Nat) (↑s.size : Int).toNat))], SV.num IntKind.i64 (0 : Int)]) [(s.toList == (ByteArray.mk (ByteArray.mk #[]).data.toList.toArray).toList) = false, (0 : Int) ≤ (0 : Int) ∧ (0 : Int) < (↑s.size : Int), (IntKind.u8.wrap ((byteAt s (0 : Int)).tdiv (16 : Int)) != (4 : Int)) = false, decide ((↑s.size : Int) < (2 : Int)) = false, decide ((↑s.size : Int) > (38 : Int)) = false, (0 : Int) ≤ (1 : Int) ∧ (1 : Int) ≤ (↑s.size : Int) ∧ (↑s.size : Int) ≤ (↑s.size : Int)]
def qm_p4 (s : ByteArray) : Prop :=
  gives (qm_r0 s [false, false, false, true]) (SV.tup [SV.agg [SV.bts true []], SV.num IntKind.i64 (5 : Int)]) [(s.toList == (ByteArray.mk (ByteArray.mk #[]).data.toList.toArray).toList) = false, (0 : Int) ≤ (0 : Int) ∧ (0 : Int) < (↑s.size : Int), (IntKind.u8.wrap ((byteAt s (0 : Int)).tdiv (16 : Int)) != (4 : Int)) = false, decide ((↑s.size : Int) < (2 : Int)) = false, decide ((↑s.size : Int) > (38 : Int)) = true]
set_option maxRecDepth 1000000 in
theorem qm_b0 (s : ByteArray) : qm_p0 s ∧ qm_p1 s ∧ qm_p2 s ∧ qm_p3 s ∧ qm_p4 s := by
  unfold qm_p0 qm_p1 qm_p2 qm_p3 qm_p4 gives; exact ⟨by kernel_rfl, by kernel_rfl, by kernel_rfl, by kernel_rfl, by kernel_rfl⟩
theorem qm_0 (s : ByteArray) : qm_p0 s := (qm_b0 s).1
theorem qm_1 (s : ByteArray) : qm_p1 s := (qm_b0 s).2.1
theorem qm_2 (s : ByteArray) : qm_p2 s := (qm_b0 s).2.2.1
theorem qm_3 (s : ByteArray) : qm_p3 s := (qm_b0 s).2.2.2.1
theorem qm_4 (s : ByteArray) : qm_p4 s := (qm_b0 s).2.2.2.2
noncomputable def q_r0 (s : ByteArray) (ans : List Bool) : Rr (SV × Option (List SO)) := callR X (run X (100 : Nat)) (16 : FuncId) [SV.val (Value.string s)] [] ans
def q_p0 (s : ByteArray) : Prop :=
  gives (q_r0 s [true]) (SV.tup [SV.agg [SV.bol false, SV.num IntKind.i64 (0 : Int), SV.bts true [], SV.bol false, SV.num IntKind.i64 (0 : Int), SV.bts true []], SV.num IntKind.i64 (4 : Int)]) [(s.toList == (ByteArray.mk (ByteArray.mk #[]).data.toList.toArray).toList) = true]
def q_p1 (s : ByteArray) : Prop :=
  gives (q_r0 s [false, true]) (SV.tup [SV.agg [SV.bol false, SV.num IntKind.i64 (0 : Int), SV.bts true [], SV.bol false, SV.num IntKind.i64 (0 : Int), SV.bts true []], SV.num IntKind.i64 (7 : Int)]) [(s.toList == (ByteArray.mk (ByteArray.mk #[]).data.toList.toArray).toList) = false, (0 : Int) ≤ (0 : Int) ∧ (0 : Int) < (↑s.size : Int), (IntKind.u8.wrap ((byteAt s (0 : Int)).tdiv (16 : Int)) != (3 : Int)) = true]
def q_p2 (s : ByteArray) : Prop :=
  gives (q_r0 s [false, false, true, true, true, true, true]) (SV.tup [SV.agg [SV.bol false, SV.num IntKind.i64 (0 : Int), SV.bts true [], SV.bol false, SV.num IntKind.i64 (0 : Int), SV.bts true []], SV.num IntKind.i64 (5 : Int)]) [(s.toList == (ByteArray.mk (ByteArray.mk #[]).data.toList.toArray).toList) = false, (0 : Int) ≤ (0 : Int) ∧ (0 : Int) < (↑s.size : Int), (IntKind.u8.wrap ((byteAt s (0 : Int)).tdiv (16 : Int)) != (3 : Int)) = false, (0 : Int) ≤ (0 : Int) ∧ (0 : Int) < (↑s.size : Int), ((byteAt s (0 : Int)).tmod (2 : Int) == (1 : Int)) = true, ((↑s.size : Int) != (6 : Int)) = true, ((↑s.size : Int) != (8 : Int)) = true, ((↑s.size : Int) != (18 : Int)) = true, ((↑s.size : Int) != (20 : Int)) = true]
def q_p3 (s : ByteArray) : Prop :=
  gives (q_r0 s [false, false, false, true, true, true, true]) (SV.tup [SV.agg [SV.bol false, SV.num IntKind.i64 (0 : Int), SV.bts true [], SV.bol false, SV.num IntKind.i64 (0 : Int), SV.bts true []], SV.num IntKind.i64 (5 : Int)]) [(s.toList == (ByteArray.mk (ByteArray.mk #[]).data.toList.toArray).toList) = false, (0 : Int) ≤ (0 : Int) ∧ (0 : Int) < (↑s.size : Int), (IntKind.u8.wrap ((byteAt s (0 : Int)).tdiv (16 : Int)) != (3 : Int)) = false, (0 : Int) ≤ (0 : Int) ∧ (0 : Int) < (↑s.size : Int), ((byteAt s (0 : Int)).tmod (2 : Int) == (1 : Int)) = false, ((↑s.size : Int) != (14 : Int)) = true, ((↑s.size : Int) != (16 : Int)) = true, ((↑s.size : Int) != (26 : Int)) = true, ((↑s.size : Int) != (28 : Int)) = true]
def q_p4 (s : ByteArray) : Prop :=
  gives (q_r0 s [false, false, true, false, false]) (SV.tup [SV.agg [SV.val (Value.bool ((byteAt s (0 : Int)).tmod (2 : Int) == (1 : Int))), SV.val (Value.int IntKind.i64 (IntKind.i64.wrap (byteAt s (1 : Int)))), SV.bts false [bAt s (2 : Nat), bAt s (3 : Nat), bAt s (4 : Nat), bAt s (5 : Nat)], SV.bol false, SV.num IntKind.i64 (0 : Int), SV.val (Value.string (s.extract (6 : Nat) (↑s.size : Int).toNat))], SV.num IntKind.i64 (0 : Int)]) [(s.toList == (ByteArray.mk (ByteArray.mk #[]).data.toList.toArray).toList) = false, (0 : Int) ≤ (0 : Int) ∧ (0 : Int) < (↑s.size : Int), (IntKind.u8.wrap ((byteAt s (0 : Int)).tdiv (16 : Int)) != (3 : Int)) = false, (0 : Int) ≤ (0 : Int) ∧ (0 : Int) < (↑s.size : Int), ((byteAt s (0 : Int)).tmod (2 : Int) == (1 : Int)) = true, ((↑s.size : Int) != (6 : Int)) = false, decide ((0 : Int) > IntKind.i64.wrap ((↑s.size : Int) - (6 : Int))) = false, (6 : Nat) ≤ (6 : Nat) ∧ (6 : Nat) ≤ s.size, (0 : Int) ≤ (1 : Int) ∧ (1 : Int) < (↑s.size : Int), (2 : Nat) ≤ (6 : Nat) ∧ (6 : Nat) ≤ s.size, (0 : Int) ≤ (6 : Int) ∧ (6 : Int) ≤ (↑s.size : Int) ∧ (↑s.size : Int) ≤ (↑s.size : Int)]
def q_p5 (s : ByteArray) : Prop :=
  gives (q_r0 s [false, false, true, true, false, false]) (SV.tup [SV.agg [SV.val (Value.bool ((byteAt s (0 : Int)).tmod (2 : Int) == (1 : Int))), SV.val (Value.int IntKind.i64 (IntKind.i64.wrap (byteAt s (1 : Int)))), SV.bts false [bAt s (2 : Nat), bAt s (3 : Nat), bAt s (4 : Nat), bAt s (5 : Nat)], SV.bol true, SV.val (Value.int IntKind.i64 (IntKind.i64.wrap (IntKind.u64.wrap (IntKind.u64.wrap (IntKind.u64.wrap ((0 : Int) + IntKind.u64.wrap (↑(bAt s (6 : Nat)).toNat : Int)) * (256 : Int)) + IntKind.u64.wrap (↑(bAt s (7 : Nat)).toNat : Int))))), SV.val (Value.string (s.extract (8 : Nat) (↑s.size : Int).toNat))], SV.num IntKind.i64 (0 : Int)]) [(s.toList == (ByteArray.mk (ByteArray.mk #[]).data.toList.toArray).toList) = false, (0 : Int) ≤ (0 : Int) ∧ (0 : Int) < (↑s.size : Int), (IntKind.u8.wrap ((byteAt s (0 : Int)).tdiv (16 : Int)) != (3 : Int)) = false, (0 : Int) ≤ (0 : Int) ∧ (0 : Int) < (↑s.size : Int), ((byteAt s (0 : Int)).tmod (2 : Int) == (1 : Int)) = true, ((↑s.size : Int) != (6 : Int)) = true, ((↑s.size : Int) != (8 : Int)) = false, decide ((2 : Int) > IntKind.i64.wrap ((↑s.size : Int) - (6 : Int))) = false, (6 : Nat) ≤ (8 : Nat) ∧ (8 : Nat) ≤ s.size, (0 : Int) ≤ (1 : Int) ∧ (1 : Int) < (↑s.size : Int), (2 : Nat) ≤ (6 : Nat) ∧ (6 : Nat) ≤ s.size, (0 : Int) ≤ (8 : Int) ∧ (8 : Int) ≤ (↑s.size : Int) ∧ (↑s.size : Int) ≤ (↑s.size : Int)]
set_option maxRecDepth 1000000 in
theorem q_b0 (s : ByteArray) : q_p0 s ∧ q_p1 s ∧ q_p2 s ∧ q_p3 s ∧ q_p4 s ∧ q_p5 s := by
  unfold q_p0 q_p1 q_p2 q_p3 q_p4 q_p5 gives; exact ⟨by kernel_rfl, by kernel_rfl, by kernel_rfl, by kernel_rfl, by kernel_rfl, by kernel_rfl⟩
theorem q_0 (s : ByteArray) : q_p0 s := (q_b0 s).1
theorem q_1 (s : ByteArray) : q_p1 s := (q_b0 s).2.1
theorem q_2 (s : ByteArray) : q_p2 s := (q_b0 s).2.2.1
theorem q_3 (s : ByteArray) : q_p3 s := (q_b0 s).2.2.2.1
theorem q_4 (s : ByteArray) : q_p4 s := (q_b0 s).2.2.2.2.1
theorem q_5 (s : ByteArray) : q_p5 s := (q_b0 s).2.2.2.2.2
def q_p6 (s : ByteArray) : Prop :=
  gives (q_r0 s [false, false, true, true, true, false, false]) (SV.tup [SV.agg [SV.val (Value.bool ((byteAt s (0 : Int)).tmod (2 : Int) == (1 : Int))), SV.val (Value.int IntKind.i64 (IntKind.i64.wrap (byteAt s (1 : Int)))), SV.bts false [bAt s (2 : Nat), bAt s (3 : Nat), bAt s (4 : Nat), bAt s (5 : Nat), bAt s (6 : Nat), bAt s (7 : Nat), bAt s (8 : Nat), bAt s (9 : Nat), bAt s (10 : Nat), bAt s (11 : Nat), bAt s (12 : Nat), bAt s (13 : Nat), bAt s (14 : Nat), bAt s (15 : Nat), bAt s (16 : Nat), bAt s (17 : Nat)], SV.bol false, SV.num IntKind.i64 (0 : Int), SV.val (Value.string (s.extract (18 : Nat) (↑s.size : Int).toNat))], SV.num IntKind.i64 (0 : Int)]) [(s.toList == (ByteArray.mk (ByteArray.mk #[]).data.toList.toArray).toList) = false, (0 : Int) ≤ (0 : Int) ∧ (0 : Int) < (↑s.size : Int), (IntKind.u8.wrap ((byteAt s (0 : Int)).tdiv (16 : Int)) != (3 : Int)) = false, (0 : Int) ≤ (0 : Int) ∧ (0 : Int) < (↑s.size : Int), ((byteAt s (0 : Int)).tmod (2 : Int) == (1 : Int)) = true, ((↑s.size : Int) != (6 : Int)) = true, ((↑s.size : Int) != (8 : Int)) = true, ((↑s.size : Int) != (18 : Int)) = false, decide ((0 : Int) > IntKind.i64.wrap ((↑s.size : Int) - (18 : Int))) = false, (18 : Nat) ≤ (18 : Nat) ∧ (18 : Nat) ≤ s.size, (0 : Int) ≤ (1 : Int) ∧ (1 : Int) < (↑s.size : Int), (2 : Nat) ≤ (18 : Nat) ∧ (18 : Nat) ≤ s.size, (0 : Int) ≤ (18 : Int) ∧ (18 : Int) ≤ (↑s.size : Int) ∧ (↑s.size : Int) ≤ (↑s.size : Int)]
def q_p7 (s : ByteArray) : Prop :=
  gives (q_r0 s [false, false, true, true, true, true, false, false]) (SV.tup [SV.agg [SV.val (Value.bool ((byteAt s (0 : Int)).tmod (2 : Int) == (1 : Int))), SV.val (Value.int IntKind.i64 (IntKind.i64.wrap (byteAt s (1 : Int)))), SV.bts false [bAt s (2 : Nat), bAt s (3 : Nat), bAt s (4 : Nat), bAt s (5 : Nat), bAt s (6 : Nat), bAt s (7 : Nat), bAt s (8 : Nat), bAt s (9 : Nat), bAt s (10 : Nat), bAt s (11 : Nat), bAt s (12 : Nat), bAt s (13 : Nat), bAt s (14 : Nat), bAt s (15 : Nat), bAt s (16 : Nat), bAt s (17 : Nat)], SV.bol true, SV.val (Value.int IntKind.i64 (IntKind.i64.wrap (IntKind.u64.wrap (IntKind.u64.wrap (IntKind.u64.wrap ((0 : Int) + IntKind.u64.wrap (↑(bAt s (18 : Nat)).toNat : Int)) * (256 : Int)) + IntKind.u64.wrap (↑(bAt s (19 : Nat)).toNat : Int))))), SV.val (Value.string (s.extract (20 : Nat) (↑s.size : Int).toNat))], SV.num IntKind.i64 (0 : Int)]) [(s.toList == (ByteArray.mk (ByteArray.mk #[]).data.toList.toArray).toList) = false, (0 : Int) ≤ (0 : Int) ∧ (0 : Int) < (↑s.size : Int), (IntKind.u8.wrap ((byteAt s (0 : Int)).tdiv (16 : Int)) != (3 : Int)) = false, (0 : Int) ≤ (0 : Int) ∧ (0 : Int) < (↑s.size : Int), ((byteAt s (0 : Int)).tmod (2 : Int) == (1 : Int)) = true, ((↑s.size : Int) != (6 : Int)) = true, ((↑s.size : Int) != (8 : Int)) = true, ((↑s.size : Int) != (18 : Int)) = true, ((↑s.size : Int) != (20 : Int)) = false, decide ((2 : Int) > IntKind.i64.wrap ((↑s.size : Int) - (18 : Int))) = false, (18 : Nat) ≤ (20 : Nat) ∧ (20 : Nat) ≤ s.size, (0 : Int) ≤ (1 : Int) ∧ (1 : Int) < (↑s.size : Int), (2 : Nat) ≤ (18 : Nat) ∧ (18 : Nat) ≤ s.size, (0 : Int) ≤ (20 : Int) ∧ (20 : Int) ≤ (↑s.size : Int) ∧ (↑s.size : Int) ≤ (↑s.size : Int)]
def q_p8 (s : ByteArray) : Prop :=
  gives (q_r0 s [false, false, false, false, false]) (SV.tup [SV.agg [SV.val (Value.bool ((byteAt s (0 : Int)).tmod (2 : Int) == (1 : Int))), SV.val (Value.int IntKind.i64 (IntKind.i64.wrap (byteAt s (1 : Int)))), SV.bts false [bAt s (2 : Nat), bAt s (3 : Nat), bAt s (4 : Nat), bAt s (5 : Nat)], SV.bol false, SV.num IntKind.i64 (0 : Int), SV.val (Value.string (s.extract (6 : Nat) (↑s.size : Int).toNat))], SV.num IntKind.i64 (0 : Int)]) [(s.toList == (ByteArray.mk (ByteArray.mk #[]).data.toList.toArray).toList) = false, (0 : Int) ≤ (0 : Int) ∧ (0 : Int) < (↑s.size : Int), (IntKind.u8.wrap ((byteAt s (0 : Int)).tdiv (16 : Int)) != (3 : Int)) = false, (0 : Int) ≤ (0 : Int) ∧ (0 : Int) < (↑s.size : Int), ((byteAt s (0 : Int)).tmod (2 : Int) == (1 : Int)) = false, ((↑s.size : Int) != (14 : Int)) = false, decide ((0 : Int) > IntKind.i64.wrap ((↑s.size : Int) - (6 : Int))) = false, (6 : Nat) ≤ (6 : Nat) ∧ (6 : Nat) ≤ s.size, (0 : Int) ≤ (1 : Int) ∧ (1 : Int) < (↑s.size : Int), (2 : Nat) ≤ (6 : Nat) ∧ (6 : Nat) ≤ s.size, (0 : Int) ≤ (6 : Int) ∧ (6 : Int) ≤ (↑s.size : Int) ∧ (↑s.size : Int) ≤ (↑s.size : Int)]
def q_p9 (s : ByteArray) : Prop :=
  gives (q_r0 s [false, false, false, true, false, false]) (SV.tup [SV.agg [SV.val (Value.bool ((byteAt s (0 : Int)).tmod (2 : Int) == (1 : Int))), SV.val (Value.int IntKind.i64 (IntKind.i64.wrap (byteAt s (1 : Int)))), SV.bts false [bAt s (2 : Nat), bAt s (3 : Nat), bAt s (4 : Nat), bAt s (5 : Nat)], SV.bol true, SV.val (Value.int IntKind.i64 (IntKind.i64.wrap (IntKind.u64.wrap (IntKind.u64.wrap (IntKind.u64.wrap ((0 : Int) + IntKind.u64.wrap (↑(bAt s (6 : Nat)).toNat : Int)) * (256 : Int)) + IntKind.u64.wrap (↑(bAt s (7 : Nat)).toNat : Int))))), SV.val (Value.string (s.extract (8 : Nat) (↑s.size : Int).toNat))], SV.num IntKind.i64 (0 : Int)]) [(s.toList == (ByteArray.mk (ByteArray.mk #[]).data.toList.toArray).toList) = false, (0 : Int) ≤ (0 : Int) ∧ (0 : Int) < (↑s.size : Int), (IntKind.u8.wrap ((byteAt s (0 : Int)).tdiv (16 : Int)) != (3 : Int)) = false, (0 : Int) ≤ (0 : Int) ∧ (0 : Int) < (↑s.size : Int), ((byteAt s (0 : Int)).tmod (2 : Int) == (1 : Int)) = false, ((↑s.size : Int) != (14 : Int)) = true, ((↑s.size : Int) != (16 : Int)) = false, decide ((2 : Int) > IntKind.i64.wrap ((↑s.size : Int) - (6 : Int))) = false, (6 : Nat) ≤ (8 : Nat) ∧ (8 : Nat) ≤ s.size, (0 : Int) ≤ (1 : Int) ∧ (1 : Int) < (↑s.size : Int), (2 : Nat) ≤ (6 : Nat) ∧ (6 : Nat) ≤ s.size, (0 : Int) ≤ (8 : Int) ∧ (8 : Int) ≤ (↑s.size : Int) ∧ (↑s.size : Int) ≤ (↑s.size : Int)]
def q_p10 (s : ByteArray) : Prop :=
  gives (q_r0 s [false, false, false, true, true, false, false]) (SV.tup [SV.agg [SV.val (Value.bool ((byteAt s (0 : Int)).tmod (2 : Int) == (1 : Int))), SV.val (Value.int IntKind.i64 (IntKind.i64.wrap (byteAt s (1 : Int)))), SV.bts false [bAt s (2 : Nat), bAt s (3 : Nat), bAt s (4 : Nat), bAt s (5 : Nat), bAt s (6 : Nat), bAt s (7 : Nat), bAt s (8 : Nat), bAt s (9 : Nat), bAt s (10 : Nat), bAt s (11 : Nat), bAt s (12 : Nat), bAt s (13 : Nat), bAt s (14 : Nat), bAt s (15 : Nat), bAt s (16 : Nat), bAt s (17 : Nat)], SV.bol false, SV.num IntKind.i64 (0 : Int), SV.val (Value.string (s.extract (18 : Nat) (↑s.size : Int).toNat))], SV.num IntKind.i64 (0 : Int)]) [(s.toList == (ByteArray.mk (ByteArray.mk #[]).data.toList.toArray).toList) = false, (0 : Int) ≤ (0 : Int) ∧ (0 : Int) < (↑s.size : Int), (IntKind.u8.wrap ((byteAt s (0 : Int)).tdiv (16 : Int)) != (3 : Int)) = false, (0 : Int) ≤ (0 : Int) ∧ (0 : Int) < (↑s.size : Int), ((byteAt s (0 : Int)).tmod (2 : Int) == (1 : Int)) = false, ((↑s.size : Int) != (14 : Int)) = true, ((↑s.size : Int) != (16 : Int)) = true, ((↑s.size : Int) != (26 : Int)) = false, decide ((0 : Int) > IntKind.i64.wrap ((↑s.size : Int) - (18 : Int))) = false, (18 : Nat) ≤ (18 : Nat) ∧ (18 : Nat) ≤ s.size, (0 : Int) ≤ (1 : Int) ∧ (1 : Int) < (↑s.size : Int), (2 : Nat) ≤ (18 : Nat) ∧ (18 : Nat) ≤ s.size, (0 : Int) ≤ (18 : Int) ∧ (18 : Int) ≤ (↑s.size : Int) ∧ (↑s.size : Int) ≤ (↑s.size : Int)]
def q_p11 (s : ByteArray) : Prop :=
  gives (q_r0 s [false, false, false, true, true, true, false, false]) (SV.tup [SV.agg [SV.val (Value.bool ((byteAt s (0 : Int)).tmod (2 : Int) == (1 : Int))), SV.val (Value.int IntKind.i64 (IntKind.i64.wrap (byteAt s (1 : Int)))), SV.bts false [bAt s (2 : Nat), bAt s (3 : Nat), bAt s (4 : Nat), bAt s (5 : Nat), bAt s (6 : Nat), bAt s (7 : Nat), bAt s (8 : Nat), bAt s (9 : Nat), bAt s (10 : Nat), bAt s (11 : Nat), bAt s (12 : Nat), bAt s (13 : Nat), bAt s (14 : Nat), bAt s (15 : Nat), bAt s (16 : Nat), bAt s (17 : Nat)], SV.bol true, SV.val (Value.int IntKind.i64 (IntKind.i64.wrap (IntKind.u64.wrap (IntKind.u64.wrap (IntKind.u64.wrap ((0 : Int) + IntKind.u64.wrap (↑(bAt s (18 : Nat)).toNat : Int)) * (256 : Int)) + IntKind.u64.wrap (↑(bAt s (19 : Nat)).toNat : Int))))), SV.val (Value.string (s.extract (20 : Nat) (↑s.size : Int).toNat))], SV.num IntKind.i64 (0 : Int)]) [(s.toList == (ByteArray.mk (ByteArray.mk #[]).data.toList.toArray).toList) = false, (0 : Int) ≤ (0 : Int) ∧ (0 : Int) < (↑s.size : Int), (IntKind.u8.wrap ((byteAt s (0 : Int)).tdiv (16 : Int)) != (3 : Int)) = false, (0 : Int) ≤ (0 : Int) ∧ (0 : Int) < (↑s.size : Int), ((byteAt s (0 : Int)).tmod (2 : Int) == (1 : Int)) = false, ((↑s.size : Int) != (14 : Int)) = true, ((↑s.size : Int) != (16 : Int)) = true, ((↑s.size : Int) != (26 : Int)) = true, ((↑s.size : Int) != (28 : Int)) = false, decide ((2 : Int) > IntKind.i64.wrap ((↑s.size : Int) - (18 : Int))) = false, (18 : Nat) ≤ (20 : Nat) ∧ (20 : Nat) ≤ s.size, (0 : Int) ≤ (1 : Int) ∧ (1 : Int) < (↑s.size : Int), (2 : Nat) ≤ (18 : Nat) ∧ (18 : Nat) ≤ s.size, (0 : Int) ≤ (20 : Int) ∧ (20 : Int) ≤ (↑s.size : Int) ∧ (↑s.size : Int) ≤ (↑s.size : Int)]
set_option maxRecDepth 1000000 in
theorem q_b6 (s : ByteArray) : q_p6 s ∧ q_p7 s ∧ q_p8 s ∧ q_p9 s ∧ q_p10 s ∧ q_p11 s := by
  unfold q_p6 q_p7 q_p8 q_p9 q_p10 q_p11 gives; exact ⟨by kernel_rfl, by kernel_rfl, by kernel_rfl, by kernel_rfl, by kernel_rfl, by kernel_rfl⟩
theorem q_6 (s : ByteArray) : q_p6 s := (q_b6 s).1
theorem q_7 (s : ByteArray) : q_p7 s := (q_b6 s).2.1
theorem q_8 (s : ByteArray) : q_p8 s := (q_b6 s).2.2.1
theorem q_9 (s : ByteArray) : q_p9 s := (q_b6 s).2.2.2.1
theorem q_10 (s : ByteArray) : q_p10 s := (q_b6 s).2.2.2.2.1
theorem q_11 (s : ByteArray) : q_p11 s := (q_b6 s).2.2.2.2.2
end Go.Proofs.Ytopillmjfpnmoaa
