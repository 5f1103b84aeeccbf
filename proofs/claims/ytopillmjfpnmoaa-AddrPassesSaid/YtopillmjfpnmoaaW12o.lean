/-
  Walks of functions, reckoned through, and what they give (part W12o). No condition beyond what each says. By an AI agent.
-/
import Derived.Test.YtopillmjfpnmoaaW12p
namespace Go.Proofs.Ytopillmjfpnmoaa
open Go.Ex
open Go.RowKit (Below)
set_option linter.unusedVariables false
set_option linter.unusedSimpArgs false
set_option maxRecDepth 1000000 in
theorem pass_0 (x : DV) (s : ByteArray) (bits : Int) : gives (callR Y (run Y (100 : Nat)) (6 : FuncId) [x.sv, SV.val (Value.string s), SV.val (Value.int IntKind.u8 bits)] [] [false, false, false, false, true, true, true]) (SV.val (Value.bool ((decR (ByteArray.mk #[fb (byteAt (encR (ids s)).fst (0 : Int)) bits (15 : Int)] ++ (encR (ids s)).fst.extract (1 : Nat) (↑(encR (ids s)).fst.size : Int).toNat)).fst.toList == (ids s).toList))) [True, ((-9223372036854775808 : Int) ≤ x.j.id ∧ x.j.id < (9223372036854775808 : Int)) ∧ (-9223372036854775808 : Int) ≤ x.j.port ∧ x.j.port < (9223372036854775808 : Int), s.size + (1 : Nat) ≤ (9223372036854775807 : Nat), (0 : Int) ≤ (0 : Int) ∧ ((0 : Int) ≤ L37 s) ∧ (L37 s) ≤ (↑(S0 s).size : Int), True, ((enc x.j).snd != (0 : Int)) = false, ((encR (ids s)).snd != (0 : Int)) = false, decide ((↑(enc x.j).fst.size : Int) < (2 : Int)) = false, decide ((↑(encR (ids s)).fst.size : Int) < (2 : Int)) = false, (0 : Int) ≤ (0 : Int) ∧ (0 : Int) < (↑(enc x.j).fst.size : Int), (0 : Int) ≤ (1 : Int) ∧ (1 : Int) ≤ (↑(enc x.j).fst.size : Int) ∧ (↑(enc x.j).fst.size : Int) ≤ (↑(enc x.j).fst.size : Int), (ByteArray.mk #[fb (byteAt (enc x.j).fst (0 : Int)) bits (14 : Int)]).size + ((enc x.j).fst.extract (1 : Nat) (↑(enc x.j).fst.size : Int).toNat).size ≤ (9223372036854775807 : Nat), (ByteArray.mk #[fb (byteAt (enc x.j).fst (0 : Int)) bits (14 : Int)] ++ (enc x.j).fst.extract (1 : Nat) (↑(enc x.j).fst.size : Int).toNat).size ≤ (4611686018427387904 : Nat), (ByteArray.mk #[fb (byteAt (enc x.j).fst (0 : Int)) bits (14 : Int)] ++ (enc x.j).fst.extract (1 : Nat) (↑(enc x.j).fst.size : Int).toNat).size ≤ (4611686018427387904 : Nat), (ByteArray.mk #[fb (byteAt (enc x.j).fst (0 : Int)) bits (14 : Int)]).size + ((enc x.j).fst.extract (1 : Nat) (↑(enc x.j).fst.size : Int).toNat).size ≤ (9223372036854775807 : Nat), (ByteArray.mk #[fb (byteAt (enc x.j).fst (0 : Int)) bits (14 : Int)] ++ (enc x.j).fst.extract (1 : Nat) (↑(enc x.j).fst.size : Int).toNat).size ≤ (4611686018427387904 : Nat), (ByteArray.mk #[fb (byteAt (enc x.j).fst (0 : Int)) bits (14 : Int)]).size + ((enc x.j).fst.extract (1 : Nat) (↑(enc x.j).fst.size : Int).toNat).size ≤ (9223372036854775807 : Nat), (ByteArray.mk #[fb (byteAt (enc x.j).fst (0 : Int)) bits (14 : Int)] ++ (enc x.j).fst.extract (1 : Nat) (↑(enc x.j).fst.size : Int).toNat).size ≤ (4611686018427387904 : Nat), (0 : Int) ≤ (0 : Int) ∧ (0 : Int) < (↑(encR (ids s)).fst.size : Int), (0 : Int) ≤ (1 : Int) ∧ (1 : Int) ≤ (↑(encR (ids s)).fst.size : Int) ∧ (↑(encR (ids s)).fst.size : Int) ≤ (↑(encR (ids s)).fst.size : Int), (ByteArray.mk #[fb (byteAt (encR (ids s)).fst (0 : Int)) bits (15 : Int)]).size + ((encR (ids s)).fst.extract (1 : Nat) (↑(encR (ids s)).fst.size : Int).toNat).size ≤ (9223372036854775807 : Nat), (ByteArray.mk #[fb (byteAt (encR (ids s)).fst (0 : Int)) bits (15 : Int)] ++ (encR (ids s)).fst.extract (1 : Nat) (↑(encR (ids s)).fst.size : Int).toNat).size ≤ (4611686018427387904 : Nat), (ByteArray.mk #[fb (byteAt (encR (ids s)).fst (0 : Int)) bits (15 : Int)] ++ (encR (ids s)).fst.extract (1 : Nat) (↑(encR (ids s)).fst.size : Int).toNat).size ≤ (4611686018427387904 : Nat), (ByteArray.mk #[fb (byteAt (encR (ids s)).fst (0 : Int)) bits (15 : Int)]).size + ((encR (ids s)).fst.extract (1 : Nat) (↑(encR (ids s)).fst.size : Int).toNat).size ≤ (9223372036854775807 : Nat), (ByteArray.mk #[fb (byteAt (encR (ids s)).fst (0 : Int)) bits (15 : Int)] ++ (encR (ids s)).fst.extract (1 : Nat) (↑(encR (ids s)).fst.size : Int).toNat).size ≤ (4611686018427387904 : Nat), (ByteArray.mk #[fb (byteAt (encR (ids s)).fst (0 : Int)) bits (15 : Int)]).size + ((encR (ids s)).fst.extract (1 : Nat) (↑(encR (ids s)).fst.size : Int).toNat).size ≤ (9223372036854775807 : Nat), (ByteArray.mk #[fb (byteAt (encR (ids s)).fst (0 : Int)) bits (15 : Int)] ++ (encR (ids s)).fst.extract (1 : Nat) (↑(encR (ids s)).fst.size : Int).toNat).size ≤ (4611686018427387904 : Nat), ((dec (ByteArray.mk #[fb (byteAt (enc x.j).fst (0 : Int)) bits (14 : Int)] ++ (enc x.j).fst.extract (1 : Nat) (↑(enc x.j).fst.size : Int).toNat)).snd == (0 : Int)) = true, ((decR (ByteArray.mk #[fb (byteAt (encR (ids s)).fst (0 : Int)) bits (15 : Int)] ++ (encR (ids s)).fst.extract (1 : Nat) (↑(encR (ids s)).fst.size : Int).toNat)).snd == (0 : Int)) = true, True, (if true = true then (dec (ByteArray.mk #[fb (byteAt (enc x.j).fst (0 : Int)) bits (14 : Int)] ++ (enc x.j).fst.extract (1 : Nat) (↑(enc x.j).fst.size : Int).toNat)).fst.ec == x.j.ec && ((dec (ByteArray.mk #[fb (byteAt (enc x.j).fst (0 : Int)) bits (14 : Int)] ++ (enc x.j).fst.extract (1 : Nat) (↑(enc x.j).fst.size : Int).toNat)).fst.id == x.j.id && ((dec (ByteArray.mk #[fb (byteAt (enc x.j).fst (0 : Int)) bits (14 : Int)] ++ (enc x.j).fst.extract (1 : Nat) (↑(enc x.j).fst.size : Int).toNat)).fst.ip == x.j.ip && ((dec (ByteArray.mk #[fb (byteAt (enc x.j).fst (0 : Int)) bits (14 : Int)] ++ (enc x.j).fst.extract (1 : Nat) (↑(enc x.j).fst.size : Int).toNat)).fst.has == x.j.has && ((dec (ByteArray.mk #[fb (byteAt (enc x.j).fst (0 : Int)) bits (14 : Int)] ++ (enc x.j).fst.extract (1 : Nat) (↑(enc x.j).fst.size : Int).toNat)).fst.port == x.j.port && ((dec (ByteArray.mk #[fb (byteAt (enc x.j).fst (0 : Int)) bits (14 : Int)] ++ (enc x.j).fst.extract (1 : Nat) (↑(enc x.j).fst.size : Int).toNat)).fst.mac == x.j.mac && true))))) else !((dec (ByteArray.mk #[fb (byteAt (enc x.j).fst (0 : Int)) bits (14 : Int)] ++ (enc x.j).fst.extract (1 : Nat) (↑(enc x.j).fst.size : Int).toNat)).fst.ec == x.j.ec && ((dec (ByteArray.mk #[fb (byteAt (enc x.j).fst (0 : Int)) bits (14 : Int)] ++ (enc x.j).fst.extract (1 : Nat) (↑(enc x.j).fst.size : Int).toNat)).fst.id == x.j.id && ((dec (ByteArray.mk #[fb (byteAt (enc x.j).fst (0 : Int)) bits (14 : Int)] ++ (enc x.j).fst.extract (1 : Nat) (↑(enc x.j).fst.size : Int).toNat)).fst.ip == x.j.ip && ((dec (ByteArray.mk #[fb (byteAt (enc x.j).fst (0 : Int)) bits (14 : Int)] ++ (enc x.j).fst.extract (1 : Nat) (↑(enc x.j).fst.size : Int).toNat)).fst.has == x.j.has && ((dec (ByteArray.mk #[fb (byteAt (enc x.j).fst (0 : Int)) bits (14 : Int)] ++ (enc x.j).fst.extract (1 : Nat) (↑(enc x.j).fst.size : Int).toNat)).fst.port == x.j.port && ((dec (ByteArray.mk #[fb (byteAt (enc x.j).fst (0 : Int)) bits (14 : Int)] ++ (enc x.j).fst.extract (1 : Nat) (↑(enc x.j).fst.size : Int).toNat)).fst.mac == x.j.mac && true))))))) = true] := by unfold gives; kernel_rfl

theorem walkP (x : DV) (s : ByteArray) (bits : Int) (hx : x.Ok) (hs : s.size ≤ 140737488355328) (hb : 0 ≤ bits ∧ bits < 256) (w : World) :
    Calls Try.prog 6 #[x.v, .string s, .int .u8 bits] w (fun e w' => e = .returned (.bool true) ∧ Below w.heap.size w w') := by
  have hargs : Rs [] [x.sv, .val (.string s), .val (.int .u8 bits)] [x.v, .string s, .int .u8 bits] := Rs.cons (by exact ⟨_, rfl, by simp [Rs, R]⟩) (Rs.cons (by simp only [R]) (Rs.cons (by simp only [R]) Rs.nil))
  have e1 := DV.enc_b hx; have b1 := DV.bounds hx
  obtain ⟨i1, i2⟩ := ids_size s hs
  have i3 := encR_ok (ids s) i1 i2
  have z1 := DV.body_small x (hd x.ec)
  have i6 := rb_size (UInt8.ofNat 64) (ids s)
  have f1 : byteAt (x.body (hd x.ec)) 0 = ((hd x.ec).toNat : Int) := by rw [byte0 _ (by omega), DV.body_first]
  have f2 : byteAt (rb (UInt8.ofNat 64) (ids s)) 0 = ((UInt8.ofNat 64).toNat : Int) := by rw [byte0 _ (by omega), rb_first]
  generalize hG : fb ((hd x.ec).toNat : Int) bits 14 = G
  generalize hH : fb ((UInt8.ofNat 64).toNat : Int) bits 15 = H
  have g1 := fb_hd x.ec bits hb
  have g2 := fb_64 bits hb
  rw [hG] at g1
  rw [hH] at g2
  have d1 := DV.dec_b hx G g1.1 g1.2
  have d2 := decR_ok H (ids s) g2 i1 i2
  have c1 := DV.bent x (hd x.ec) G
  have c2 := rb_bent (UInt8.ofNat 64) H (ids s)
  have z2 := DV.body_small x G
  have i7 := rb_size H (ids s)
  have m1 : (ByteArray.mk #[G]).size + ((x.body (hd x.ec)).extract 1 ((x.body (hd x.ec)).size : Int).toNat).size ≤ 9223372036854775807 := by
    rw [← size_app, c1]; omega
  have m2 : (ByteArray.mk #[H]).size + ((rb (UInt8.ofNat 64) (ids s)).extract 1 ((rb (UInt8.ofNat 64) (ids s)).size : Int).toNat).size ≤ 9223372036854775807 := by
    rw [← size_app, c2]; omega
  have y1 : (x.body G).size ≤ 4611686018427387904 := by omega
  have y3 : (rb H (ids s)).size ≤ 4611686018427387904 := by omega
  have y4 : s.size + 1 ≤ 9223372036854775807 := by omega
  have L := L37_ok s hs
  have l1 : decide (((x.body (hd x.ec)).size : Int) < 2) = false := decide_eq_false (by omega)
  have l2 : decide (((rb (UInt8.ofNat 64) (ids s)).size : Int) < 2) = false := decide_eq_false (by omega)
  have l3 : (0 : Int) < ((x.body (hd x.ec)).size : Int) := by omega
  have l4 : (0 : Int) < ((rb (UInt8.ofNat 64) (ids s)).size : Int) := by omega
  have l5 : (1 : Int) ≤ ((x.body (hd x.ec)).size : Int) := by omega
  have l6 : (1 : Int) ≤ ((rb (UInt8.ofNat 64) (ids s)).size : Int) := by omega
  have l7 : (0 : Int) ≤ 1 := by decide
  refine leaf (pass_0 x s bits) ?_ rfl hargs ?_ rfl
  · simp only [AllP, and_true, true_and, beq_self_eq_true, bne_self_eq_false, ba_beq, decide_true, Bool.and_true, Bool.and_self, Bool.not_true, Bool.false_eq_true, if_false, if_true, e1, i3, b1, f1, f2, hG, hH, c1, c2, d1, d2, m1, m2, y1, y3, y4, L.1, L.2, l1, l2, l3, l4, l5, l6, l7, Int.le_refl]
  · simp only [SV.toV, i3, f2, hH, c2, d2, beq_self_eq_true]
end Go.Proofs.Ytopillmjfpnmoaa
