/-
  Walks of functions, reckoned through, and what they give (part K08q). No condition beyond what each says. By an AI agent.
-/
import Derived.Test.YtacgamdbmllaoaaDoorK08c
import Derived.Test.YtacgamdbmllaoaaDoorExS
namespace Go.Proofs.YtacgamdbmllaoaaDoor
open Go.Ex
set_option linter.unusedVariables false
/-! ### bytes of numbers, and numbers of bytes -/
def ba (l : List UInt8) : ByteArray := ⟨l.toArray⟩
def byB (w : List Int) (i : Nat) : UInt8 := UInt8.ofNat (dB w i).toNat
def nxB (n : Int) (b : UInt8) : Int := IntKind.u64.wrap ((BitVec.ofInt IntKind.u64.bits (IntKind.u64.wrap (n * 2 ^ min (Int.toNat 8) IntKind.u64.bits)) ||| BitVec.ofInt IntKind.u64.bits (IntKind.u64.wrap (b.toNat : Int))).toNat : Int)
def tokW (w : List Int) : Int := IntKind.u32.wrap (nxB (nxB (nxB (nxB 0 (byB w 0)) (byB w 1)) (byB w 2)) (byB w 3))
def idsW (w : List Int) : Int := nxB (nxB (nxB (nxB (nxB (nxB (nxB (nxB 0 (byB w 24)) (byB w 25)) (byB w 26)) (byB w 27)) (byB w 28)) (byB w 29)) (byB w 30)) (byB w 31)
def shB (n : Int) : Int := n.fdiv (2 ^ min (Int.toNat 8) IntKind.u64.bits)
def bb (n : Int) : UInt8 := UInt8.ofNat (IntKind.u8.wrap n).toNat
def bs8 (n : Int) : List UInt8 := [bb (shB (shB (shB (shB (shB (shB (shB n))))))), bb (shB (shB (shB (shB (shB (shB n)))))), bb (shB (shB (shB (shB (shB n))))), bb (shB (shB (shB (shB n)))), bb (shB (shB (shB n))), bb (shB (shB n)), bb (shB n), bb n]
def bs4 (a : Int) : List UInt8 := [bb (shB (shB (shB (IntKind.u64.wrap a)))), bb (shB (shB (IntKind.u64.wrap a))), bb (shB (IntKind.u64.wrap a)), bb (IntKind.u64.wrap a)]
def byL (w : List Int) (i n : Nat) : ByteArray := ba ((List.range n).map fun j => byB w (i + j))
theorem nxB_eq (n : Int) (b : UInt8) (h0 : 0 ≤ n) (h : n < 72057594037927936) : nxB n b = n * 256 + b.toNat := by
  have hb : b.toNat < 256 := b.toNat_lt
  obtain ⟨x, rfl⟩ := Int.eq_ofNat_of_zero_le h0
  unfold nxB
  have e1 : IntKind.u64.wrap ((x : Int) * 2 ^ min (Int.toNat 8) IntKind.u64.bits) = ((x * 256 : Nat) : Int) := by
    rw [show (2 : Int) ^ min (Int.toNat 8) IntKind.u64.bits = 256 from rfl, wu64]; omega
  have e2 : IntKind.u64.wrap (b.toNat : Int) = ((b.toNat : Nat) : Int) := by rw [wu64]; omega
  rw [e1, e2]
  show IntKind.u64.wrap ((BitVec.ofInt 64 ((x * 256 : Nat) : Int) ||| BitVec.ofInt 64 ((b.toNat : Nat) : Int)).toNat : Int) = _
  rw [BitVec.ofInt_natCast, BitVec.ofInt_natCast, BitVec.toNat_or, BitVec.toNat_ofNat, BitVec.toNat_ofNat, Nat.mod_eq_of_lt (by omega), Nat.mod_eq_of_lt (by omega)]
  have e3 : x * 256 ||| b.toNat = x * 256 + b.toNat := by
    have := Nat.two_pow_add_eq_or_of_lt (i := 8) (b := b.toNat) hb x
    rw [Nat.mul_comm x 256]
    simpa using this.symm
  rw [e3, wu64]; omega
theorem bb_eq (z : Int) (x : UInt8) (h : z % 256 = x.toNat) : bb z = x := by
  unfold bb
  rw [wu8, h]
  simp
theorem shB_eq (n : Int) (h : 0 ≤ n) : shB n = n / 256 := by
  unfold shB
  rw [show (2 : Int) ^ min (Int.toNat 8) IntKind.u64.bits = 256 from rfl, Int.fdiv_eq_ediv_of_nonneg _ (by decide)]
theorem num4 (a b c d : UInt8) : nxB (nxB (nxB (nxB 0 a) b) c) d = ((a.toNat * 256 + b.toNat) * 256 + c.toNat) * 256 + d.toNat := by
  have ha := a.toNat_lt
  have hb := b.toNat_lt
  have hc := c.toNat_lt
  have hd := d.toNat_lt
  have h1 : nxB 0 a = a.toNat := by rw [nxB_eq 0 a (by omega) (by omega)]; omega
  rw [h1, nxB_eq _ b (by omega) (by omega), nxB_eq _ c (by omega) (by omega), nxB_eq _ d (by omega) (by omega)]
theorem bs4_num (a b c d : UInt8) : bs4 (IntKind.u32.wrap (nxB (nxB (nxB (nxB 0 a) b) c) d)) = [a, b, c, d] := by
  have ha := a.toNat_lt
  have hb := b.toNat_lt
  have hc := c.toNat_lt
  have hd := d.toNat_lt
  rw [num4]
  have e1 : IntKind.u64.wrap (IntKind.u32.wrap (((a.toNat * 256 + b.toNat) * 256 + c.toNat) * 256 + d.toNat : Int)) = (((a.toNat * 256 + b.toNat) * 256 + c.toNat) * 256 + d.toNat : Int) := by
    rw [wu32, wu64]; omega
  unfold bs4
  rw [e1]
  generalize hN : (((a.toNat * 256 + b.toNat) * 256 + c.toNat) * 256 + d.toNat : Int) = N
  have q0 : 0 ≤ N := by omega
  have s1 : shB N = N / 256 := shB_eq _ q0
  have s2 : shB (N / 256) = N / 256 / 256 := shB_eq _ (by omega)
  have s3 : shB (N / 256 / 256) = N / 256 / 256 / 256 := shB_eq _ (by omega)
  rw [s1, s2, s3]
  rw [bb_eq _ a (by omega), bb_eq _ b (by omega), bb_eq _ c (by omega), bb_eq _ d (by omega)]
theorem num8 (a b c d e f g h : UInt8) : nxB (nxB (nxB (nxB (nxB (nxB (nxB (nxB 0 a) b) c) d) e) f) g) h = ((((((a.toNat * 256 + b.toNat) * 256 + c.toNat) * 256 + d.toNat) * 256 + e.toNat) * 256 + f.toNat) * 256 + g.toNat) * 256 + h.toNat := by
  have ha := a.toNat_lt
  have hb := b.toNat_lt
  have hc := c.toNat_lt
  have hd := d.toNat_lt
  have he := e.toNat_lt
  have hf := f.toNat_lt
  have hg := g.toNat_lt
  have hh := h.toNat_lt
  rw [num4, nxB_eq _ e (by omega) (by omega), nxB_eq _ f (by omega) (by omega), nxB_eq _ g (by omega) (by omega), nxB_eq _ h (by omega) (by omega)]
theorem bs8_num (a b c d e f g h : UInt8) : bs8 (nxB (nxB (nxB (nxB (nxB (nxB (nxB (nxB 0 a) b) c) d) e) f) g) h) = [a, b, c, d, e, f, g, h] := by
  have ha := a.toNat_lt
  have hb := b.toNat_lt
  have hc := c.toNat_lt
  have hd := d.toNat_lt
  have he := e.toNat_lt
  have hf := f.toNat_lt
  have hg := g.toNat_lt
  have hh := h.toNat_lt
  rw [num8]
  unfold bs8
  generalize hN : (((((((a.toNat * 256 + b.toNat) * 256 + c.toNat) * 256 + d.toNat) * 256 + e.toNat) * 256 + f.toNat) * 256 + g.toNat) * 256 + h.toNat : Int) = N
  have q0 : 0 ≤ N := by omega
  have s1 : shB N = N / 256 := shB_eq _ q0
  have s2 : shB (N / 256) = N / 256 / 256 := shB_eq _ (by omega)
  have s3 : shB (N / 256 / 256) = N / 256 / 256 / 256 := shB_eq _ (by omega)
  have s4 : shB (N / 256 / 256 / 256) = N / 256 / 256 / 256 / 256 := shB_eq _ (by omega)
  have s5 : shB (N / 256 / 256 / 256 / 256) = N / 256 / 256 / 256 / 256 / 256 := shB_eq _ (by omega)
  have s6 : shB (N / 256 / 256 / 256 / 256 / 256) = N / 256 / 256 / 256 / 256 / 256 / 256 := shB_eq _ (by omega)
  have s7 : shB (N / 256 / 256 / 256 / 256 / 256 / 256) = N / 256 / 256 / 256 / 256 / 256 / 256 / 256 := shB_eq _ (by omega)
  rw [s1, s2, s3, s4, s5, s6, s7]
  rw [bb_eq _ a (by omega), bb_eq _ b (by omega), bb_eq _ c (by omega), bb_eq _ d (by omega), bb_eq _ e (by omega), bb_eq _ f (by omega), bb_eq _ g (by omega), bb_eq _ h (by omega)]
theorem front_eq (w : List Int) : byL w 0 4 = ba (bs4 (tokW w)) := by
  unfold tokW; rw [bs4_num]; rfl
theorem end_eq (w : List Int) : byL w 24 8 = ba (bs8 (idsW w)) := by
  unfold idsW; rw [bs8_num]; rfl
end Go.Proofs.YtacgamdbmllaoaaDoor
