/-
  Walks of functions, reckoned through, and what they give (part W11S). No condition beyond what each says. By an AI agent.
-/
import Derived.Test.YtpbcjeigiklanaaExP
import Derived.Test.YtpbcjeigiklanaaChecked
namespace Go.Proofs.Ytpbcjeigiklanaa
open Go.Ex
open Go.RowKit (Below)
set_option linter.unusedVariables false
set_option linter.unusedSimpArgs false

/-- A signal, by its parts. -/
structure SG where
  fin : Bool
  ha : Bool
  la : Bool
  ack : Int
  hm : Bool
  ld : Bool
  dsn : Int
  ssn : Int
  ln : Int
  hs : Bool
  sm : Int
def SG.v (x : SG) : Value := .agg #[.bool x.fin, .bool x.ha, .bool x.la, .int .u64 x.ack, .bool x.hm, .bool x.ld, .int .u64 x.dsn, .int .u32 x.ssn, .int .i64 x.ln, .bool x.hs, .int .u16 x.sm]
def SG.sv (x : SG) : SV := .agg [.val (.bool x.fin), .val (.bool x.ha), .val (.bool x.la), .val (.int .u64 x.ack), .val (.bool x.hm), .val (.bool x.ld), .val (.int .u64 x.dsn), .val (.int .u32 x.ssn), .val (.int .i64 x.ln), .val (.bool x.hs), .val (.int .u16 x.sm)]
def may (x : SG) : Prop :=
  (x.ha = true ∨ x.hm = true) ∧ (x.ha = true ∨ (x.la = false ∧ x.ack = 0)) ∧ (x.hs = true ∨ x.sm = 0) ∧
  (x.hm = true ∨ (x.fin = false ∧ x.ld = false ∧ x.dsn = 0 ∧ x.ssn = 0 ∧ x.ln = 0 ∧ x.hs = false)) ∧
  (x.la = true ∨ x.ack < 4294967296) ∧ (x.ld = true ∨ x.dsn < 4294967296) ∧ 0 ≤ x.ln ∧ x.ln < 65536
instance (x : SG) : Decidable (may x) := by unfold may; infer_instance
def b8 (n : Int) : List UInt8 := [byK 72057594037927936 n, byK 281474976710656 n, byK 1099511627776 n, byK 4294967296 n, byK 16777216 n, byK 65536 n, byK 256 n, byK 1 n]
def b4 (n : Int) : List UInt8 := [byK 16777216 n, byK 65536 n, byK 256 n, byK 1 n]
def b2 (n : Int) : List UInt8 := [byK 256 n, byK 1 n]
def bI (b : Bool) (n : Nat) : Nat := match b with | true => n | false => 0
def flags (x : SG) : UInt8 := UInt8.ofNat (bI x.ha 1 + bI x.la 2 + bI x.hm 4 + bI x.ld 8 + bI x.fin 16)
def num (n : Int) (l : Bool) : List UInt8 := match l with | true => b8 n | false => b4 n
/-- The bytes of a signal that may be. -/
def body (x : SG) : List UInt8 :=
  UInt8.ofNat 32 :: flags x :: ((match x.ha with | true => num x.ack x.la | false => []) ++ ((match x.hm with | true => num x.dsn x.ld ++ (b4 x.ssn ++ b2 x.ln) | false => []) ++ (match x.hs with | true => b2 x.sm | false => [])))
def enc (x : SG) : ByteArray × Int := if may x then (⟨(body x).toArray⟩, 0) else (⟨#[]⟩, 2)
noncomputable def X0 := conned (P := Try.prog) Con.nil
theorem fd32 (x : Int) : x.fdiv 4294967296 = x / 4294967296 := fd x 4294967296 (by decide)
theorem pf0 {n : Int} : UInt8.ofNat (IntKind.u8.wrap (n)).toNat = byK 1 n := by
  apply byK_of; rw [wu8]; rw [Int.ediv_one]
theorem pf1 {n : Int} : UInt8.ofNat (IntKind.u8.wrap ((n).fdiv 256)).toNat = byK 256 n := by
  apply byK_of; rw [wu8]; simp only [fd256]; try omega
theorem pf2 {n : Int} : UInt8.ofNat (IntKind.u8.wrap (((n).fdiv 256).fdiv 256)).toNat = byK 65536 n := by
  apply byK_of; rw [wu8]; simp only [fd256]; try omega
theorem pf3 {n : Int} : UInt8.ofNat (IntKind.u8.wrap ((((n).fdiv 256).fdiv 256).fdiv 256)).toNat = byK 16777216 n := by
  apply byK_of; rw [wu8]; simp only [fd256]; try omega
theorem pf4 {n : Int} : UInt8.ofNat (IntKind.u8.wrap (((((n).fdiv 256).fdiv 256).fdiv 256).fdiv 256)).toNat = byK 4294967296 n := by
  apply byK_of; rw [wu8]; simp only [fd256]; try omega
theorem pf5 {n : Int} : UInt8.ofNat (IntKind.u8.wrap ((((((n).fdiv 256).fdiv 256).fdiv 256).fdiv 256).fdiv 256)).toNat = byK 1099511627776 n := by
  apply byK_of; rw [wu8]; simp only [fd256]; try omega
theorem pf6 {n : Int} : UInt8.ofNat (IntKind.u8.wrap (((((((n).fdiv 256).fdiv 256).fdiv 256).fdiv 256).fdiv 256).fdiv 256)).toNat = byK 281474976710656 n := by
  apply byK_of; rw [wu8]; simp only [fd256]; try omega
theorem pf7 {n : Int} : UInt8.ofNat (IntKind.u8.wrap ((((((((n).fdiv 256).fdiv 256).fdiv 256).fdiv 256).fdiv 256).fdiv 256).fdiv 256)).toNat = byK 72057594037927936 n := by
  apply byK_of; rw [wu8]; simp only [fd256]; try omega
theorem pw0 (n : Int) (h : 0 ≤ n ∧ n < 4294967296) : UInt8.ofNat (IntKind.u8.wrap (IntKind.u64.wrap (IntKind.u32.wrap n))).toNat = byK 1 n := by
  apply byK_of; rw [wu32, wu64, wu8] <;> omega
theorem pw1 (n : Int) (h : 0 ≤ n ∧ n < 4294967296) : UInt8.ofNat (IntKind.u8.wrap ((IntKind.u64.wrap (IntKind.u32.wrap n)).fdiv 256)).toNat = byK 256 n := by
  apply byK_of; rw [wu32, wu64, wu8]; simp only [fd256]; omega
theorem pw2 (n : Int) (h : 0 ≤ n ∧ n < 4294967296) : UInt8.ofNat (IntKind.u8.wrap (((IntKind.u64.wrap (IntKind.u32.wrap n)).fdiv 256).fdiv 256)).toNat = byK 65536 n := by
  apply byK_of; rw [wu32, wu64, wu8]; simp only [fd256]; omega
theorem pw3 (n : Int) (h : 0 ≤ n ∧ n < 4294967296) : UInt8.ofNat (IntKind.u8.wrap ((((IntKind.u64.wrap (IntKind.u32.wrap n)).fdiv 256).fdiv 256).fdiv 256)).toNat = byK 16777216 n := by
  apply byK_of; rw [wu32, wu64, wu8]; simp only [fd256]; omega
theorem pl0 (n : Int) (h : 0 ≤ n ∧ n < 65536) : UInt8.ofNat (IntKind.u8.wrap (IntKind.u64.wrap (IntKind.u16.wrap n))).toNat = byK 1 n := by
  apply byK_of; rw [wu16, wu64, wu8] <;> omega
theorem pl1 (n : Int) (h : 0 ≤ n ∧ n < 65536) : UInt8.ofNat (IntKind.u8.wrap ((IntKind.u64.wrap (IntKind.u16.wrap n)).fdiv 256)).toNat = byK 256 n := by
  apply byK_of; rw [wu16, wu64, wu8, fd256]; omega
end Go.Proofs.Ytpbcjeigiklanaa
