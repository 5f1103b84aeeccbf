/-
  Walks of functions, reckoned through, and what they give (part K12a). No condition beyond what each says. By an AI agent.
-/
import Derived.Test.YtopillmjfpnmoaaK00
import Derived.Test.YtopillmjfpnmoaaR12
namespace Go.Proofs.Ytopillmjfpnmoaa
open Go.Ex
open Go.RowKit (Below)
set_option linter.unusedVariables false
set_option linter.unusedSimpArgs false
set_option maxRecDepth 1000000
/-! ### AddrLengths: its states -/
theorem works7 : gives (callR X (run X 100) 13 [] [] []) (.bol true) [] := by unfold gives; kernel_rfl
noncomputable def worksT : Go.Ex.Told Try.prog := ⟨13, [], .bol true, fun _ _ h => con_gives _ _ _ works7 trivial rfl h⟩
noncomputable def lenC : Con Try.prog := (Con.told [worksT]).or joinC
noncomputable def XL : Cx := conned lenC
theorem XL_ct : CtOk XL := conned_ct lenC
theorem XL_lp : LpOk XL := conned_lp lenC
noncomputable def c7a : Code := cL (code 7)
noncomputable def c7b : Code := cL (cR (code 7))
noncomputable def c7c : Code := cL (cR (cR (code 7)))
noncomputable def c7d : Code := cL (cR (cR (cR (code 7))))
noncomputable def c7e : Code := cL (cR (cR (cR (cR (code 7)))))
noncomputable def c7f : Code := cL (cR (cR (cR (cR (cR (code 7))))))
noncomputable def c7g : Code := cL (cR (cR (cR (cR (cR (cR (code 7)))))))
noncomputable def c7L : Code := cLp (cB (cL (cR (cR (cR (cR (cR (cR (cR (code 7))))))))))
noncomputable def id7 : Nat := bId (cL (cR (cR (cR (cR (cR (cR (cR (code 7)))))))))
noncomputable def c7r : Code := cR (cR (cR (cR (cR (cR (cR (cR (code 7))))))))
theorem code7 : code 7 = .seq c7a (.seq c7b (.seq c7c (.seq c7d (.seq c7e (.seq c7f (.seq c7g (.seq (.block id7 (.loop c7L)) c7r))))))) := by kernel_rfl
def arg7 (e : Bool) (c n : Int) : List SV := [.val (.int .u8 c), .val (.int .u8 n), .bol e]
noncomputable def s7 (e : Bool) (c n : Int) : St := ⟨arg7 e c n ++ List.replicate 161 (.val undef), [.dead, .dead]⟩
noncomputable def nx7 (c : Code) (s : St) : St := (finOf (run XL 80 c s.tm s.hp [])).st
noncomputable def s7b (e : Bool) (c n : Int) : St := nx7 c7a (s7 e c n)
noncomputable def s7c (e : Bool) (c n : Int) : St := nx7 c7b (s7b e c n)
noncomputable def s7d (e : Bool) (c n : Int) : St := nx7 c7c (s7c e c n)
noncomputable def s7e (e : Bool) (c n : Int) : St := nx7 c7d (s7d e c n)
noncomputable def s7f (e : Bool) (c n : Int) : St := nx7 c7e (s7e e c n)
noncomputable def s7g (e : Bool) (c n : Int) : St := nx7 c7f (s7f e c n)
def fst7 (e : Bool) : Int := match e with | true => 49 | false => 48
def row7 (f c : Int) (k : Nat) : List SV := .num .u8 f :: List.replicate (k - 1) (.val (.int .u8 c))
def stA7 (e : Bool) (c lo : Int) (a b : SV) (h : List SO) (d : Nat → Value) : St := ⟨[.val (.int .u8 c), .val (d 1), .bol e, .val (d 3), .val (d 4), .val (d 5), .val (d 6), .val (.int .i64 lo), .val (d 8), a, b] ++ (List.range' 11 153).map (fun j => .val (d j)), h⟩
def st17 (e : Bool) (c lo : Int) (d : Nat → Value) : St := stA7 e c lo (.slc 2 0 1 1) (.slc 3 0 1 1) [.dead, .dead, .cells true [.num .u8 (fst7 e)], .cells true [.num .u8 64]] d
def stK7 (e : Bool) (c lo : Int) (k : Nat) (d : Nat → Value) : St := stA7 e c lo (.sle 2 0 k 3) (.sle 4 0 k 5) [.dead, .dead, .own 5 1 k 3 (row7 (fst7 e) c k), .dead, .own 5 1 k 5 (row7 64 c k), .dead] d
def stKK (e : Bool) (c lo : Int) (k : Nat) (d : Nat → Value) : St := match k with | 1 => st17 e c lo d | k => stK7 e c lo k d
def fg7 : List Nat := [1, 3, 4, 5, 6, 8] ++ List.range' 11 153
theorem h7a_t (c n : Int) : goodR (run XL 80 c7a (s7 true c n).tm (s7 true c n).hp []) .normal [] := by unfold goodR; kernel_rfl
theorem h7b_t (c n : Int) : goodR (run XL 80 c7b (s7b true c n).tm (s7b true c n).hp []) .normal [] := by unfold goodR; kernel_rfl
theorem h7c_t (c n : Int) : goodR (run XL 80 c7c (s7c true c n).tm (s7c true c n).hp []) .normal [] := by unfold goodR; kernel_rfl
theorem h7d_t (c n : Int) : goodR (run XL 80 c7d (s7d true c n).tm (s7d true c n).hp []) .normal [] := by unfold goodR; kernel_rfl
theorem h7e_t (c n : Int) : goodR (run XL 80 c7e (s7e true c n).tm (s7e true c n).hp []) .normal [] := by unfold goodR; kernel_rfl
theorem h7f_t (c n : Int) : goodR (run XL 80 c7f (s7f true c n).tm (s7f true c n).hp []) .normal [] := by unfold goodR; kernel_rfl
theorem h7g_t (c n : Int) (d : Nat → Value) : givesX 2 [0, 1, 2, 3] fg7 (run XL 80 c7g (s7g true c n).tm (s7g true c n).hp []) .normal (st17 true c (IntKind.i64.wrap (n.tmod 64)) d) [] d := by unfold givesX; kernel_rfl
theorem h7a_f (c n : Int) : goodR (run XL 80 c7a (s7 false c n).tm (s7 false c n).hp []) .normal [] := by unfold goodR; kernel_rfl
theorem h7b_f (c n : Int) : goodR (run XL 80 c7b (s7b false c n).tm (s7b false c n).hp []) .normal [] := by unfold goodR; kernel_rfl
theorem h7c_f (c n : Int) : goodR (run XL 80 c7c (s7c false c n).tm (s7c false c n).hp []) .normal [] := by unfold goodR; kernel_rfl
theorem h7d_f (c n : Int) : goodR (run XL 80 c7d (s7d false c n).tm (s7d false c n).hp []) .normal [] := by unfold goodR; kernel_rfl
theorem h7e_f (c n : Int) : goodR (run XL 80 c7e (s7e false c n).tm (s7e false c n).hp []) .normal [] := by unfold goodR; kernel_rfl
theorem h7f_f (c n : Int) : goodR (run XL 80 c7f (s7f false c n).tm (s7f false c n).hp []) .normal [] := by unfold goodR; kernel_rfl
theorem h7g_f (c n : Int) (d : Nat → Value) : givesX 2 [0, 1, 2, 3] fg7 (run XL 80 c7g (s7g false c n).tm (s7g false c n).hp []) .normal (st17 false c (IntKind.i64.wrap (n.tmod 64)) d) [] d := by unfold givesX; kernel_rfl
def cnd7 (k : Nat) (lo : Int) (b : Bool) : Prop := decide ((k : Int) < IntKind.i64.wrap (1 + lo)) = b
def kp7 : List Nat := [0, 1, 5, 6, 8, 9]
def kq7 : List Nat := [0, 1, 7, 8, 10, 11]
noncomputable def rnd7 (e : Bool) (c lo : Int) (k : Nat) (d d' : Nat → Value) : Prop := givesX 2 (if k = 1 then kp7 else kq7) fg7 (run XL 80 c7L (stKK e c lo k d).tm (stKK e c lo k d).hp [true]) .normal (stK7 e c lo (k + 1) d') [cnd7 k lo true] d'
noncomputable def ext7 (e : Bool) (c lo : Int) (k : Nat) (d d' : Nat → Value) : Prop := givesX 2 (if k = 1 then [0, 1, 2, 3] else [0, 1, 2, 3, 4, 5]) fg7 (run XL 80 c7L (stKK e c lo k d).tm (stKK e c lo k d).hp [false]) (.exit id7) (stKK e c lo k d') [cnd7 k lo false] d'
def tx7 (f c : Int) (k : Nat) : ByteArray := ⟨((UInt8.ofNat f.toNat) :: List.replicate (k - 1) (UInt8.ofNat c.toNat)).toArray⟩
def neP (s : ByteArray) : Prop := (s.toList == (⟨#[]⟩ : ByteArray).toList) = false
def P17 (f m : Int) : Prop := ((((UInt8.ofNat f.toNat).toNat : Int)).fdiv (2 ^ min (Int.toNat 4) IntKind.u8.bits) != m) = false
def P27 (f : Int) (b : Bool) : Prop := (IntKind.u8.wrap ((BitVec.ofInt IntKind.u8.bits ((UInt8.ofNat f.toNat).toNat : Int) &&& BitVec.ofInt IntKind.u8.bits 1).toNat : Int) != 0) = b
def idP (c : Int) : Prop := (IntKind.i64.wrap (IntKind.u8.wrap (IntKind.u64.wrap ((BitVec.ofInt IntKind.u64.bits 0 ||| BitVec.ofInt IntKind.u64.bits (IntKind.u64.wrap ((UInt8.ofNat c.toNat).toNat : Int))).toNat : Int))) == IntKind.i64.wrap c) = true
def fit7 (e : Bool) (k : Nat) : Bool := match e with | true => k == 6 || k == 8 || k == 18 || k == 20 | false => k == 14 || k == 16 || k == 26 || k == 28
def L7 (e : Bool) (c lo : Int) (k : Nat) : List Prop :=
  if k = 1 then [] else [neP (tx7 (fst7 e) c k), P17 (fst7 e) 3, P27 (fst7 e) e, neP (tx7 64 c k), P17 64 4] ++ (if k ≤ 38 then [(((k - 1 : Nat) : Int) != lo) = false] ++ (if fit7 e k then [idP c] else []) else [])
def ans7 (e : Bool) (k : Nat) : List Bool :=
  if k = 1 then [] else [false, false, e, false, false] ++ (if k ≤ 38 then [false] ++ (if fit7 e k then [true] else []) else [])
noncomputable def outT (r : Rr Fin) (e : XE) (s : SV) (L : List Prop) : Option (XE × Option SV × List Prop × List SV) × Option (XE × Option SV × List Prop × List SV) :=
  match r with
  | .ok f [] c => (some (f.e, resultsS Try.prog (fnN 7) f.tm f.hp, c.props [], c.lefts []), some (e, some s, L, c.rights []))
  | _ => (none, some (e, some s, L, []))
noncomputable def givesT (r : Rr Fin) (e : XE) (s : SV) (L : List Prop) : Prop := (outT r e s L).1 = (outT r e s L).2
theorem wpE_T {n n0 : Nat} {c : Code} {s : St} {ans : List Bool} {e : XE} {v : SV} {L : List Prop} (h : givesT (run XL n c s.tm s.hp ans) e v L) (hL : AllP L) :
    WpE Try.prog c n0 s (fun r => r.e = e ∧ resultsS Try.prog (fnN 7) r.tm r.hp = some v) := by
  generalize hq : run XL n c s.tm s.hp ans = r at h
  unfold givesT outT at h
  split at h
  · rename_i f c'
    simp only [Option.some.injEq, Prod.mk.injEq] at h
    obtain ⟨h1, h2, h3, h4⟩ := h
    have hc := (Cnd.is_of c' [] [] [] (by rw [h3]; exact hL) h4 rfl).1
    exact WpE.of_wp (run_ok XL_ct XL_lp n c _ _ _ _ _ _ hq hc) ⟨h1, h2⟩
  · simp at h
noncomputable def tail7 (e : Bool) (c lo : Int) (k : Nat) (d : Nat → Value) : Prop := givesT (run XL 80 c7r (stKK e c lo k d).tm (stKK e c lo k d).hp (ans7 e k)) .ret (.bol true) (L7 e c lo k)
theorem fn7_at : Try.prog.funcs[7]? = some (fnN 7) := by kernel_rfl
theorem fn7_body : (fnN 7).body = some (code 7) := by kernel_rfl
theorem fn7_tm (e : Bool) (c n : Int) : (arg7 e c n ++ List.replicate ((fnN 7).ntmps - (arg7 e c n).length) (.val undef) : List SV) = arg7 e c n ++ List.replicate 161 (.val undef) := by kernel_rfl
end Go.Proofs.Ytopillmjfpnmoaa
