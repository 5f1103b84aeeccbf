/-
  Walks of functions, reckoned through, and what they give (part W07b). No condition beyond what each says. By an AI agent.
-/
import Derived.Test.YtacgamdbmllaoaaDoorW07a
namespace Go.Proofs.YtacgamdbmllaoaaDoor
open Go.Ex
open Go.RowKit (Below)
set_option linter.unusedVariables false
set_option maxRecDepth 1000000
/-! ### words: a round of the second loop, the row at place three behind two empty blocks -/
noncomputable def XR (q : Rf) : Cx := rawP (smR q)
def bts64 (b : Nat → Int) : SO := .cells false ((List.range 64).map fun i => .val (.int .u8 (b i)))
noncomputable def WB1 : Code := cL (cR (cR (code 68)))
noncomputable def WB2 : Code := cL (cR (cR (cR (code 68))))
noncomputable def WL1 : Code := cLp (cB (cR WB1))
noncomputable def WL2 : Code := cLp (cB (cR WB2))
/-- uint64 -/
def tU64 : TypeId := 22
def rowW (ws : Nat → Int) (t : Nat) : List SO := [.dead, .cells false [], .own tU64 1 t 4 ((List.range t).map fun i => .val (.int .u64 (ws i))), .dead]
def stW (b ws : Nat → Int) (t : Nat) (d : Nat → Value) : St := ⟨[.sle 0 0 64 1, .val (d 1), .val (d 2), .sle 3 0 t 4, .val (d 4), .num .i64 t] ++ (List.range' 6 89).map (fun i => .val (d i)), bts64 b :: rowW ws t⟩
def fgWd : List Nat := [1, 2, 4] ++ List.range' 6 89
def keepWd : List Nat := [0, 1, 2, 5, 6]
def nwW (q : Rf) (ws : Nat → Int) (t : Nat) : Int :=
  q.A [ws (t - 16), q.B 0 (q.U (ws (t - 15)) 7) (q.U (ws (t - 15)) 18) (q.V (ws (t - 15)) 3), ws (t - 7), q.B 0 (q.U (ws (t - 2)) 17) (q.U (ws (t - 2)) 19) (q.V (ws (t - 2)) 10)]
def upW (q : Rf) (ws : Nat → Int) (t : Nat) : Nat → Int := fun i => if i = t then nwW q ws t else ws i
def PB (q : Rf) (x y z : Int) : Prop := q.B = bL ∧ P34 0 x y z
/-- The conditions, in the order in which they come: u = turned, v = moved, b, c = the two xors, a = add. -/
def LWn (q : Rf) (ws : Nat → Int) (t : Nat) : List Nat → List Prop
  | [] => []
  | 0 :: l => (q.U = tnL) :: LWn q ws t l
  | 1 :: l => (q.V = mvL) :: LWn q ws t l
  | 2 :: l => (PB q (q.U (ws (t - 15)) 7) (q.U (ws (t - 15)) 18) (q.V (ws (t - 15)) 3)) :: LWn q ws t l
  | 3 :: l => (PB q (q.U (ws (t - 2)) 17) (q.U (ws (t - 2)) 19) (q.V (ws (t - 2)) 10)) :: LWn q ws t l
  | _ :: l => (q.A = adL) :: LWn q ws t l
def LWd (q : Rf) (ws : Nat → Int) (t : Nat) : List Prop := LWn q ws t [0, 0, 1, 2, 0, 0, 1, 3, 4]
def wrnd (q : Rf) (b ws : Nat → Int) (t : Nat) (d d' : Nat → Value) : Prop :=
  givesS 3 keepWd fgWd (run (XR q) 80 WL2 (stW b ws t d).tm (stW b ws t d).hp []) (stW b (upW q ws t) (t + 1) d') (LWd q ws t) d'
/-! ### words: a round of the first loop -/
def stV (b ws : Nat → Int) (t : Nat) (d : Nat → Value) : St := ⟨[.sle 0 0 64 1, .val (d 1), .val (d 2), .sle 3 0 t 4, .num .i64 t] ++ (List.range' 5 90).map (fun i => .val (d i)), bts64 b :: rowW ws t⟩
def fgV : List Nat := [1, 2] ++ List.range' 5 90
def wU (x : Int) : Int := IntKind.u64.wrap x
def wvW (b : Nat → Int) (t : Nat) : Int := wU (wU (wU (wU (wU (b (4 * t)) * 16777216) + wU (wU (b (4 * t + 1)) * 65536)) + wU (wU (b (4 * t + 2)) * 256)) + wU (b (4 * t + 3)))
def upV (b ws : Nat → Int) (t : Nat) : Nat → Int := fun i => if i = t then wvW b t else ws i
def vrnd (q : Rf) (b ws : Nat → Int) (t : Nat) (d d' : Nat → Value) : Prop :=
  givesS 3 keepWd fgV (run (XR q) 80 WL1 (stV b ws t d).tm (stV b ws t d).hp []) (stV b (upV b ws t) (t + 1) d') [] d'
def stV0 (b : Nat → Int) (d : Nat → Value) : St := ⟨[.sle 0 0 64 1, .val (d 1), .val (d 2), .val (.slice none 0 0), .num .i64 0] ++ (List.range' 5 90).map (fun i => .val (d i)), [bts64 b, .dead, .cells false []]⟩
def keepV0 : List Nat := [0, 1, 2, 3, 4]
def vrnd0 (q : Rf) (b ws : Nat → Int) (d d' : Nat → Value) : Prop :=
  givesS 3 keepV0 fgV (run (XR q) 80 WL1 (stV0 b d).tm (stV0 b d).hp []) (stV b (upV b ws 0) 1 d') [] d'
/-! ### a callee's row, as a new frozen block -/
theorem HR.grow2 {B Bc : Nat} {η ε : Env} {hp hc : List SO} {w w' : World} (h : HR B η hp w) (hBc : Bc = w.heap.size) (hb : Below w.heap.size w w') (h' : HR Bc ε hc w') {k kc e s n : Nat} {l : List SV} (hk : hc[k]? = some (.own e s n kc l)) (hf : frees l = true) :
    ∃ b c, ε[k]? = some (.pointer (some ⟨b, 0, none⟩)) ∧ ε[kc]? = some (.slice none 0 c) ∧ HR B (η ++ [.pointer (some ⟨b, 0, none⟩), .slice none 0 c]) (hp ++ [.cells false l, .dead]) w' := by
  subst hBc
  have hbr := h'.blk k _ hk
  obtain ⟨g, c, xs, o1, o2, _, _, _⟩ := hbr.2
  obtain ⟨b, o, e1, e2, e3, e4⟩ := hbr.1 true l rfl
  have hgo : b = g ∧ o = 0 := by
    rw [o1] at e1
    simp only [Option.some.injEq, Value.pointer.injEq, Addr.mk.injEq, and_true] at e1
    exact ⟨e1.1.symm, e1.2.symm⟩
  obtain ⟨rfl, rfl⟩ := hgo
  have hB' : w.heap.size ≤ b := e3 rfl
  refine ⟨b, c, o1, o2, ?_⟩
  have split : ∀ {j : Nat} {x : SO}, (hp ++ [SO.cells false l, SO.dead])[j]? = some x → (j < hp.length ∧ hp[j]? = some x) ∨ (j = hp.length ∧ x = .cells false l) ∨ (j = hp.length + 1 ∧ x = .dead) := by
    intro j x hj
    by_cases hlt : j < hp.length
    · rw [List.getElem?_append_left hlt] at hj; exact .inl ⟨hlt, hj⟩
    · rw [List.getElem?_append_right (by omega)] at hj
      match hq : j - hp.length, hj with
      | 0, hj => simp at hj; exact .inr (.inl ⟨by omega, hj.symm⟩)
      | 1, hj => simp at hj; exact .inr (.inr ⟨by omega, hj.symm⟩)
      | i + 2, hj => simp at hj
  refine ⟨by simp [h.len], fun j x hj => ?_, ?_⟩
  · rcases split hj with ⟨_, hj⟩ | ⟨rfl, rfl⟩ | ⟨rfl, rfl⟩
    · exact ((h.blk j x hj).below hb).ext
    · refine ⟨fun wr m hrow => ?_, trivial⟩
      simp only [SO.row, Option.some.injEq, Prod.mk.injEq] at hrow
      obtain ⟨rfl, rfl⟩ := hrow
      refine ⟨b, 0, by rw [← h.len]; simp, e2, (fun e => by cases e), fun i s hi => ?_⟩
      obtain ⟨⟨v, v1, v2, v3⟩, v4⟩ := e4 i s hi
      exact ⟨⟨v, v1, (R.free s v (frees_get hf hi) v2).ext (η := []), v3⟩, fun e => by cases e⟩
    · exact ⟨fun wr m hrow => by simp [SO.row] at hrow, trivial⟩
  · intro k₁ k₂ s₁ s₂ l₁ wr₂ l₂ b₁ o₁ b₂ o₂ h1 r1 h2 r2 hne q1 q2
    rcases split h1 with ⟨p1, h1⟩ | ⟨rfl, rfl⟩ | ⟨rfl, rfl⟩
    · have g1 : η[k₁]? = some (Value.pointer (some ⟨b₁, o₁, none⟩)) := by
        rw [List.getElem?_append_left (by rw [h.len]; exact p1)] at q1; exact q1
      rcases split h2 with ⟨p2, h2⟩ | ⟨rfl, rfl⟩ | ⟨rfl, rfl⟩
      · have g2 : η[k₂]? = some (Value.pointer (some ⟨b₂, o₂, none⟩)) := by
          rw [List.getElem?_append_left (by rw [h.len]; exact p2)] at q2; exact q2
        exact h.apart k₁ k₂ s₁ s₂ l₁ wr₂ l₂ b₁ o₁ b₂ o₂ h1 r1 h2 r2 hne g1 g2
      · have hb2 : b₂ = b := by
          rw [← h.len] at q2
          simp at q2
          exact q2.1.symm
        obtain ⟨x, y, z1, z2, _, _⟩ := (h.blk k₁ s₁ h1).1 true l₁ r1
        rw [g1] at z1
        simp only [Option.some.injEq, Value.pointer.injEq, Addr.mk.injEq, and_true] at z1
        omega
      · simp [SO.row] at r2
    · simp [SO.row] at r1
    · simp [SO.row] at r1
/-! ### take: words and rounds as contracts -/
def u8s : List SV → Option (List Int)
  | [] => some []
  | .val (.int .u8 z) :: r => match u8s r with
    | some l => some (z :: l)
    | none => none
  | _ => none
def fnz (l : List Int) : Nat → Int := fun i => l.getD i 0
def row64 (ws : Nat → Int) : SO := .cells false ((List.range 64).map fun i => .val (.int .u64 (ws i)))
abbrev WF := (Nat → Int) → Nat → Int
def KLf : Nat → Int := fnz KL
def kAgg (K : Nat → Int) : SV := .agg ((List.range 64).map fun i => .val (.int .u64 (K i)))
def wdC (W Wr : WF) (args : List SV) (hp : List SO) : Option (SV × Option (List SO) × Cnd) :=
  match args with
  | [.sle 0 0 64 1] =>
    match hp with
    | .cells false l :: .dead :: .cells false [] :: r =>
      match u8s l with
      | some zs => if zs.length = 64 then some (.sle hp.length 0 64 (hp.length + 1), some (hp ++ [row64 (W (fnz zs)), .dead]), .pr (W = Wr)) else none
      | none => none
    | _ => none
  | _ => none
noncomputable def XT (q : Rf) (W Wr : WF) (K : Nat → Int) : Cx :=
  ⟨Tryd.prog, fun f args hp => if f = 68 then wdC W Wr args hp else if f = 69 then (match args with | [] => some (kAgg K, none, .pr (K = KLf)) | _ => none) else (XR q).ct f args hp, fun _ _ _ _ => none⟩
/-! ### take: a round -/
def u64r (n : Nat) (x : Nat → Int) : List SV := (List.range n).map fun i => .val (.int .u64 (x i))
noncomputable def TL1 : Code := cLp (cB (cR (cL (cR (cR (cR (cR (code 54))))))))
def nTk : Nat := 95
def hpK (b x0 ws K x : Nat → Int) : List SO :=
  [bts64 b, .dead, .cells false [], .cells true (u64r 8 x0), .cells true (List.replicate 8 (.num .u64 0)), row64 ws, .dead, .cells true (u64r 64 K), .cells true (u64r 8 x)]
def stK (b x0 ws K x : Nat → Int) (t : Nat) (d : Nat → Value) : St :=
  ⟨[.val (d 0), .val (d 1), .ptr 3 0, .val (d 3), .ptr 4 0, .sle 5 0 64 6, .ptr 7 0, .ptr 8 0, .num .i64 t] ++ (List.range' 9 nTk).map (fun i => .val (d i)), hpK b x0 ws K x⟩
def fgK : List Nat := [0, 1, 3] ++ List.range' 9 nTk
def keepK : List Nat := [0, 1, 2, 3, 4, 5, 6, 7, 8]
def xK (q : Rf) (K ws x : Nat → Int) (t : Nat) : Int := q.A [x 7, q.B 0 (q.U (x 4) 6) (q.U (x 4) 11) (q.U (x 4) 25), q.B 2 (x 4) (x 5) (x 6), K t, ws t]
def yK (q : Rf) (x : Nat → Int) : Int := q.A [q.B 0 (q.U (x 0) 2) (q.U (x 0) 13) (q.U (x 0) 22), q.B 1 (x 0) (x 1) (x 2)]
def upK (q : Rf) (K ws x : Nat → Int) (t : Nat) : Nat → Int
  | 0 => q.A [xK q K ws x t, yK q x]
  | 1 => x 0
  | 2 => x 1
  | 3 => x 2
  | 4 => q.A [x 3, xK q K ws x t]
  | 5 => x 4
  | 6 => x 5
  | _ => x 6
def PBh (q : Rf) (h : Nat) (x y z : Int) : Prop := q.B = bL ∧ P34 h x y z
def LKn (q : Rf) (x : Nat → Int) : List Prop :=
  [q.U = tnL, q.U = tnL, q.U = tnL, PBh q 0 (q.U (x 4) 6) (q.U (x 4) 11) (q.U (x 4) 25), PBh q 2 (x 4) (x 5) (x 6), q.A = adL,
   q.U = tnL, q.U = tnL, q.U = tnL, PBh q 0 (q.U (x 0) 2) (q.U (x 0) 13) (q.U (x 0) 22), PBh q 1 (x 0) (x 1) (x 2), q.A = adL,
   q.A = adL, q.A = adL, q.A = adL, q.A = adL, q.A = adL, q.A = adL]
def trnd (q : Rf) (b x0 ws K x : Nat → Int) (t : Nat) (d d' : Nat → Value) : Prop :=
  givesS 3 keepK fgK (run (XR q) 80 TL1 (stK b x0 ws K x t d).tm (stK b x0 ws K x t d).hp []) (stK b x0 ws K (upK q K ws x t) (t + 1) d') (LKn q x) d'
end Go.Proofs.YtacgamdbmllaoaaDoor
