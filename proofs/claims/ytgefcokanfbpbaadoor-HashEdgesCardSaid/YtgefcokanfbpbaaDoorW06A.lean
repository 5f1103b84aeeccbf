/-
  Walks of functions, reckoned through, and what they give (part W06A). No condition beyond what each says. By an AI agent.
-/
import Derived.Test.YtgefcokanfbpbaaDoorExS
import Derived.Test.YtgefcokanfbpbaaDoorChecked
namespace Go.Proofs.YtgefcokanfbpbaaDoor
open Go.Ex
open Go.RowKit (Below)
set_option linter.unusedVariables false
set_option maxRecDepth 1000000
def cL : Code → Code
  | .seq a _ => a
  | c => c
def cR : Code → Code
  | .seq _ b => b
  | c => c
def cB : Code → Code
  | .block _ b => b
  | c => c
def cLp : Code → Code
  | .loop b => b
  | c => c
def rfA : Code → Code
  | .rangeFunc _ _ a _ => a
  | c => c
def rfB : Code → Code
  | .rangeFunc _ _ _ b => b
  | c => c
def rfP : Code → Array Tmp
  | .rangeFunc _ p _ _ => p
  | _ => #[]
noncomputable def code (f : Nat) : Code := ((Tryd.prog.funcs[f]?).bind (·.body)).getD .skip
noncomputable def rf : Code := cB (cR (cL (cR (cR (code 23)))))
noncomputable def lb : Code := cLp (cB (cR (cR (code 35))))
def KL : List Int := [1116352408, 1899447441, 3049323471, 3921009573, 961987163, 1508970993, 2453635748, 2870763221, 3624381080, 310598401, 607225278, 1426881987, 1925078388, 2162078206, 2614888103, 3248222580, 3835390401, 4022224774, 264347078, 604807628, 770255983, 1249150122, 1555081692, 1996064986, 2554220882, 2821834349, 2952996808, 3210313671, 3336571891, 3584528711, 113926993, 338241895, 666307205, 773529912, 1294757372, 1396182291, 1695183700, 1986661051, 2177026350, 2456956037, 2730485921, 2820302411, 3259730800, 3345764771, 3516065817, 3600352804, 4094571909, 275423344, 430227734, 506948616, 659060556, 883997877, 958139571, 1322822218, 1537002063, 1747873779, 1955562222, 2024104815, 2227730452, 2361852424, 2428436474, 2756734187, 3204031479, 3329325298]
def u (z : Int) : SV := .val (.int .u32 z)
def globS : SO := .glob 0 (KL.map fun z => .num .u32 z)
/-- What 'taken' holds when it ranges. -/
def tsT (l0 : List Int) (s : ByteArray) : List SV :=
  [.agg (l0.map u), .val (.string s), .ptr 1 0, .val undef, .ptr 2 0, .ptr 3 0] ++ List.replicate 11 (.val undef) ++ [.agg (l0.map u), .val (.string s), .fnc 35 [] [.ptr 4 0]] ++ List.replicate 75 (.val undef)
noncomputable def lopS (l0 : List Int) (s : ByteArray) : SO := .fx (.lop true (tsT l0 s) (rfP rf) (rfA rf) (rfB rf))
noncomputable def hpS (l0 x la : List Int) (s : ByteArray) : List SO :=
  [globS, .cells true (x.map u), .cells true (List.replicate 8 (.num .u32 0)), .cells true (l0.map u), .cells true [.val (.string s)], .fx .dfb, lopS l0 s, .cells true (la.map u)]
def tmS (t : Int) (d : Nat → Value) : List SV :=
  [.hdl 6, .ptr 4 0, .val (d 2), .ptr 7 0] ++ (List.range' 4 5).map (fun i => .val (d i)) ++ [.num .i64 t] ++ (List.range' 10 79).map (fun i => .val (d i))
noncomputable def X0 : Cx := plain Tryd.prog
/-! ### the words, as the program reckons them -/
def add32 (a b : Int) : Int := IntKind.u32.wrap (a + b)
def xor32 (a b : Int) : Int := IntKind.u32.wrap ((BitVec.ofInt 32 a ^^^ BitVec.ofInt 32 b).toNat : Int)
def and32 (a b : Int) : Int := IntKind.u32.wrap ((BitVec.ofInt 32 a &&& BitVec.ofInt 32 b).toNat : Int)
def or32 (a b : Int) : Int := IntKind.u32.wrap ((BitVec.ofInt 32 a ||| BitVec.ofInt 32 b).toNat : Int)
def shl32 (a : Int) (k : Nat) : Int := IntKind.u32.wrap (a * 2 ^ k)
def shr32 (a : Int) (k : Nat) : Int := a.fdiv (2 ^ k)
def rotr32 (x : Int) (k : Nat) : Int := or32 (shl32 x (32 - k)) (shr32 x k)
def tur2 (x : Int) (i j : Nat) : Int := xor32 (xor32 0 (rotr32 x i)) (rotr32 x j)
def tur3 (x : Int) (i j k : Nat) : Int := xor32 (tur2 x i j) (rotr32 x k)
def bS1 (e : Int) : Int := tur3 e 6 11 25
def bS0 (a : Int) : Int := tur3 a 2 13 22
def sS0 (x : Int) : Int := xor32 (tur2 x 7 18) (shr32 x 3)
def sS1 (x : Int) : Int := xor32 (tur2 x 17 19) (shr32 x 10)
def ch32 (e f g : Int) : Int := or32 (and32 e f) (and32 (xor32 4294967295 e) g)
def maj32 (a b c : Int) : Int := or32 (or32 (and32 a b) (and32 a c)) (and32 b c)
def bX (x : Nat → Int) (k w : Int) : Int := add32 (add32 (add32 (add32 (x 7) (bS1 (x 4))) (ch32 (x 4) (x 5) (x 6))) k) w
def bY (x : Nat → Int) : Int := add32 (bS0 (x 0)) (maj32 (x 0) (x 1) (x 2))
/-- A round. -/
def rndF (x : Nat → Int) (k w : Int) : Nat → Int
  | 0 => add32 (bX x k w) (bY x)
  | 1 => x 0
  | 2 => x 1
  | 3 => x 2
  | 4 => add32 (x 3) (bX x k w)
  | 5 => x 4
  | 6 => x 5
  | _ => x 6
def be32 (s : ByteArray) (t : Nat) : Int :=
  or32 (or32 (or32 (shl32 (IntKind.u32.wrap ((bAt s (4 * t)).toNat : Int)) 24) (shl32 (IntKind.u32.wrap ((bAt s (4 * t + 1)).toNat : Int)) 16)) (shl32 (IntKind.u32.wrap ((bAt s (4 * t + 2)).toNat : Int)) 8)) (IntKind.u32.wrap ((bAt s (4 * t + 3)).toNat : Int))
/-- The next word. -/
def nwF (s : ByteArray) (t : Nat) (la : Nat → Int) : Int :=
  if t < 16 then be32 s t else add32 (add32 (la (t % 16)) (sS0 (la ((t % 16 + 1) % 16)))) (add32 (la ((t % 16 + 9) % 16)) (sS1 (la ((t % 16 + 14) % 16))))
def laF (s : ByteArray) (t : Nat) (la : Nat → Int) : Nat → Int := fun i => if i = t % 16 then nwF s t la else la i
noncomputable def stS (ini : List Int) (s : ByteArray) (t : Nat) (x la : Nat → Int) (d : Nat → Value) : St :=
  ⟨tmS t d, hpS ini [x 0, x 1, x 2, x 3, x 4, x 5, x 6, x 7] [la 0, la 1, la 2, la 3, la 4, la 5, la 6, la 7, la 8, la 9, la 10, la 11, la 12, la 13, la 14, la 15] s⟩
def fgS : List Nat := [2, 4, 5, 6, 7, 8] ++ List.range' 10 79
def keepS : List Nat := [0, 1, 2, 3, 4, 5, 6, 7]
def fxE (o : SO) : Prop := o = o
theorem fxE_t (o : SO) : fxE o := rfl
noncomputable def lopF (ini : List Int) (s : ByteArray) : SO := .fx (.lop false (tsT ini s) (rfP rf) (rfA rf) (rfB rf))
noncomputable def LS (ini : List Int) (s : ByteArray) (t : Nat) : List Prop :=
  if t < 16 then [4 * t ≤ 4 * t + 4 ∧ 4 * t + 4 ≤ s.size, fxE (lopF ini s), fxE (lopF ini s)] else List.replicate 6 (fxE (lopS ini s)) ++ [fxE (lopF ini s), fxE (lopF ini s)]
def outS (n0 : Nat) (keep fg : List Nat) (r : Rr Fin) (T : St) (L : List Prop) (d : Nat → Value) : Option (Bool × St × List Prop × List SV) × Option (Bool × St × List Prop × List SV) :=
  match r with
  | .ok f [] c => match f.e with
    | .normal => (some (cutB n0 keep fg f.st, cutV keep fg f.st d, c.props [], c.lefts []), some (true, T, L, c.rights []))
    | _ => (none, some (true, T, L, []))
  | _ => (none, some (true, T, L, []))
def givesS (n0 : Nat) (keep fg : List Nat) (r : Rr Fin) (T : St) (L : List Prop) (d : Nat → Value) : Prop := (outS n0 keep fg r T L d).1 = (outS n0 keep fg r T L d).2
noncomputable def roundSt (ini : List Int) (s : ByteArray) (t : Nat) (x la : Nat → Int) (d d' : Nat → Value) : Prop :=
  givesS 7 keepS fgS (run X0 60 lb (stS ini s t x la d).tm (stS ini s t x la d).hp []) (stS ini s (t + 1) (rndF x (KL.getD t 0) (nwF s t la)) (laF s t la) d') (LS ini s t) d'
/-- One block alone. -/
theorem HR.single {B : Nat} {η : Env} {hp : List SO} {w : World} (h : HR B η hp w) {k : Nat} {wr : Bool} {l : List SV} (hk : hp[k]? = some (.cells wr l)) (hf : frees l = true) :
    ∃ v, η[k]? = some v ∧ ∀ B', HR B' [v] [.cells false l] w := by
  have hlt : k < η.length := by rw [h.len]; exact (List.getElem?_eq_some_iff.1 hk).1
  refine ⟨η[k], List.getElem?_eq_getElem hlt, fun B' => ⟨rfl, fun j o hj => ?_, ?_⟩⟩
  · have : j = 0 ∧ o = .cells false l := by
      cases j with
      | zero => simp at hj; exact ⟨rfl, hj.symm⟩
      | succ j => simp at hj
    obtain ⟨rfl, rfl⟩ := this
    refine ⟨fun wr' l' hro => ?_, trivial⟩
    obtain ⟨b, p, e1, e2, e3, e4⟩ := (h.blk k _ hk).1 wr l rfl
    simp only [SO.row, Option.some.injEq, Prod.mk.injEq] at hro
    obtain ⟨rfl, rfl⟩ := hro
    refine ⟨b, p, ?_, e2, (fun e => by cases e), fun i s hi => ?_⟩
    · rw [List.getElem?_eq_getElem hlt] at e1
      simpa using e1
    · obtain ⟨⟨v, v1, v2, v3⟩, v4⟩ := e4 i s hi
      have hsf : s.free = true := by
        have : ∀ (l : List SV) (i : Nat), frees l = true → l[i]? = some s → s.free = true := by
          intro l
          induction l with
          | nil => intro i _ h; simp at h
          | cons x r ih =>
            intro i hf h
            simp only [frees, Bool.and_eq_true] at hf
            cases i with
            | zero => simp at h; subst h; exact hf.1
            | succ i => exact ih i hf.2 (by simpa using h)
        exact this _ _ hf hi
      exact ⟨⟨v, v1, R.free s v hsf v2, v3⟩, fun e => by cases e⟩
  · intro k₁ k₂ s₁ s₂ l₁ wr₂ l₂ b₁ o₁ b₂ o₂ h1 r1 h2 r2 hne e1 e2
    have z : ∀ (k : Nat) (s : SO), ([SO.cells false l] : List SO)[k]? = some s → k = 0 := by
      intro k s hk
      cases k with
      | zero => rfl
      | succ k => simp at hk
    exact absurd ((z _ _ h1).trans (z _ _ h2).symm) hne
noncomputable def XN : Cx := conned (Con.nil (P := Tryd.prog))
def outH (r : Rr (SV × Option (List SO))) (s : SV) : Option (SV × List Prop × List SV) × Option (SV × List Prop × List SV) :=
  match r with
  | .ok (s', _) [] c => (some (s', c.props [], c.lefts []), some (s, [], c.rights []))
  | _ => (none, some (s, [], []))
def givesH (r : Rr (SV × Option (List SO))) (s : SV) : Prop := (outH r s).1 = (outH r s).2
theorem calls_gives {P : Program} (C : Con P) (n : Nat) {f : FuncId} {args : List SV} {hp : List SO} {s : SV} (h : givesH (callR (conned C) (run (conned C) n) f args hp []) s) (hs : s.free = true) {η : Env} {w : World} (hr : HR w.heap.size η hp w) {vs : List Value} (hargs : Rs η args vs) :
    Calls P f vs.toArray w (fun e w' => ∃ v, e = .returned v ∧ R [] s v ∧ Below w.heap.size w w') := by
  unfold givesH at h
  generalize hq : callR (conned C) (run (conned C) n) f args hp [] = r at h
  unfold outH at h
  split at h
  · rename_i s' ho c'
    simp only [Option.some.injEq, Prod.mk.injEq] at h
    obtain ⟨rfl, h2, h3⟩ := h
    have hc := (Cnd.is_of c' [] [] [] (by rw [h2]; trivial) h3 rfl).1
    refine (callR_ok (conned_ct C) (run_ok (conned_ct C) (conned_lp C) n) f args hp [] _ _ _ _ hq hc w.heap.size η w vs hr (Nat.le_refl _) hargs).2.mono fun e w' hq => ?_
    obtain ⟨v, μ, rfl, hR, _, hb⟩ := hq
    exact ⟨v, rfl, R.free _ _ hs hR, hb⟩
  · simp at h
set_option maxRecDepth 1000000 in
theorem t7 (x : Int) : givesH (callR XN (run XN 60) 32 [u x, .slc 0 0 2 2] [.cells false [.num .i64 7, .num .i64 18]] []) (u (tur2 x 7 18)) := by unfold givesH; kernel_rfl
set_option maxRecDepth 1000000 in
theorem t17 (x : Int) : givesH (callR XN (run XN 60) 32 [u x, .slc 0 0 2 2] [.cells false [.num .i64 17, .num .i64 19]] []) (u (tur2 x 17 19)) := by unfold givesH; kernel_rfl
set_option maxRecDepth 1000000 in
theorem t6 (x : Int) : givesH (callR XN (run XN 60) 32 [u x, .slc 0 0 3 3] [.cells false [.num .i64 6, .num .i64 11, .num .i64 25]] []) (u (tur3 x 6 11 25)) := by unfold givesH; kernel_rfl
set_option maxRecDepth 1000000 in
theorem t2 (x : Int) : givesH (callR XN (run XN 60) 32 [u x, .slc 0 0 3 3] [.cells false [.num .i64 2, .num .i64 13, .num .i64 22]] []) (u (tur3 x 2 13 22)) := by unfold givesH; kernel_rfl
/-- What 'turned' gives. -/
def turV (x : Int) : List SV → Option SV
  | [.num .i64 7, .num .i64 18] => some (u (tur2 x 7 18))
  | [.num .i64 17, .num .i64 19] => some (u (tur2 x 17 19))
  | [.num .i64 6, .num .i64 11, .num .i64 25] => some (u (tur3 x 6 11 25))
  | [.num .i64 2, .num .i64 13, .num .i64 22] => some (u (tur3 x 2 13 22))
  | _ => none
theorem turV_ok {x : Int} {l : List SV} {s : SV} (h : turV x l = some s) : frees l = true ∧ s.free = true ∧ givesH (callR XN (run XN 60) 32 [u x, .slc 0 0 l.length l.length] [.cells false l] []) s := by
  unfold turV at h
  split at h <;> simp only [Option.some.injEq, reduceCtorEq] at h <;> subst h
  · exact ⟨rfl, rfl, t7 x⟩
  · exact ⟨rfl, rfl, t17 x⟩
  · exact ⟨rfl, rfl, t6 x⟩
  · exact ⟨rfl, rfl, t2 x⟩
def turG (args : List SV) (hp : List SO) : Option (SV × Cnd) :=
  match args with
  | [.val (.int .u32 x), .slc k 0 n c] =>
    match hp[k]? with
    | some (.cells _ l) => if l.length = n ∧ n = c then (match turV x l with | some s => some (s, .tt) | none => none) else none
    | _ => none
  | _ => none
theorem turG_ok : ∀ args hp s c, turG args hp = some (s, c) → c.Is → ∀ (B : Nat) (η : Env) (w : World) (vs : List Value), HR B η hp w → Rs η args vs →
    Calls Tryd.prog 32 vs.toArray w (fun e w' => ∃ v, e = .returned v ∧ R [] s v ∧ Below w.heap.size w w') := by
  intro args hp s c h _ B η w vs hr hargs
  unfold turG at h
  split at h
  · rename_i x k n cc
    split at h
    · rename_i wr l hk
      split at h
      · rename_i hn
        obtain ⟨rfl, rfl⟩ := hn
        split at h
        · rename_i s' hs
          simp only [Option.some.injEq, Prod.mk.injEq] at h
          obtain ⟨rfl, _⟩ := h
          obtain ⟨g1, g2, g3⟩ := turV_ok hs
          obtain ⟨v, e1, e2⟩ := HR.single hr hk g1
          refine calls_gives _ _ g3 g2 (e2 w.heap.size) ?_
          obtain ⟨a, r, rfl, h1, h2⟩ := hargs.cons_inv
          obtain ⟨b, r2, rfl, h3, h4⟩ := h2.cons_inv
          simp only [Rs] at h4; subst h4
          refine Rs.cons (by simpa only [R, u] using h1) (Rs.cons ?_ Rs.nil)
          obtain ⟨b', o', q1, q2⟩ := h3
          rw [e1] at q1
          simp only [Option.some.injEq] at q1
          subst q1
          exact ⟨b', o', rfl, q2⟩
        · simp at h
      · simp at h
    · simp at h
  · simp at h
noncomputable def turC : Con Tryd.prog := Con.oneH 32 turG turG_ok
noncomputable def X1 : Cx := conned turC
noncomputable def roundS1 (ini : List Int) (s : ByteArray) (t : Nat) (x la : Nat → Int) (d d' : Nat → Value) : Prop :=
  givesS 7 keepS fgS (run X1 60 lb (stS ini s t x la d).tm (stS ini s t x la d).hp []) (stS ini s (t + 1) (rndF x (KL.getD t 0) (nwF s t la)) (laF s t la) d') (LS ini s t) d'
end Go.Proofs.YtgefcokanfbpbaaDoor
