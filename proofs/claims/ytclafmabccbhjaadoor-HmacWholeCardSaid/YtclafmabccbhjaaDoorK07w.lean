/-
  Walks of functions, reckoned through, and what they give (part K07w). No condition beyond what each says. By an AI agent.
-/
import Derived.Test.YtclafmabccbhjaaDoorK07l
import Derived.Test.YtclafmabccbhjaaDoorK07s
import Derived.Test.YtclafmabccbhjaaDoorK07o
import Derived.Test.YtclafmabccbhjaaDoorR07
namespace Go.Proofs.YtclafmabccbhjaaDoor
open Go.Ex
open Go.RowKit (Below)
set_option linter.unusedVariables false
set_option maxRecDepth 1000000
/-! ### works, HmacKnown -/
def Pg (g : Nat) (gl : List SV) : Prop := g = 0 ∧ gl = glL
noncomputable def repR : Raw := fun f args _ => if f = 18 then repG args else none
theorem repR_ok : repR.Ok := by
  intro f args hp s c h hc B η w vs hr hargs
  unfold repR at h
  split at h
  · rename_i hf; subst hf
    have hf : frees args = true := by
      unfold repG at h
      split at h
      · rfl
      · simp at h
    exact repG_ok args s c h hc w vs (Rs.free _ _ hf hargs)
  · simp at h
/-! ### digits, of told texts -/
theorem HR.two0 {B : Nat} {v : Value} {w : World} (h : HR B [v] [globS] w) : HR B [v, v, v] [globS, .cells false [], .cells false []] w := by
  have hb := h.blk 0 _ rfl
  obtain ⟨b, p, e1, e2, _, _⟩ := hb.1 _ _ rfl
  have ev : v = .pointer (some ⟨b, p, none⟩) := by simpa using e1
  have nil : ∀ k, ([v, v, v] : Env)[k]? = some v → BR B [v, v, v] w k (.cells false []) := fun k hk =>
    ⟨fun wr l hro => by
      simp only [SO.row, Option.some.injEq, Prod.mk.injEq] at hro
      obtain ⟨rfl, rfl⟩ := hro
      exact ⟨b, p, by rw [hk, ev], e2, (fun e => by cases e), fun i s hi => by simp at hi⟩, trivial⟩
  refine ⟨rfl, fun k o hk => ?_, ?_⟩
  · match k, hk with
    | 0, hk =>
      simp at hk; subst hk
      exact BR.glob_at (k' := 0) (η' := [v, v, v]) (by decide) (fun x hx => by simpa using hx) hb
    | 1, hk => simp at hk; subst hk; exact nil 1 rfl
    | 2, hk => simp at hk; subst hk; exact nil 2 rfl
    | k + 3, hk => simp at hk
  · intro k₁ k₂ s₁ s₂ l₁ wr₂ l₂ b₁ o₁ b₂ o₂ h1 r1 h2 r2 hne q1 q2
    match k₁, h1 with
    | 0, h1 => simp at h1; subst h1; simp [globS, SO.row] at r1
    | 1, h1 => simp at h1; subst h1; simp [SO.row] at r1
    | 2, h1 => simp at h1; subst h1; simp [SO.row] at r1
    | j + 3, h1 => simp at h1
noncomputable def dgX : Cx := rawP noG
def DG7 : List (List UInt8 × List UInt8) := [
  ([91, 220, 193, 70, 191, 96, 117, 78, 106, 4, 36, 38, 8, 149, 117, 199, 90, 0, 63, 8, 157, 39, 57, 131, 157, 236, 88, 185, 100, 236, 56, 67], [53, 98, 100, 99, 99, 49, 52, 54, 98, 102, 54, 48, 55, 53, 52, 101, 54, 97, 48, 52, 50, 52, 50, 54, 48, 56, 57, 53, 55, 53, 99, 55, 53, 97, 48, 48, 51, 102, 48, 56, 57, 100, 50, 55, 51, 57, 56, 51, 57, 100, 101, 99, 53, 56, 98, 57, 54, 52, 101, 99, 51, 56, 52, 51]),
  ([176, 52, 76, 97, 216, 219, 56, 83, 92, 168, 175, 206, 175, 11, 241, 43, 136, 29, 194, 0, 201, 131, 61, 167, 38, 233, 55, 108, 46, 50, 207, 247], [98, 48, 51, 52, 52, 99, 54, 49, 100, 56, 100, 98, 51, 56, 53, 51, 53, 99, 97, 56, 97, 102, 99, 101, 97, 102, 48, 98, 102, 49, 50, 98, 56, 56, 49, 100, 99, 50, 48, 48, 99, 57, 56, 51, 51, 100, 97, 55, 50, 54, 101, 57, 51, 55, 54, 99, 50, 101, 51, 50, 99, 102, 102, 55]),
  ([91, 220, 193, 70], [53, 98, 100, 99, 99, 49, 52, 54]),
  ([56, 67], [51, 56, 52, 51]),
  ([182, 19, 103, 154, 8, 20, 217, 236, 119, 47, 149, 215, 120, 195, 95, 197, 255, 22, 151, 196, 147, 113, 86, 83, 198, 199, 18, 20, 66, 146, 197, 173], [98, 54, 49, 51, 54, 55, 57, 97, 48, 56, 49, 52, 100, 57, 101, 99, 55, 55, 50, 102, 57, 53, 100, 55, 55, 56, 99, 51, 53, 102, 99, 53, 102, 102, 49, 54, 57, 55, 99, 52, 57, 51, 55, 49, 53, 54, 53, 51, 99, 54, 99, 55, 49, 50, 49, 52, 52, 50, 57, 50, 99, 53, 97, 100]),
  ([119, 62, 169, 30, 54, 128, 14, 70, 133, 77, 184, 235, 208, 145, 129, 167, 41, 89, 9, 139, 62, 248, 193, 34, 217, 99, 85, 20, 206, 213, 101, 254], [55, 55, 51, 101, 97, 57, 49, 101, 51, 54, 56, 48, 48, 101, 52, 54, 56, 53, 52, 100, 98, 56, 101, 98, 100, 48, 57, 49, 56, 49, 97, 55, 50, 57, 53, 57, 48, 57, 56, 98, 51, 101, 102, 56, 99, 49, 50, 50, 100, 57, 54, 51, 53, 53, 49, 52, 99, 101, 100, 53, 54, 53, 102, 101]),
  ([96, 228, 49, 89, 30, 224, 182, 127, 13, 138, 38, 170, 203, 245, 183, 127, 142, 11, 198, 33, 55, 40, 197, 20, 5, 70, 4, 15, 14, 227, 127, 84], [54, 48, 101, 52, 51, 49, 53, 57, 49, 101, 101, 48, 98, 54, 55, 102, 48, 100, 56, 97, 50, 54, 97, 97, 99, 98, 102, 53, 98, 55, 55, 102, 56, 101, 48, 98, 99, 54, 50, 49, 51, 55, 50, 56, 99, 53, 49, 52, 48, 53, 52, 54, 48, 52, 48, 102, 48, 101, 101, 51, 55, 102, 53, 52])]
theorem dg_0 : givesV (topR dgX (run dgX 80) 22 [.bts true [91, 220, 193, 70, 191, 96, 117, 78, 106, 4, 36, 38, 8, 149, 117, 199, 90, 0, 63, 8, 157, 39, 57, 131, 157, 236, 88, 185, 100, 236, 56, 67]] [globS, .cells false [], .cells false []] []) (.bts true [53, 98, 100, 99, 99, 49, 52, 54, 98, 102, 54, 48, 55, 53, 52, 101, 54, 97, 48, 52, 50, 52, 50, 54, 48, 56, 57, 53, 55, 53, 99, 55, 53, 97, 48, 48, 51, 102, 48, 56, 57, 100, 50, 55, 51, 57, 56, 51, 57, 100, 101, 99, 53, 56, 98, 57, 54, 52, 101, 99, 51, 56, 52, 51]) [] := by unfold givesV; kernel_rfl
theorem dg_1 : givesV (topR dgX (run dgX 80) 22 [.bts true [176, 52, 76, 97, 216, 219, 56, 83, 92, 168, 175, 206, 175, 11, 241, 43, 136, 29, 194, 0, 201, 131, 61, 167, 38, 233, 55, 108, 46, 50, 207, 247]] [globS, .cells false [], .cells false []] []) (.bts true [98, 48, 51, 52, 52, 99, 54, 49, 100, 56, 100, 98, 51, 56, 53, 51, 53, 99, 97, 56, 97, 102, 99, 101, 97, 102, 48, 98, 102, 49, 50, 98, 56, 56, 49, 100, 99, 50, 48, 48, 99, 57, 56, 51, 51, 100, 97, 55, 50, 54, 101, 57, 51, 55, 54, 99, 50, 101, 51, 50, 99, 102, 102, 55]) [] := by unfold givesV; kernel_rfl
theorem dg_2 : givesV (topR dgX (run dgX 80) 22 [.bts true [91, 220, 193, 70]] [globS, .cells false [], .cells false []] []) (.bts true [53, 98, 100, 99, 99, 49, 52, 54]) [] := by unfold givesV; kernel_rfl
theorem dg_3 : givesV (topR dgX (run dgX 80) 22 [.bts true [56, 67]] [globS, .cells false [], .cells false []] []) (.bts true [51, 56, 52, 51]) [] := by unfold givesV; kernel_rfl
theorem dg_4 : givesV (topR dgX (run dgX 80) 22 [.bts true [182, 19, 103, 154, 8, 20, 217, 236, 119, 47, 149, 215, 120, 195, 95, 197, 255, 22, 151, 196, 147, 113, 86, 83, 198, 199, 18, 20, 66, 146, 197, 173]] [globS, .cells false [], .cells false []] []) (.bts true [98, 54, 49, 51, 54, 55, 57, 97, 48, 56, 49, 52, 100, 57, 101, 99, 55, 55, 50, 102, 57, 53, 100, 55, 55, 56, 99, 51, 53, 102, 99, 53, 102, 102, 49, 54, 57, 55, 99, 52, 57, 51, 55, 49, 53, 54, 53, 51, 99, 54, 99, 55, 49, 50, 49, 52, 52, 50, 57, 50, 99, 53, 97, 100]) [] := by unfold givesV; kernel_rfl
theorem dg_5 : givesV (topR dgX (run dgX 80) 22 [.bts true [119, 62, 169, 30, 54, 128, 14, 70, 133, 77, 184, 235, 208, 145, 129, 167, 41, 89, 9, 139, 62, 248, 193, 34, 217, 99, 85, 20, 206, 213, 101, 254]] [globS, .cells false [], .cells false []] []) (.bts true [55, 55, 51, 101, 97, 57, 49, 101, 51, 54, 56, 48, 48, 101, 52, 54, 56, 53, 52, 100, 98, 56, 101, 98, 100, 48, 57, 49, 56, 49, 97, 55, 50, 57, 53, 57, 48, 57, 56, 98, 51, 101, 102, 56, 99, 49, 50, 50, 100, 57, 54, 51, 53, 53, 49, 52, 99, 101, 100, 53, 54, 53, 102, 101]) [] := by unfold givesV; kernel_rfl
theorem dg_6 : givesV (topR dgX (run dgX 80) 22 [.bts true [96, 228, 49, 89, 30, 224, 182, 127, 13, 138, 38, 170, 203, 245, 183, 127, 142, 11, 198, 33, 55, 40, 197, 20, 5, 70, 4, 15, 14, 227, 127, 84]] [globS, .cells false [], .cells false []] []) (.bts true [54, 48, 101, 52, 51, 49, 53, 57, 49, 101, 101, 48, 98, 54, 55, 102, 48, 100, 56, 97, 50, 54, 97, 97, 99, 98, 102, 53, 98, 55, 55, 102, 56, 101, 48, 98, 99, 54, 50, 49, 51, 55, 50, 56, 99, 53, 49, 52, 48, 53, 52, 54, 48, 52, 48, 102, 48, 101, 101, 51, 55, 102, 53, 52]) [] := by unfold givesV; kernel_rfl
theorem dg_all : ∀ e ∈ DG7, givesV (topR dgX (run dgX 80) 22 [.bts true e.1] [globS, .cells false [], .cells false []] []) (.bts true e.2) [] := by
  intro e he
  unfold DG7 at he
  simp only [List.mem_cons, List.not_mem_nil, or_false] at he
  rcases he with rfl | rfl | rfl | rfl | rfl | rfl | rfl
  · exact dg_0
  · exact dg_1
  · exact dg_2
  · exact dg_3
  · exact dg_4
  · exact dg_5
  · exact dg_6
noncomputable def digG7 : Raw := fun f args hp =>
  if f = 22 then
    match args, hp with
    | [.bts _ l], .glob g gl :: _ =>
      match DG7.find? (fun e => e.1 == l) with
      | some e => some (.bts true e.2, .pr (Pg g gl))
      | none => none
    | _, _ => none
  else none
theorem digG7_ok : digG7.Ok := by
  intro f args hp s c h hc B η w vs hr hargs
  unfold digG7 at h
  split at h
  · rename_i hf; subst hf
    split at h
    · rename_i b1 l g gl r
      split at h
      · rename_i e he
        simp only [Option.some.injEq, Prod.mk.injEq] at h
        obtain ⟨rfl, rfl⟩ := h
        obtain ⟨rfl, rfl⟩ := hc
        have hm := List.mem_of_find?_eq_some he
        have hl : e.1 = l := by simpa using List.find?_some he
        subst hl
        obtain ⟨v, hv⟩ := HR.glob hr (k := 0) rfl (by decide)
        have ha : Rs [] [.bts true e.1] vs := by
          obtain ⟨a, x, rfl, g1, g2⟩ := hargs.cons_inv
          simp only [Rs] at g2; subst g2
          exact Rs.cons (by simpa only [R] using g1) Rs.nil
        exact callsV (X := dgX) rfl (rawP_ct noG_ok) (rawP_lp _) 80 (dg_all e hm) trivial rfl (HR.two0 (hv w.heap.size)) (Rs.free _ _ rfl ha)
      · simp at h
    · simp at h
  · simp at h
noncomputable def tdR : Raw := ofG.or (digG7.or repR)
theorem tdR_ok : tdR.Ok := Raw.or_ok ofG_ok (Raw.or_ok digG7_ok repR_ok)
noncomputable def wkX : Cx := guardX [16, 8, 17, 22] (rawP tdR)
theorem works_gives : givesV (topR wkX (run wkX 80) 10 [] [globS] []) (.bol true) (List.replicate 6 (Pg 0 glL)) := by
  unfold givesV; kernel_rfl
theorem call10 {B : Nat} {η : Env} {hp : List SO} {k : Nat} {w : World} {vs : List Value} (hr : HR B η hp w) (hk : hp[k]? = some globS) (hargs : Rs [] [] vs) :
    Calls Tryd.prog 10 vs.toArray w (fun e w' => ∃ v, e = .returned v ∧ R [] (.bol true) v ∧ Below w.heap.size w w') := by
  obtain ⟨v, hv⟩ := HR.glob hr hk (by decide)
  exact callsV (X := wkX) rfl (guardX_ct (rawP_ct tdR_ok)) (guardX_lp (rawP_lp _)) 80 works_gives ⟨⟨rfl, rfl⟩, ⟨rfl, rfl⟩, ⟨rfl, rfl⟩, ⟨rfl, rfl⟩, ⟨rfl, rfl⟩, ⟨rfl, rfl⟩, trivial⟩ rfl (hv _) (Rs.free _ _ rfl hargs)
def worksG : Raw := fun f args hp =>
  if f = 10 then
    match args, hp with
    | [], .glob g gl :: _ => some (.bol true, .pr (Pg g gl))
    | _, _ => none
  else none
theorem worksG_ok : worksG.Ok := by
  intro f args hp s c h hc B η w vs hr hargs
  unfold worksG at h
  split at h
  · rename_i hf; subst hf
    split at h
    · rename_i g gl r
      simp only [Option.some.injEq, Prod.mk.injEq] at h
      obtain ⟨rfl, rfl⟩ := h
      obtain ⟨rfl, rfl⟩ := hc
      exact call10 hr (k := 0) rfl (by simp only [Rs] at hargs; subst hargs; exact Rs.nil)
    · simp at h
  · simp at h
noncomputable def mX (g : Raw) : Cx := guardX [10, 16, 8, 17, 22] (rawP g)
theorem mX_ct {g : Raw} (hg : g.Ok) : CtOk (mX g) := guardX_ct (rawP_ct hg)
theorem mX_lp (g : Raw) : LpOk (mX g) := guardX_lp (rawP_lp g)
theorem known_gives : givesV (topR (mX (worksG.or tdR)) (run (mX (worksG.or tdR)) 80) 7 [] [globS] []) (.bol true) (List.replicate 7 (Pg 0 glL)) := by
  unfold givesV; kernel_rfl
theorem known_call {η : Env} {W : World} {vs : List Value} (hr : HR W.heap.size η [globS] W) (hargs : Rs η [] vs) :
    Calls Tryd.prog 7 vs.toArray W (fun e w' => ∃ v, e = .returned v ∧ v = .bool true ∧ Below W.heap.size W w') := by
  refine (callsV (X := mX _) rfl (mX_ct (Raw.or_ok worksG_ok tdR_ok)) (mX_lp _) 80 known_gives ⟨⟨rfl, rfl⟩, ⟨rfl, rfl⟩, ⟨rfl, rfl⟩, ⟨rfl, rfl⟩, ⟨rfl, rfl⟩, ⟨rfl, rfl⟩, ⟨rfl, rfl⟩, trivial⟩ rfl hr hargs).mono fun e w' hq => ?_
  obtain ⟨v, rfl, hR, hb⟩ := hq
  exact ⟨_, rfl, by simpa only [R] using hR, hb⟩
/-! ### HmacWhole -/
abbrev LF := Int → ByteArray
def zf (zs : List Int) : Nat → Int := fun i => zs.getD i 0
def PLt (zs : List Int) (lT rT : LF) : Prop := zs.length = 32 ∧ lT = leftT (zf zs) ∧ rT = rightT (zf zs)
noncomputable def leftF (lT rT : LF) : Raw := fun f args hp =>
  match args with
  | [.agg l, .val (.int .i64 n)] =>
    match zsOf l with
    | some zs => if f = 11 ∨ f = 12 then some (.val (.string (lT n)), .pr (PLt zs lT rT)) else if f = 13 ∨ f = 14 then some (.val (.string (rT n)), .pr (PLt zs lT rT)) else none
    | none => none
  | _ => none
theorem leftF_ok (lT rT : LF) : (leftF lT rT).Ok := by
  intro f args hp s c h hc B η w vs hr hargs
  unfold leftF at h
  split at h
  · rename_i l n
    split at h
    · rename_i zs hz
      split at h
      · rename_i hf
        simp only [Option.some.injEq, Prod.mk.injEq] at h
        obtain ⟨rfl, rfl⟩ := h
        obtain ⟨h1, rfl, rfl⟩ := hc
        exact leftG_ok f [.agg l, .val (.int .i64 n)] hp (.val (.string (leftT (zf zs) n))) (.pr (zs.length = 32)) (by unfold leftG; simp only [hz]; rw [if_pos hf]; rfl) h1 B η w vs hr hargs
      · rename_i hnf
        split at h
        · rename_i hf
          simp only [Option.some.injEq, Prod.mk.injEq] at h
          obtain ⟨rfl, rfl⟩ := h
          obtain ⟨h1, rfl, rfl⟩ := hc
          exact leftG_ok f [.agg l, .val (.int .i64 n)] hp (.val (.string (rightT (zf zs) n))) (.pr (zs.length = 32)) (by unfold leftG; simp only [hz]; rw [if_neg hnf, if_pos hf]; rfl) h1 B η w vs hr hargs
        · simp at h
    · simp at h
  · simp at h
def zL32 (z : Nat → Int) : List Int := (List.range 32).map z
def dgT (z : Nat → Int) : ByteArray := ⟨((List.range 32).map fun i => UInt8.ofNat (z i).toNat).toArray⟩
def noT : ByteArray := ⟨([] : List UInt8).toArray⟩
def kW (n : Int) : Int := (IntKind.i64.wrap n).tmod 33
def kV (n : Int) : Int := IntKind.i64.wrap (32 - kW n)
def mI (m : Int) : Int := IntKind.i64.wrap (0 - IntKind.i64.wrap m)
def mP (m : Int) : Int := IntKind.i64.wrap (32 + IntKind.i64.wrap m)
noncomputable def whR (lT rT : LF) : Raw := worksG.or (leftF lT rT)
def LWh (lT rT : LF) (z : Nat → Int) (n m : Int) : List Prop :=
  [Pg 0 glL, PLt (zL32 z) lT rT, PLt (zL32 z) lT rT, (lT (kW n)).size + (rT (kV n)).size ≤ 9223372036854775807, eqS (lT (kW n) ++ rT (kV n)) (dgT z) = true, PLt (zL32 z) lT rT, eqS (lT (mI m)) noT = true, PLt (zL32 z) lT rT, eqS (rT (mI m)) noT = true, PLt (zL32 z) lT rT, eqS (lT (mP m)) (dgT z) = true, PLt (zL32 z) lT rT]
theorem whole_gives (lT rT : LF) (z : Nat → Int) (n m : Int) : givesV (topR (mX (whR lT rT)) (run (mX (whR lT rT)) 80) 6 [cells32 z, .val (.int .u8 n), .val (.int .u16 m)] [globS] [true, true, true, true]) (.val (.bool (eqS (rT (mP m)) (dgT z)))) (LWh lT rT z n m) := by
  unfold givesV; kernel_rfl
theorem zf_z (z : Nat → Int) (i : Nat) (hi : i < 32) : zf (zL32 z) i = z i := by
  unfold zf zL32
  rw [List.getD_eq_getElem?_getD, List.getElem?_map, List.getElem?_range hi]; rfl
theorem zc_z (z : Nat → Int) : zc (zf (zL32 z)) = (List.range 32).map fun i => UInt8.ofNat (z i).toNat := by
  unfold zc
  refine List.map_congr_left fun i hi => ?_
  rw [zf_z z i (by simpa using hi)]
theorem eqS_of {a b : ByteArray} (h : a = b) : eqS a b = true := (eqS_iff a b).2 h
theorem baA (x y : List UInt8) : (⟨x.toArray⟩ : ByteArray) ++ ⟨y.toArray⟩ = ⟨(x ++ y).toArray⟩ := ByteArray.mk_append_mk ..
theorem whole_call (z : Nat → Int) (n m : Int) (hn : 0 ≤ n ∧ n < 256) (hm : 0 ≤ m ∧ m < 65536) {η : Env} {W : World} {vs : List Value} (hr : HR W.heap.size η [globS] W) (hargs : Rs η [cells32 z, .val (.int .u8 n), .val (.int .u16 m)] vs) :
    Calls Tryd.prog 6 vs.toArray W (fun e w' => ∃ v, e = .returned v ∧ v = .bool true ∧ Below W.heap.size W w') := by
  have pl : PLt (zL32 z) (leftT (zf (zL32 z))) (rightT (zf (zL32 z))) := ⟨by unfold zL32; simp, rfl, rfl⟩
  have ek : kW n = n % 33 := by
    unfold kW; rw [show IntKind.i64.wrap n = n by rw [wi64]; omega, Int.tmod_eq_emod_of_nonneg hn.1]
  have ev : kV n = 32 - n % 33 := by unfold kV; rw [ek, wi64]; omega
  have ei : mI m = -m := by unfold mI; rw [wi64, wi64]; omega
  have ep : mP m = 32 + m := by unfold mP; rw [wi64, wi64]; omega
  have hlen : (zc (zf (zL32 z))).length = 32 := by unfold zc; simp
  have k0 : 0 ≤ n % 33 ∧ n % 33 ≤ 32 := by omega
  have l1 : leftT (zf (zL32 z)) (kW n) = ⟨((zc (zf (zL32 z))).take (n % 33).toNat).toArray⟩ := by
    unfold leftT; rw [ek, show wN (n % 33) = n % 33 by unfold wN; split <;> split <;> omega]
  have r1 : rightT (zf (zL32 z)) (kV n) = ⟨((zc (zf (zL32 z))).drop (n % 33).toNat).toArray⟩ := by
    unfold rightT; rw [wR_eq, ev, show wN (32 - n % 33) = 32 - n % 33 by unfold wN; split <;> split <;> omega]
    congr 3; omega
  have l2 : leftT (zf (zL32 z)) (mI m) = noT := by
    unfold leftT; rw [ei, show wN (-m) = 0 by unfold wN; split <;> split <;> omega]; rfl
  have r2 : rightT (zf (zL32 z)) (mI m) = noT := by
    unfold rightT; rw [wR_eq, ei, show wN (-m) = 0 by unfold wN; split <;> split <;> omega, List.drop_of_length_le (by rw [hlen]; decide)]; rfl
  have l3 : leftT (zf (zL32 z)) (mP m) = dgT z := by
    unfold leftT; rw [ep, show wN (32 + m) = 32 by unfold wN; split <;> split <;> omega, List.take_of_length_le (by rw [hlen]; decide), zc_z]; rfl
  have r3 : rightT (zf (zL32 z)) (mP m) = dgT z := by
    unfold rightT; rw [wR_eq, ep, show wN (32 + m) = 32 by unfold wN; split <;> split <;> omega, zc_z]; rfl
  have c1 : leftT (zf (zL32 z)) (kW n) ++ rightT (zf (zL32 z)) (kV n) = dgT z := by
    rw [l1, r1, baA, List.take_append_drop, zc_z]; rfl
  have s1 : (leftT (zf (zL32 z)) (kW n)).size + (rightT (zf (zL32 z)) (kV n)).size ≤ 9223372036854775807 := by
    rw [← ByteArray.size_append, c1]; show ((List.range 32).map fun i => UInt8.ofNat (z i).toNat).toArray.size ≤ _; simp
  refine (callsV (X := mX _) rfl (mX_ct (Raw.or_ok worksG_ok (leftF_ok _ _))) (mX_lp _) 80 (whole_gives (leftT (zf (zL32 z))) (rightT (zf (zL32 z))) z n m) ⟨⟨rfl, rfl⟩, pl, pl, s1, eqS_of c1, pl, eqS_of l2, pl, eqS_of r2, pl, eqS_of l3, pl, trivial⟩ rfl hr hargs).mono fun e w' hq => ?_
  obtain ⟨v, rfl, hR, hb⟩ := hq
  rw [eqS_of r3] at hR
  exact ⟨_, rfl, by simpa only [R] using hR, hb⟩
/-! ### HmacEnds -/
noncomputable def enR (lT rT : LF) : Raw := worksG.or ((leftF lT rT).or sameG)
def nA (n : Int) : Int := n.tmod 40
def nB (n : Int) : Int := IntKind.i64.wrap (32 - n.tmod 40)
def LRd (Z : List Int) (lT rT : LF) (k : Int) : List Prop := [PLt Z lT rT, PLt Z lT rT, (!(eqS (lT k) (lT k))) = false, PLt Z lT rT, PLt Z lT rT, (!(eqS (rT k) (rT k))) = false]
def z1 : ByteArray := ⟨([0] : List UInt8).toArray⟩
def LEn (lT rT : LF) (z : Nat → Int) (n : Int) (a b : ByteArray) : List Prop :=
  LRd (zL32 z) lT rT n ++ LRd (zL32 z) lT rT (nA n) ++ LRd (zL32 z) lT rT (nB n) ++
  [a.size ≤ 9223372036854775806, (eqS a b == (a.toList == b.toList)) = true, a.size ≤ 9223372036854775806, eqS a a = true, a.size + z1.size ≤ 9223372036854775807, a.size ≤ 9223372036854775806, (eqS a (a ++ z1) == false) = true, Pg 0 glL]
theorem ends_gives (lT rT : LF) (z : Nat → Int) (n : Int) (a b : ByteArray) : givesV (topR (mX (enR lT rT)) (run (mX (enR lT rT)) 80) 4 [cells32 z, .val (.int .i64 n), .val (.string a), .val (.string b)] [globS] [false, false, false, false, false, false, true, true, true]) (.bol true) (LEn lT rT z n a b) := by
  unfold givesV; kernel_rfl
theorem ends_call (z : Nat → Int) (n : Int) (a b : ByteArray) (ha : a.size ≤ 140737488355328) {η : Env} {W : World} {vs : List Value} (hr : HR W.heap.size η [globS] W) (hargs : Rs η [cells32 z, .val (.int .i64 n), .val (.string a), .val (.string b)] vs) :
    Calls Tryd.prog 4 vs.toArray W (fun e w' => ∃ v, e = .returned v ∧ v = .bool true ∧ Below W.heap.size W w') := by
  have pl : PLt (zL32 z) (leftT (zf (zL32 z))) (rightT (zf (zL32 z))) := ⟨by unfold zL32; simp, rfl, rfl⟩
  have q : ∀ x : ByteArray, (!(eqS x x)) = false := fun x => by rw [eqS_self]; rfl
  have hs : a.size ≤ 9223372036854775806 := by omega
  have e1 : z1.size = 1 := rfl
  have ne : eqS a (a ++ z1) = false := by
    cases h : eqS a (a ++ z1) with
    | false => rfl
    | true =>
      have := congrArg ByteArray.size ((eqS_iff _ _).1 h)
      rw [ByteArray.size_append, e1] at this
      omega
  refine (callsV (X := mX _) rfl (mX_ct (Raw.or_ok worksG_ok (Raw.or_ok (leftF_ok _ _) sameG_ok))) (mX_lp _) 80 (ends_gives (leftT (zf (zL32 z))) (rightT (zf (zL32 z))) z n a b)
    ⟨pl, pl, q _, pl, pl, q _, pl, pl, q _, pl, pl, q _, pl, pl, q _, pl, pl, q _, hs, beq_self_eq_true _, hs, eqS_self a, by omega, hs, by rw [ne]; rfl, ⟨rfl, rfl⟩, trivial⟩ rfl hr hargs).mono fun e w' hq => ?_
  obtain ⟨v, rfl, hR, hb⟩ := hq
  exact ⟨_, rfl, by simpa only [R] using hR, hb⟩
end Go.Proofs.YtclafmabccbhjaaDoor
