/-
  Walks of functions, reckoned through, and what they give (part W13c). No condition beyond what each says. By an AI agent.
-/
import Derived.Test.YthmndlkhmihdhaaW13b
import Derived.Test.YthmndlkhmihdhaaR13
namespace Go.Proofs.Ythmndlkhmihdhaa
open Go.Ex
open Go.RowKit (Below)
set_option linter.unusedVariables false
set_option linter.unusedSimpArgs false

def pB (b : Bool) : ByteArray := ⟨(pL b).toArray⟩
def nB (sub : Nat) (n : Int) : ByteArray := ⟨(nL sub n).toArray⟩
def rB (a b : Int) : ByteArray := ⟨(rL a b).toArray⟩
def strG (v : ByteArray → SV) (args : List SV) : Option (SV × Prop) :=
  match SV.vals args with
  | some [.string s] => some (v s, s.size ≤ 4611686018427387904)
  | _ => none
theorem strG_ok {f : FuncId} (v : ByteArray → SV) (hp : ∀ s, (v s).pln = true) (h : ∀ (s : ByteArray), s.size ≤ 4611686018427387904 → ∀ (w : World), Calls Try.prog f #[.string s] w (fun e w' => e = .returned (v s).toV ∧ Below w.heap.size w w')) :
    ∀ args s p, strG v args = some (s, p) → p → s.pln = true ∧ ∀ (w : World) (vs : List Value), Rs [] args vs →
    Calls Try.prog f vs.toArray w (fun e w' => e = .returned s.toV ∧ Below w.heap.size w w') := by
  intro args s p hg hpp
  unfold strG at hg
  split at hg
  · rename_i b hl
    simp only [Option.some.injEq, Prod.mk.injEq] at hg
    obtain ⟨rfl, rfl⟩ := hg
    refine ⟨hp b, fun w vs hv => ?_⟩
    have e := SV.vals_R hl hv
    subst e
    exact h b hpp w
  · simp at hg
def aggG (v : List Value → Option SV) (args : List SV) : Option (SV × Prop) :=
  match args with
  | [.agg l] =>
    match SV.vals l with
    | some us => match v us with
      | some s => some (s, True)
      | none => none
    | none => none
  | _ => none
theorem aggG_ok {f : FuncId} (v : List Value → Option SV) (hp : ∀ us s, v us = some s → s.pln = true) (h : ∀ us s, v us = some s → ∀ (w : World), Calls Try.prog f #[.agg us.toArray] w (fun e w' => e = .returned s.toV ∧ Below w.heap.size w w')) :
    ∀ args s p, aggG v args = some (s, p) → p → s.pln = true ∧ ∀ (w : World) (vs : List Value), Rs [] args vs →
    Calls Try.prog f vs.toArray w (fun e w' => e = .returned s.toV ∧ Below w.heap.size w w') := by
  intro args s p hg _
  unfold aggG at hg
  split at hg
  · rename_i l
    split at hg
    · rename_i us hl
      split at hg
      · rename_i s' hv
        simp only [Option.some.injEq, Prod.mk.injEq] at hg
        obtain ⟨rfl, rfl⟩ := hg
        refine ⟨hp _ _ hv, fun w vs hvs => ?_⟩
        obtain ⟨x, r, rfl, hv1, hr⟩ := hvs.cons_inv
        simp only [Rs] at hr; subst hr
        obtain ⟨ys, rfl, hus⟩ := hv1
        have e := SV.vals_R hl hus
        have e2 : ys = us.toArray := Array.toList_inj.1 (by simpa using e)
        subst e2
        exact h _ _ hv w
      · simp at hg
    · simp at hg
  · simp at hg
def pSV (s : ByteArray) : SV := .tup [.agg [.val (.bool (pV s))], .val (.int .i64 (bad s 5 1))]
def fSV (s : ByteArray) : SV := .tup [.agg [.val (.int .u64 (nV s 6))], .val (.int .i64 (bad s 6 10))]
def kSV (s : ByteArray) : SV := .tup [.agg [.val (.int .u64 (nV s 7))], .val (.int .i64 (bad s 7 10))]
def rSV (s : ByteArray) : SV := .tup [.agg [.val (.int .i64 (rV s)), .val (.int .i64 (qV s))], .val (.int .i64 (bad s 8 2))]
def epG (us : List Value) : Option SV := match us with | [.bool b] => some (.tup [.val (.string (pB b)), .num .i64 0]) | _ => none
def xpG (us : List Value) : Option SV := match us with | [.bool b] => some (.val (.string (pB b))) | _ => none
def enG (sub : Nat) (us : List Value) : Option SV := match us with | [.int .u64 n] => some (.tup [.val (.string (nB sub n)), .num .i64 0]) | _ => none
def xnG (sub : Nat) (us : List Value) : Option SV := match us with | [.int .u64 n] => some (.val (.string (nB sub n))) | _ => none
def erG (us : List Value) : Option SV := match us with | [.int .i64 a, .int .i64 b] => some (.tup [.val (.string (rB a b)), .val (.int .i64 (rE a b))]) | _ => none
theorem epG_ok (us : List Value) (s : SV) (h : epG us = some s) : ∃ b, us = [.bool b] ∧ s = .tup [.val (.string (pB b)), .num .i64 0] := by
  unfold epG at h; split at h <;> simp at h; exact ⟨_, rfl, h.symm⟩
theorem xpG_ok (us : List Value) (s : SV) (h : xpG us = some s) : ∃ b, us = [.bool b] ∧ s = .val (.string (pB b)) := by
  unfold xpG at h; split at h <;> simp at h; exact ⟨_, rfl, h.symm⟩
theorem enG_ok (sub : Nat) (us : List Value) (s : SV) (h : enG sub us = some s) : ∃ n, us = [.int .u64 n] ∧ s = .tup [.val (.string (nB sub n)), .num .i64 0] := by
  unfold enG at h; split at h <;> simp at h; exact ⟨_, rfl, h.symm⟩
theorem xnG_ok (sub : Nat) (us : List Value) (s : SV) (h : xnG sub us = some s) : ∃ n, us = [.int .u64 n] ∧ s = .val (.string (nB sub n)) := by
  unfold xnG at h; split at h <;> simp at h; exact ⟨_, rfl, h.symm⟩
theorem erG_ok (us : List Value) (s : SV) (h : erG us = some s) : ∃ a b, us = [.int .i64 a, .int .i64 b] ∧ s = .tup [.val (.string (rB a b)), .val (.int .i64 (rE a b))] := by
  unfold erG at h; split at h <;> simp at h; exact ⟨_, _, rfl, h.symm⟩
noncomputable def X0 : Cx := conned repC
set_option maxRecDepth 1000000 in
theorem works_r : gives (callR X0 (run X0 100) 16 [] [] []) (.bol true) [] := by unfold gives; kernel_rfl
noncomputable def worksT : Go.Ex.Told Try.prog := ⟨16, [], .bol true, fun _ _ h => con_gives _ _ _ works_r trivial rfl h⟩
noncomputable def decC : Con Try.prog :=
  (Con.ofVals 18 (strG pSV) (strG_ok pSV (fun _ => rfl) p_calls)).or ((Con.ofVals 28 (strG pSV) (strG_ok pSV (fun _ => rfl) rp_calls)).or
  ((Con.ofVals 19 (strG fSV) (strG_ok fSV (fun _ => rfl) f_calls)).or ((Con.ofVals 29 (strG fSV) (strG_ok fSV (fun _ => rfl) rf_calls)).or
  ((Con.ofVals 20 (strG kSV) (strG_ok kSV (fun _ => rfl) k_calls)).or ((Con.ofVals 30 (strG kSV) (strG_ok kSV (fun _ => rfl) rk_calls)).or
  ((Con.ofVals 21 (strG rSV) (strG_ok rSV (fun _ => rfl) r_calls)).or (Con.ofVals 31 (strG rSV) (strG_ok rSV (fun _ => rfl) rr_calls))))))))
noncomputable def encC : Con Try.prog :=
  (Con.ofVals 8 (aggG epG) (aggG_ok epG (fun us s h => by obtain ⟨b, rfl, rfl⟩ := epG_ok us s h; rfl) (fun us s h w => by obtain ⟨b, rfl, rfl⟩ := epG_ok us s h; exact ep_calls b w))).or
  ((Con.ofVals 11 (aggG xpG) (aggG_ok xpG (fun us s h => by obtain ⟨b, rfl, rfl⟩ := xpG_ok us s h; rfl) (fun us s h w => by obtain ⟨b, rfl, rfl⟩ := xpG_ok us s h; exact xp_calls b w))).or
  ((Con.ofVals 9 (aggG (enG 6)) (aggG_ok _ (fun us s h => by obtain ⟨b, rfl, rfl⟩ := enG_ok 6 us s h; rfl) (fun us s h w => by obtain ⟨b, rfl, rfl⟩ := enG_ok 6 us s h; exact ef_calls b w))).or
  ((Con.ofVals 10 (aggG (enG 7)) (aggG_ok _ (fun us s h => by obtain ⟨b, rfl, rfl⟩ := enG_ok 7 us s h; rfl) (fun us s h w => by obtain ⟨b, rfl, rfl⟩ := enG_ok 7 us s h; exact ek_calls b w))).or
  ((Con.ofVals 12 (aggG (xnG 6)) (aggG_ok _ (fun us s h => by obtain ⟨b, rfl, rfl⟩ := xnG_ok 6 us s h; rfl) (fun us s h w => by obtain ⟨b, rfl, rfl⟩ := xnG_ok 6 us s h; exact xf_calls b w))).or
  ((Con.ofVals 13 (aggG (xnG 7)) (aggG_ok _ (fun us s h => by obtain ⟨b, rfl, rfl⟩ := xnG_ok 7 us s h; rfl) (fun us s h w => by obtain ⟨b, rfl, rfl⟩ := xnG_ok 7 us s h; exact xk_calls b w))).or
  ((Con.ofVals 14 (aggG erG) (aggG_ok _ (fun us s h => by obtain ⟨a, b, rfl, rfl⟩ := erG_ok us s h; rfl) (fun us s h w => by obtain ⟨a, b, rfl, rfl⟩ := erG_ok us s h; exact er_calls a b w))).or
  ((Con.ofVals 15 (aggG erG) (aggG_ok _ (fun us s h => by obtain ⟨a, b, rfl, rfl⟩ := erG_ok us s h; rfl) (fun us s h w => by obtain ⟨a, b, rfl, rfl⟩ := erG_ok us s h; exact xr_calls a b w))).or
  (Con.told [worksT]))))))))
noncomputable def allC : Con Try.prog := decC.or encC
noncomputable def Y : Cx := conned allC
end Go.Proofs.Ythmndlkhmihdhaa
