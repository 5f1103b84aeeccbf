/-
  A reckoner of programs and its soundness, part ExE2: what it reckons is what 'Calls' says. No condition. By an AI agent.
-/
import Derived.Test.YtmngnhbnicgjfaaExE
import Derived.Lib.ConvBytes
namespace Go.Ex
open Go.RowKit (Below)

/-! ### a string to bytes -/
def byteSV (told : Bool) (b : UInt8) : SV := if told then .num .u8 b.toNat else .val (.int .u8 b.toNat)
def opStringToBytes (P : Program) (hp : List SO) (src dst : TypeId) (x : SV) : OR :=
  match x, P.underlying src, P.underlying dst with
  | .bts told l, some .string, some (.slice e) =>
    match P.underlying e with
    | some (.int .u8) => .mem (.sle hp.length 0 l.length (hp.length + 1)) (hp ++ [.cells true (l.map (byteSV told))] ++ [.dead]) .tt
    | _ => .bad
  | _, _, _ => .bad

theorem bytesWorld_below (w : World) (e : TypeId) (s : ByteArray) : Below w.heap.size w (Lib.bytesWorld w e s) := by
  refine ⟨?_, ?_, ?_, ?_, fun k hk => Lib.bytesWorld_at_old w e s k hk⟩
  · rfl
  · rfl
  · rfl
  · rw [Lib.bytesWorld_size]; omega

theorem opStringToBytes_ok {P : Program} {η : Env} {hp : List SO} {src dst : TypeId} {x : SV} {vx : Value} (hx : R η x vx) :
    OrOk η hp (fun w => (convert src dst vx).run P w) (opStringToBytes P hp src dst x) := by
  unfold opStringToBytes
  split
  · rename_i told l e hs hd
    simp only [R] at hx
    subst hx
    split
    · rename_i he
      intro _ B w hr hB
      have hsz : (⟨l.toArray⟩ : ByteArray).size = l.length := by show l.toArray.size = _; simp
      have hcap : l.length ≤ grownCap w l.length 0 e := by
        unfold grownCap; simp [Question.cut]
      refine ⟨.slice (some ⟨w.heap.size, 0, none⟩) l.length (grownCap w l.length 0 e), Lib.bytesWorld w e ⟨l.toArray⟩, [.pointer (some ⟨w.heap.size, 0, none⟩), .slice none 0 (grownCap w l.length 0 e)], ?_, ?_, ?_, ?_⟩
      · have := Lib.run_convert_string_bytes (P := P) w src dst e ⟨l.toArray⟩ hs hd he
        rw [hsz] at this
        exact this
      · simp only [R]
        exact ⟨w.heap.size, 0, _, by rw [← hr.len]; simp, by rw [← hr.len]; simp, hcap, rfl⟩
      · have hg := hr.grow hB (bytesWorld_below w e ⟨l.toArray⟩) (by rw [Lib.bytesWorld_size]; omega) (l.map (byteSV told)) (fun i s hi => by
          rw [List.getElem?_map] at hi
          obtain ⟨b, hb, rfl⟩ := Option.map_eq_some_iff.1 hi
          have hlt : i < l.length := (List.getElem?_eq_some_iff.1 hb).1
          have hc := Lib.bytesWorld_cell w e ⟨l.toArray⟩ i (by rw [hsz]; exact hlt)
          have hget : (l.toArray.toList.getD i 0) = b := by
            simp [List.getD, hb]
          refine ⟨⟨.int .u8 b.toNat, ?_, ?_, rfl⟩, fun _ => ?_⟩
          · rw [hc]; simp only [] ; rw [hget]
          · unfold byteSV; split <;> simp only [R]
          · have hn := Lib.bytesWorld_at_new w e ⟨l.toArray⟩
            simp only [World.frozen?, hn]
            have : ¬ (Lib.bytesCells w e ⟨l.toArray⟩).size ≤ i := by
              simp [Lib.bytesCells]; omega
            simp [this])
        have := hg.pad (μ := [.slice none 0 (grownCap w l.length 0 e)])
        simpa using this
      · exact (bytesWorld_below w e _).mono hB
    · trivial
  · trivial

/-! ### a slice, laid -/
def opBuildSlice (P : Program) (hp : List SO) (ty : TypeId) (len : Nat) (parts : List (Nat × SV)) : OR :=
  match P.underlying ty with
  | some (.slice e) =>
    match P.info? e with
    | some ie =>
      match ie.zero with
      | some z =>
        if len * ie.size ≤ 2 ^ 24 then
          match svFill (fun i => some (i * ie.size, ie.size)) (((Array.range (len * ie.size)).map (z.cells[· % z.cells.size]!)).toList.map ofV1) parts with
          | some l => if l.all SV.one then .mem (.slc hp.length 0 len len) (hp ++ [.cells true l]) .tt else .bad
          | none => .bad
        else .bad
      | none => .bad
    | none => .bad
  | _ => .bad

theorem Rs.ones {η : Env} : ∀ {l : List SV} {vs : List Value}, l.all SV.one = true → Rs η l vs → ∀ v ∈ vs, v.oneCell' = true
  | [], vs, _, h => by simp only [Rs] at h; subst h; simp
  | s :: l, vs, ha, h => by
    obtain ⟨v, r, rfl, hv, hr⟩ := h.cons_inv
    simp only [List.all_cons, Bool.and_eq_true] at ha
    intro x hx
    rcases List.mem_cons.1 hx with rfl | hx
    · exact SV.one_R ha.1 hv
    · exact Rs.ones ha.2 hr x hx

theorem opBuildSlice_ok {P : Program} {η : Env} {hp : List SO} {ty : TypeId} {len : Nat} {parts : List (Nat × SV)} {vparts : Array (Nat × Value)}
    (h1 : parts.map (·.1) = vparts.toList.map (·.1)) (h2 : Rs η (parts.map (·.2)) (vparts.toList.map (·.2))) :
    OrOk η hp (fun w => (Instr.buildSlice ty len vparts).run P w) (opBuildSlice P hp ty len parts) := by
  unfold opBuildSlice
  split
  · rename_i e hu
    split
    · rename_i ie hi
      split
      · rename_i z hz
        split
        · rename_i hle
          split
          · rename_i l hl
            split
            · rename_i hone
              intro _ B w hr hB
              obtain ⟨us, hus, hR⟩ := svFill_ok parts vparts.toList _ ((Array.range (len * ie.size)).map (z.cells[· % z.cells.size]!)) l h1 h2 (ofV1s_R η _) hl
              have hz' : (zeroValue e).run P w = .ok z w := by simp [zeroValue, typeInfo, hi, hz]
              have hsz : (sizeOf e).run P w = .ok ie.size w := by simp [sizeOf, typeInfo, hi]
              refine ⟨.slice (some ⟨w.heap.size, 0, none⟩) len len, w.alloc (.cells us e), [.pointer (some ⟨w.heap.size, 0, none⟩)], ?_, ?_, ?_, ?_⟩
              · have hng : ¬ len * ie.size > 2 ^ 24 := Nat.not_lt.2 hle
                by_cases h0 : len * ie.size = 0
                · rw [h0] at hus
                  simp [Array.range_zero'] at hus
                  simp [Instr.buildSlice, run_underlying hu, hsz, h0, hus, newRow, Array.range_zero']
                · simp [Instr.buildSlice, run_underlying hu, hsz, hng, h0, hz', hus, newRow]
              · simp only [R]
                exact ⟨w.heap.size, 0, by rw [← hr.len]; simp, by simp⟩
              · have := hr.alloc hB l us.toList e hR (Rs.ones hone hR)
                simpa using this
              · exact (Below.refl _ _).alloc hB _
            · trivial
          · trivial
        · trivial
      · trivial
    · trivial
  · trivial
end Go.Ex
