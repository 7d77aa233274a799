/- lustrumlaw09.LexIs answers true for every text and every slice of tokens, and leaves both as they were: lex.All and lex.Show are what the document says (no condition). -/
import Derived.Test.YtahijlmpdmlffaaRows
import Derived.Test.YtahijlmpdmlffaaPx5
import Derived.Test.YtahijlmpdmlffaaPureLexIs
import Derived.WalkKit
import Derived.ProofKit
import Derived.OpenShut
import Derived.ShutString
import Derived.ChangeOld
import Derived.Below
import Derived.SizedLaws
import Derived.Deep.Slices
import Derived.Deep.Strs
namespace Go.Proofs.Ytahijlmpdmlffaa.lexIs
open Go.ChangeShapes Go.WideShapes Go.ChangeAt Go.RowKit
open Go.ChangeMaps (open_string shut_string)
open Go.Proofs.Ytahijlmpdmlffaa.P Go.Proofs.YtahijlmpdmlffaaW.PrintWords
set_option linter.unusedVariables false
theorem own : ownKnob Try.prog.godebug = none := by kernel_rfl
theorem laidOut : laidOutB Try.prog = true := by kernel_rfl
theorem cells32 : Try.prog.cellsOf 32 = 3 := by kernel_rfl
theorem bytes32 : Try.prog.bytesOf 32 = 32 := by kernel_rfl

theorem add_two (a : Addr) (m j : Nat) : (a.add m).add j = a.add (m + j) := by
  unfold Addr.add
  by_cases h1 : m = 0 <;> by_cases h2 : j = 0 <;> simp [h1, h2, Nat.add_assoc]

theorem tok_at {H : Type} {enc : TypeId × Value → H} {W : World} {a : Addr} {i n : Nat} {x : DataW H × List MemPlace} {sp : Nat → Bool} {held : Bool}
    (h : ∃ cs', W.cells? 0 (a.add (i * Try.prog.cellsOf 32)) (Try.prog.cellsOf 32) = some cs' ∧ DataW.trod enc Try.prog W 0 sp held n 32 cs' = some x) :
    ∃ t : S32, W.cell? (a.add (i * 3 + 0)) = some (.int .i64 t.f0) ∧ W.cell? (a.add (i * 3 + 1)) = some (.int .i64 t.f1) ∧ W.cell? (a.add (i * 3 + 2)) = some (.string t.f2) := by
  obtain ⟨cs, h1, h2⟩ := h
  rw [cells32] at h1
  obtain ⟨y0, y1, y2, m, _, hl, e0, e1, e2⟩ := Deep.trod_struct3 Try.underlying32 h2
  obtain ⟨_, hlen, hc⟩ := World.cells?_some h1
  match cs, hlen with
  | [c0, c1, c2], _ =>
    have k3 : Try.prog.cellsOf 3 = 1 := by kernel_rfl
    have k9 : Try.prog.cellsOf 9 = 1 := by kernel_rfl
    obtain ⟨x0, q0, _⟩ := DataW.trod_int Try.underlying3 (show DataW.trod enc Try.prog W 0 sp held m 3 (([c0, c1, c2].drop 0).take (Try.prog.cellsOf 3)) = some y0 from e0)
    obtain ⟨x1, q1, _⟩ := DataW.trod_int Try.underlying3 (show DataW.trod enc Try.prog W 0 sp held m 3 (([c0, c1, c2].drop 1).take (Try.prog.cellsOf 3)) = some y1 from e1)
    obtain ⟨x2, q2, _⟩ := DataW.trod_string Try.underlying9 (show DataW.trod enc Try.prog W 0 sp held m 9 (([c0, c1, c2].drop 2).take (Try.prog.cellsOf 9)) = some y2 from e2)
    rw [k3] at q0 q1
    rw [k9] at q2
    simp at q0 q1 q2
    subst q0 q1 q2
    refine ⟨⟨x0, x1, x2⟩, ?_, ?_, ?_⟩
    · have := hc 0 (by omega)
      rwa [add_two] at this
    · have := hc 1 (by omega)
      rwa [add_two] at this
    · have := hc 2 (by omega)
      rwa [add_two] at this

theorem toks {H : Type} {enc : TypeId × Value → H} {W : World} {a : Addr} {len m n : Nat} {D : Nat → DataW H} {Pl : Nat → List MemPlace} {sp : Nat → Bool} {held : Bool} (hm : len ≤ m) (hmax : len ≤ 9223372036854775807)
    (h : ∀ i, i < m → ∃ cs', W.cells? 0 (a.add (i * Try.prog.cellsOf 32)) (Try.prog.cellsOf 32) = some cs' ∧ DataW.trod enc Try.prog W 0 sp held n 32 cs' = some (D i, Pl i)) :
    ∃ l : List S32, l.length = len ∧ Kd.C k32 W (some a) len l := by
  have inh : Inhabited S32 := ⟨z32⟩
  obtain ⟨f, hf⟩ := Deep.choose_lt (α := S32) (n := len) (p := fun i t => W.cell? (a.add (i * 3 + 0)) = some (.int .i64 t.f0) ∧ W.cell? (a.add (i * 3 + 1)) = some (.int .i64 t.f1) ∧ W.cell? (a.add (i * 3 + 2)) = some (.string t.f2)) (fun i hi => tok_at (h i (by omega)))
  refine ⟨(List.range len).map f, by simp, by simp, hmax, fun _ => ⟨a, rfl, fun j p hj => ?_⟩⟩
  have hj2 : j < len ∧ p = f j := by
    have hl := (List.getElem?_eq_some_iff.1 hj).1
    simp at hl
    refine ⟨hl, ?_⟩
    rw [List.getElem?_map, List.getElem?_range hl] at hj
    exact (Option.some.inj hj).symm
  obtain ⟨hjl, rfl⟩ := hj2
  obtain ⟨g0, g1, g2⟩ := hf j hjl
  refine ⟨[.int .i64 (f j).f0, .int .i64 (f j).f1, .string (f j).f2], rfl, k32_mk W (f j), fun i u hu => ?_⟩
  match i, hu with
  | 0, hu => injection hu with hu; rw [← hu]; exact g0
  | 1, hu => injection hu with hu; rw [← hu]; exact g1
  | 2, hu => injection hu with hu; rw [← hu]; exact g2

set_option maxRecDepth 100000 in
theorem lifted (os : Os) (started : os.Started) (H : Type) (enc : TypeId × Value → H) :
    ReturnsInHanded {} Try.checked os 3 .any (Rows.lexIsSpec.pre6 enc Try.prog Try.f3 Rows.lexIsRow.domain false) (Rows.lexIsSpec.post enc Try.prog Try.f3 false true false false) := by
  refine returnsInHanded_of_change_sized (C := Try.checked) own started (by kernel_rfl) Try.func3
    (ChangeSpec.witness6 (enc := enc) (C := Try.checked) false ⟨#[], #[.string ByteArray.empty, .slice none 0 0], []⟩ 8 (by kernel_rfl) (by kernel_rfl) (by kernel_rfl) (by kernel_rfl)) ?_
  intro W base args ds gs before hval0 hW hcnd hsz0 _
  have hsz : (DataW.weightsEach Try.prog (Try.f3.params.toList ++ Rows.lexIsSpec.plain.varTypes Try.prog) (ds ++ gs)).all (· ≤ reachBytes) = true := hsz0
  have hval : ∀ (j : Nat) t v, Try.f3.params[j]? = some t → args[j]? = some v → Value.okWide Try.prog W .any base t v := hval0
  have hW' := hW
  obtain ⟨p, q, hA0, hV, rfl, hfz, hnd⟩ := hW
  have hA : DataW.TrodAll enc Try.prog W 0 (fun _ => true) true Try.f3.params.toList args.toList ds p := hA0
  rw [Try.params3] at hA hval hsz
  obtain ⟨v0, vs0, d0, ds0, p0, q0, hargs, rfl, rfl, h0, r0⟩ := trodAll_cons hA
  obtain ⟨v1, vs1, d1, ds1, p1, q1, rfl, rfl, rfl, h1, r1⟩ := trodAll_cons r0
  obtain ⟨rfl, rfl, rfl⟩ := trodAll_nil r1
  obtain rfl : args = #[v0, v1] := by cases args; simp_all
  obtain ⟨rfl, rfl⟩ := trodVars_none hV
  obtain ⟨a0, rfl, rfl, rfl, y0⟩ := open_string Try.underlying9 (hval 0 9 v0 rfl rfl) h0
  have w0 : a0.size ≤ 140737488351232 := by
    have z := sized_string hsz (j := 0) (t := 9) rfl rfl
    rw [Array.length_toList] at z
    exact z
  obtain ⟨A1, len1, cap1, rfl⟩ := okWide_slice Try.underlying22 (hval 1 22 v1 rfl rfl)
  have k1 := h1
  have lt1 : ∀ x ∈ p1, x.block < W.heap.size := by obtain ⟨m, hm⟩ := k1; exact DataW.trod_lt m _ _ _ hm
  obtain ⟨l, hl, hC, hcap, hbound⟩ : ∃ l : List S32, l.length = len1 ∧ Kd.C k32 W A1 len1 l ∧ len1 ≤ cap1 ∧ len1 ≤ 4398046511104 := by
    obtain ⟨fuel, hf⟩ := h1
    rcases Deep.open_slice Try.underlying22 hf with ⟨hcs, _⟩ | ⟨x, ln, cp, m, n, D, Pl, hcs, _, hle, hcm, hm, hx, hel⟩
    · simp [Value.cells] at hcs
      obtain ⟨rfl, rfl, rfl⟩ := hcs
      exact ⟨[], rfl, Kd.C_nil _ _, by omega, by omega⟩
    · simp [Value.cells] at hcs
      obtain ⟨rfl, rfl, rfl⟩ := hcs
      simp only [Prod.mk.injEq] at hx
      obtain ⟨rfl, _⟩ := hx
      have hs := sized_slice hsz (j := 1) (t := 22) (e := 32) rfl rfl Try.underlying22
      rw [bytes32] at hs
      simp only [List.length_map, List.length_range, reachBytes] at hs
      have hlm : len1 ≤ m := by rw [hm]; simp; exact hle
      unfold maxLen at hcm
      obtain ⟨l, e1, e2⟩ := toks hlm (by omega) hel
      exact ⟨l, e1, e2, hle, by omega⟩
  clear hA0 hval0 hsz0 hsz
  subst hl
  obtain ⟨k, hk⟩ := Pure.LexIs a0 l w0 hbound
  refine (P.lustrumlaw09_LexIs.calls k a0 A1 cap1 l true W hC hcap hk).mono fun e W' ⟨he, bel⟩ => ?_
  subst he
  exact ⟨_, rfl, _, _, _, [], _, [], hW', trodAll_mk1 (shut_bool Try.underlying4 _), (trodAll_cons_mk (shut_string Try.underlying9 y0) (trodAll_cons_mk (Below.trod laidOut (by kernel_rfl) (of_decide_eq_true (by kernel_rfl)) k1 bel lt1) trodAll_mk0)), rfl, bel.frame _, fun h => by cases h⟩
theorem over : Rows.lexIsRow.holds Try.pinned (OpenSpec.ofChange Rows.lexIsSpec) :=
  OpenClaim.holds_of_wide 3 Try.f3 rfl rfl rfl rfl rfl rfl rfl ⟨rfl, rfl, rfl, rfl, rfl⟩ rfl rfl rfl rfl rfl (by kernel_rfl) Try.func3 (by kernel_rfl)
    (of_decide_eq_true (by kernel_rfl)) (by unfold Func.isWrapper; first | (rw [if_pos (by decide +kernel)]; kernel_rfl) | (rw [if_neg (by decide +kernel)]; exact ⟨rfl, rfl⟩))
    (fun os started H enc _ => lifted os started H enc)
theorem proved : Rows.LexIsSaid := over
#print axioms proved
end Go.Proofs.Ytahijlmpdmlffaa.lexIs
namespace Go.Proofs.Ytahijlmpdmlffaa
/-- The row, under a short name, for the claim. -/
theorem lexIs_holds : Rows.LexIsSaid := lexIs.proved
end Go.Proofs.Ytahijlmpdmlffaa
