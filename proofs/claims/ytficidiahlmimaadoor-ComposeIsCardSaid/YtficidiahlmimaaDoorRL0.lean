/- What the laid table gives the walks: GInv. -/
import Derived.Test.YtficidiahlmimaaDoorRows
import Derived.Test.YtficidiahlmimaaDoorRx2
import Derived.WalkKit
import Derived.ProofKit
import Derived.OpenShut
import Derived.ShutString
import Derived.ChangeOld
import Derived.Below
import Derived.SizedLaws
import Derived.LaidMore
import Derived.Stop.Joined
import Derived.MakeChecks
import Derived.Lib.SmallJoins
namespace Go.Proofs.YtficidiahlmimaaDoor.L
open Go.ChangeShapes Go.WideShapes Go.ChangeAt Go.RowKit Go.Joins
open Go.ChangeMaps (open_string shut_string)
open Go.Proofs.YtficidiahlmimaaDoor.P Go.Proofs.YtficidiahlmimaaDoorW.PrintWords
theorem own : ownKnob Tryd.prog.godebug = none := by kernel_rfl
theorem laidOut : laidOutB Tryd.prog = true := by kernel_rfl

section
variable {H : Type} {enc : TypeId × Value → H} {P : Program} {w : World} {base : Nat} {spare : Nat → Bool} {held : Bool} {fuel : Nat} {t : TypeId} {cs : List Value} {p : List MemPlace}
theorem arr {n k : Nat} {e : TypeId} {ds : List (DataW H)} (ht : P.underlying t = some (.array n e)) (hk : P.cellsOf e = k) (hc : P.cellsOf t = n * k) (h : DataW.trod enc P w base spare held fuel t cs = some (.agg ds, p)) :
    cs.length = n * k ∧ ds.length = n ∧ ∀ i, i < n → ∃ d m q, ds[i]? = some d ∧ DataW.trod enc P w base spare held m e ((cs.drop (i * k)).take k) = some (d, q) := by
  obtain ⟨xs, m, _, hx, hl, hn, hel⟩ := DataW.trod_array ht h
  simp only [Prod.mk.injEq, DataW.agg.injEq] at hx
  obtain ⟨rfl, _⟩ := hx
  refine ⟨by omega, by simpa using hn, fun i hi => ?_⟩
  have h1 := hel i hi
  have hlt : i < xs.length := by omega
  rw [hk, List.getElem?_eq_getElem hlt] at h1
  exact ⟨(xs[i]).1, m, (xs[i]).2, by simp [hlt], h1⟩
theorem ints_row {n : Nat} {e : TypeId} {ki : IntKind} {l : List Int} (ht : P.underlying t = some (.array n e)) (he : P.underlying e = some (.int ki)) (hk : P.cellsOf e = 1) (hc : P.cellsOf t = n)
    (h : DataW.trod enc P w base spare held fuel t cs = some (.agg (l.map fun x => .lit (.int ki x)), p)) : cs = l.map fun x => .int ki x := by
  obtain ⟨h1, h2, h3⟩ := arr ht hk (by omega) h
  simp only [List.length_map] at h2
  refine List.ext_getElem? fun i => ?_
  by_cases hi : i < n
  · obtain ⟨d, m, q, e1, e2⟩ := h3 i hi
    obtain ⟨z, e3, e4, _⟩ := DataW.trod_int he e2
    simp only [Prod.mk.injEq] at e4
    have hlt : i < cs.length := by omega
    have hlt' : i < l.length := by omega
    rw [Nat.mul_one, List.drop_eq_getElem_cons hlt] at e3
    simp only [List.take_succ_cons, List.take_zero, List.cons.injEq, and_true] at e3
    rw [List.getElem?_map, List.getElem?_eq_getElem hlt'] at e1
    simp only [Option.map_some, Option.some.injEq] at e1
    rw [e4.1] at e1
    injection e1 with e1
    injection e1 with _ e1
    rw [List.getElem?_eq_getElem hlt, List.getElem?_map, List.getElem?_eq_getElem hlt', e3, ← e1]
    rfl
  · rw [List.getElem?_eq_none (by omega), List.getElem?_eq_none (by simp; omega)]
theorem texts_row {n : Nat} {e : TypeId} {l : List ByteArray} (ht : P.underlying t = some (.array n e)) (he : P.underlying e = some .string) (hk : P.cellsOf e = 1) (hc : P.cellsOf t = n)
    (h : DataW.trod enc P w base spare held fuel t cs = some (.agg (l.map fun x => .lit (.string x.data.toList)), p)) : cs = l.map fun x => .string x := by
  obtain ⟨h1, h2, h3⟩ := arr ht hk (by omega) h
  simp only [List.length_map] at h2
  refine List.ext_getElem? fun i => ?_
  by_cases hi : i < n
  · obtain ⟨d, m, q, e1, e2⟩ := h3 i hi
    obtain ⟨z, e3, e4, _⟩ := DataW.trod_string he e2
    simp only [Prod.mk.injEq] at e4
    have hlt : i < cs.length := by omega
    have hlt' : i < l.length := by omega
    rw [Nat.mul_one, List.drop_eq_getElem_cons hlt] at e3
    simp only [List.take_succ_cons, List.take_zero, List.cons.injEq, and_true] at e3
    rw [List.getElem?_map, List.getElem?_eq_getElem hlt'] at e1
    simp only [Option.map_some, Option.some.injEq] at e1
    rw [e4.1] at e1
    injection e1 with e1
    injection e1 with e1
    have : z = l[i] := by
      cases z; cases hz : l[i]
      rw [hz] at e1
      congr 1
      exact Array.toList_inj.1 e1.symm
    rw [List.getElem?_eq_getElem hlt, List.getElem?_map, List.getElem?_eq_getElem hlt', e3, ← this]
    rfl
  · rw [List.getElem?_eq_none (by omega), List.getElem?_eq_none (by simp; omega)]
end

theorem gShared : Tryd.prog.globalNamed "lustrum/allen.shared" = some 0 := by kernel_rfl
theorem tShared : (Tryd.prog.globals[0]?).map (·.type) = some 48 := by kernel_rfl
noncomputable abbrev laid1 : List (String × DataW Unit) := [("lustrum/allen.shared", Rows.laid_lustrum_allen_shared)]

theorem var_block {P : Program} {w : World} {n : String} {g : Nat} {cs : Array Value} (hg : P.globalNamed n = some g) (h : w.var? P n = some cs) : ∃ t f, w.heap[g]? = some (.cells cs t f) := by
  unfold World.var? at h
  rw [hg] at h
  simp only [Option.bind_some] at h
  split at h
  · rename_i cs' t f e
    cases h
    exact ⟨t, f, e⟩
  · cases h

theorem of_laid {W : World} (h : laidMetH Tryd.prog laid1 W) : GInv W := by
  rw [MakeChecks.laidMetH_plain _ _ _ (by kernel_rfl)] at h
  obtain ⟨ps, ⟨g0, t0, cs0, f0, p0, q0, hg0, ht0, hv0, hd0, _, _⟩, _, _⟩ := h
  obtain rfl := Option.some.inj (gShared.symm.trans hg0)
  obtain rfl := Option.some.inj (tShared.symm.trans ht0)
  obtain ⟨ty0, fz0, b0⟩ := var_block hg0 hv0
  have e0 : cs0 = sharedA := by
    obtain ⟨hl, _, hr⟩ := arr (n := 3) (k := 3) Tryd.underlying48 (by kernel_rfl) (by kernel_rfl) hd0
    obtain ⟨d, m, q, a1, a2⟩ := hr 0 (by omega)
    obtain ⟨d', m', q', b1, b2⟩ := hr 1 (by omega)
    obtain ⟨d'', m'', q'', c1, c2⟩ := hr 2 (by omega)
    cases a1
    cases b1
    cases c1
    have r0 := ints_row (l := [2, 7, 8]) Tryd.underlying47 Tryd.underlying3 (by kernel_rfl) (by kernel_rfl) a2
    have r1 := ints_row (l := [3, 6, 9]) Tryd.underlying47 Tryd.underlying3 (by kernel_rfl) (by kernel_rfl) b2
    have r2 := ints_row (l := [4, 5, 10]) Tryd.underlying47 Tryd.underlying3 (by kernel_rfl) (by kernel_rfl) c2
    refine Array.toList_inj.1 ?_
    generalize cs0.toList = l at hl r0 r1 r2
    match l, hl with
    | [x0, x1, x2, x3, x4, x5, x6, x7, x8], _ =>
      simp at r0 r1 r2
      simp [sharedA, r0, r1, r2]
  subst e0
  exact ⟨_, _, b0⟩

/-- The door's own heap meets the condition. -/
theorem door_met (os : Os) (args : Array Value) : laidMetH Tryd.prog laid1 ((World.doorLaid Tryd.prog 400 os).forCall (fun _ _ => 0) ⟨#[], args, []⟩).memory :=
  laidMetH_of_parts3 (fuel := 8) (laidMet_of_run' 8 (by kernel_rfl) (by kernel_rfl)) (by kernel_rfl) (by kernel_rfl)

theorem one26 : Go.Deep.oneCellFields Tryd.prog #[{ name := "S", type := 3, offset := 0, embedded := false, tag := "", pkgPath := "", byteOffset := 0 }, { name := "T", type := 3, offset := 1, embedded := false, tag := "", pkgPath := "", byteOffset := 8 }] = true := by kernel_rfl
theorem cells26 : Tryd.prog.cellsOf 26 = 2 := by kernel_rfl
theorem open_pair {H : Type} {enc : TypeId × Value → H} {w : World} {r : Reach} {b0 base : Nat} {spare : Nat → Bool} {held : Bool} {v : Value} {d : DataW H} {p : List MemPlace}
    (hv : Value.okWide Tryd.prog w r b0 26 v) (h : DataW.Trod enc Tryd.prog w base spare held 26 v d p) :
    ∃ a b : Int, v = .agg #[.int .i64 a, .int .i64 b] ∧ d = .agg [.lit (.int .i64 a), .lit (.int .i64 b)] ∧ p = [] ∧ (Lit.int .i64 a).wf = true ∧ (Lit.int .i64 b).wf = true := by
  obtain ⟨v0, v1, y0, y1, n, rfl, rfl, rfl, e0, e1⟩ := open_agg2 Tryd.underlying26 one26 cells26 hv h
  obtain ⟨a, k0, z0, w0⟩ := DataW.trod_int Tryd.underlying3 e0
  obtain ⟨b, k1, z1, w1⟩ := DataW.trod_int Tryd.underlying3 e1
  cases k0
  cases k1
  subst z0 z1
  exact ⟨a, b, rfl, rfl, rfl, w0, w1⟩
theorem shut_pair {H : Type} {enc : TypeId × Value → H} {w : World} {base : Nat} {spare : Nat → Bool} {held : Bool} {a b : Int} (ha : (Lit.int .i64 a).wf = true) (hb : (Lit.int .i64 b).wf = true) :
    DataW.Trod enc Tryd.prog w base spare held 26 (.agg #[.int .i64 a, .int .i64 b]) (.agg [.lit (.int .i64 a), .lit (.int .i64 b)]) [] := by
  have hi : ∀ x : Int, (Lit.int .i64 x).wf = true → ∃ n, DataW.trod enc Tryd.prog w base spare held n 3 [.int .i64 x] = some (.lit (.int .i64 x), []) := fun x hx => by
    obtain ⟨n, hn⟩ := shut_int (enc := enc) (P := Tryd.prog) (w := w) (base := base) (spare := spare) (held := held) Tryd.underlying3 hx
    exact ⟨n, hn⟩
  exact shut_agg2 (y0 := (.lit (.int .i64 a), [])) (y1 := (.lit (.int .i64 b), [])) Tryd.underlying26 one26 cells26 (hi a ha) (hi b hb)
theorem i64_of_wf {x : Int} (h : (Lit.int .i64 x).wf = true) : -9223372036854775808 ≤ x ∧ x ≤ 9223372036854775807 := by
  simp [Lit.wf, IntKind.min, IntKind.max, IntKind.signed, IntKind.bits] at h
  omega
end Go.Proofs.YtficidiahlmimaaDoor.L
