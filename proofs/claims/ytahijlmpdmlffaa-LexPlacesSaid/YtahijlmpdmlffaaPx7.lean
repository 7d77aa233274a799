-- Laid by gp.py (a changed copy of the kit's print program; no text of the kit's own print.sh) out of the translation, and texts by hand. Not trusted: Lean checks it.
import Derived.Test.YtahijlmpdmlffaaPx0
import Derived.Test.YtahijlmpdmlffaaPx2
import Derived.Test.YtahijlmpdmlffaaPx3
namespace Go.Proofs.Ytahijlmpdmlffaa.P
open Go.RowKit Go.Proofs.YtahijlmpdmlffaaW.PrintWords Go.Proofs.YtahijlmpdmlffaaW.PrintLast Go.Proofs.YtahijlmpdmlffaaW.PrintMore
attribute [local go_sem] max2_int min2_int max_two min_two max_three min_three max_four min_four   -- for this text's walks alone
set_option linter.unusedVariables false
set_option linter.unusedSimpArgs false

/-! ### lustrumlaw09_LexPlaces: function 5 -/
mutual
def lustrumlaw09_LexPlaces.j0 : Nat → ByteArray → Bool → List (S32) → Bool → Option (Bool)
  | 0, _, _, _, _ => none
  | k + 1, x0, x3, x4, x52 => if x52 = true then (some false) else (lustrumlaw09_LexPlaces.l0 k x0 x3 x4 0 0)
def lustrumlaw09_LexPlaces.l0 : Nat → ByteArray → Bool → List (S32) → Int → Int → Option (Bool)
  | 0, _, _, _, _, _ => none
  | k + 1, x0, x3, x4, x7, x8 => if x8 < (x4.length : Int) then (if 0 ≤ x8 then (if x8 ≤ (wrap64 (x8 + 1)) then (if (wrap64 (x8 + 1)) ≤ (x4.length : Int) then ((lex_Show.f k ((x4.take ((wrap64 (x8 + 1)) : Int).toNat).drop (x8 : Int).toNat)).bind fun t227 => (if ((rd_T32 x4 x8).f1) < x7 then (lustrumlaw09_LexPlaces.j2 k x0 x3 x4 x7 x8 t227 true) else (if (wrap64 (((rd_T32 x4 x8).f1) + (t227.size : Int))) > (x0.size : Int) then (lustrumlaw09_LexPlaces.j2 k x0 x3 x4 x7 x8 t227 true) else (if 0 ≤ ((rd_T32 x4 x8).f1) then (if ((rd_T32 x4 x8).f1) ≤ (wrap64 (((rd_T32 x4 x8).f1) + (t227.size : Int))) then (if (wrap64 (((rd_T32 x4 x8).f1) + (t227.size : Int))) ≤ (x0.size : Int) then (lustrumlaw09_LexPlaces.j2 k x0 x3 x4 x7 x8 t227 ((x0.extract (((rd_T32 x4 x8).f1) : Int).toNat ((wrap64 (((rd_T32 x4 x8).f1) + (t227.size : Int))) : Int).toNat).toList != t227.toList)) else (none)) else (none)) else (none))))) else (none)) else (none)) else (none)) else (if x3 = true then (some (x7 == (x0.size : Int))) else (some false))
def lustrumlaw09_LexPlaces.j2 : Nat → ByteArray → Bool → List (S32) → Int → Int → ByteArray → Bool → Option (Bool)
  | 0, _, _, _, _, _, _, _ => none
  | k + 1, x0, x3, x4, x7, x8, x9, x103 => if x103 = true then (some false) else (lustrumlaw09_LexPlaces.l1 k x0 x3 x4 x7 x8 x9)
def lustrumlaw09_LexPlaces.l1 : Nat → ByteArray → Bool → List (S32) → Int → Int → ByteArray → Option (Bool)
  | 0, _, _, _, _, _, _ => none
  | k + 1, x0, x3, x4, x7, x8, x9 => if 0 ≤ x8 then (if x8 < (x4.length : Int) then (if x7 < ((rd_T32 x4 x8).f1) then (if 0 ≤ x7 then (if x7 < (x0.size : Int) then (if (bt x0 x7) = 32 then (lustrumlaw09_LexPlaces.l1 k x0 x3 x4 (wrap64 (x7 + 1)) x8 x9) else (some false)) else (none)) else (none)) else (lustrumlaw09_LexPlaces.l0 k x0 x3 x4 (wrap64 (x7 + (x9.size : Int))) (wrap64 (x8 + 1)))) else (none)) else (none)
end
def lustrumlaw09_LexPlaces.f (k : Nat) (a0 : ByteArray) : Option (Bool) := (lustrumlaw09_awake.f k).bind fun t216 => (if (a0.size : Int) > 400 then (some t216) else ((lex_All.f k a0).bind fun bt217 => (if bt217.2.2 = 0 then (if (bt217.1.length : Int) = 0 then (lustrumlaw09_LexPlaces.j0 k a0 t216 bt217.1 true) else (if 0 ≤ (wrap64 ((bt217.1.length : Int) - 1)) then (if (wrap64 ((bt217.1.length : Int) - 1)) < (bt217.1.length : Int) then (if ((rd_T32 bt217.1 (wrap64 ((bt217.1.length : Int) - 1))).f0) = 9 then (lustrumlaw09_LexPlaces.j0 k a0 t216 bt217.1 (bt217.2.1 != (a0.size : Int))) else (lustrumlaw09_LexPlaces.j0 k a0 t216 bt217.1 true)) else (none)) else (none))) else (if t216 = true then (if bt217.2.1 ≥ 0 then (some (decide (bt217.2.1 < (a0.size : Int)))) else (some false)) else (some false)))))
theorem lustrumlaw09_LexPlaces.mono_l : ∀ k, (∀ y0 y1 y2 y3, LeO (lustrumlaw09_LexPlaces.j0 k y0 y1 y2 y3) (lustrumlaw09_LexPlaces.j0 (k + 1) y0 y1 y2 y3)) ∧ (∀ y0 y1 y2 y3 y4, LeO (lustrumlaw09_LexPlaces.l0 k y0 y1 y2 y3 y4) (lustrumlaw09_LexPlaces.l0 (k + 1) y0 y1 y2 y3 y4)) ∧ (∀ y0 y1 y2 y3 y4 y5 y6, LeO (lustrumlaw09_LexPlaces.j2 k y0 y1 y2 y3 y4 y5 y6) (lustrumlaw09_LexPlaces.j2 (k + 1) y0 y1 y2 y3 y4 y5 y6)) ∧ (∀ y0 y1 y2 y3 y4 y5, LeO (lustrumlaw09_LexPlaces.l1 k y0 y1 y2 y3 y4 y5) (lustrumlaw09_LexPlaces.l1 (k + 1) y0 y1 y2 y3 y4 y5))
  | 0 => ⟨fun _ _ _ _ r h => by simp [lustrumlaw09_LexPlaces.j0] at h, fun _ _ _ _ _ r h => by simp [lustrumlaw09_LexPlaces.l0] at h, fun _ _ _ _ _ _ _ r h => by simp [lustrumlaw09_LexPlaces.j2] at h, fun _ _ _ _ _ _ r h => by simp [lustrumlaw09_LexPlaces.l1] at h⟩
  | k + 1 => by
    obtain ⟨ih0, ih1, ih2, ih3⟩ := lustrumlaw09_LexPlaces.mono_l k
    refine ⟨?_, ?_, ?_, ?_⟩
    · intro y0 y1 y2 y3
      unfold lustrumlaw09_LexPlaces.j0
      repeat' first
      | (with_reducible exact ih0 _ _ _ _)
      | (with_reducible exact ih1 _ _ _ _ _)
      | (with_reducible exact ih2 _ _ _ _ _ _ _)
      | (with_reducible exact ih3 _ _ _ _ _ _)
      | (with_reducible exact lex_All.mono _ _)
      | (with_reducible exact lex_Show.mono _ _)
      | (with_reducible exact lustrumlaw09_awake.mono _)
      | (with_reducible exact LeO.refl _)
      | (with_reducible exact LeO.none _)
      | (with_reducible refine LeO.ite ?_ ?_)
      | (with_reducible refine LeO.bind ?_ (fun _ => ?_))
      | exact ih0 _ _ _ _
      | exact ih1 _ _ _ _ _
      | exact ih2 _ _ _ _ _ _ _
      | exact ih3 _ _ _ _ _ _
      | exact lex_All.mono _ _
      | exact lex_Show.mono _ _
      | exact lustrumlaw09_awake.mono _
      | exact LeO.none _
      | refine LeO.ite ?_ ?_
      | refine LeO.bind ?_ (fun _ => ?_)
    · intro y0 y1 y2 y3 y4
      unfold lustrumlaw09_LexPlaces.l0
      repeat' first
      | (with_reducible exact ih0 _ _ _ _)
      | (with_reducible exact ih1 _ _ _ _ _)
      | (with_reducible exact ih2 _ _ _ _ _ _ _)
      | (with_reducible exact ih3 _ _ _ _ _ _)
      | (with_reducible exact lex_All.mono _ _)
      | (with_reducible exact lex_Show.mono _ _)
      | (with_reducible exact lustrumlaw09_awake.mono _)
      | (with_reducible exact LeO.refl _)
      | (with_reducible exact LeO.none _)
      | (with_reducible refine LeO.ite ?_ ?_)
      | (with_reducible refine LeO.bind ?_ (fun _ => ?_))
      | exact ih0 _ _ _ _
      | exact ih1 _ _ _ _ _
      | exact ih2 _ _ _ _ _ _ _
      | exact ih3 _ _ _ _ _ _
      | exact lex_All.mono _ _
      | exact lex_Show.mono _ _
      | exact lustrumlaw09_awake.mono _
      | exact LeO.none _
      | refine LeO.ite ?_ ?_
      | refine LeO.bind ?_ (fun _ => ?_)
    · intro y0 y1 y2 y3 y4 y5 y6
      unfold lustrumlaw09_LexPlaces.j2
      repeat' first
      | (with_reducible exact ih0 _ _ _ _)
      | (with_reducible exact ih1 _ _ _ _ _)
      | (with_reducible exact ih2 _ _ _ _ _ _ _)
      | (with_reducible exact ih3 _ _ _ _ _ _)
      | (with_reducible exact lex_All.mono _ _)
      | (with_reducible exact lex_Show.mono _ _)
      | (with_reducible exact lustrumlaw09_awake.mono _)
      | (with_reducible exact LeO.refl _)
      | (with_reducible exact LeO.none _)
      | (with_reducible refine LeO.ite ?_ ?_)
      | (with_reducible refine LeO.bind ?_ (fun _ => ?_))
      | exact ih0 _ _ _ _
      | exact ih1 _ _ _ _ _
      | exact ih2 _ _ _ _ _ _ _
      | exact ih3 _ _ _ _ _ _
      | exact lex_All.mono _ _
      | exact lex_Show.mono _ _
      | exact lustrumlaw09_awake.mono _
      | exact LeO.none _
      | refine LeO.ite ?_ ?_
      | refine LeO.bind ?_ (fun _ => ?_)
    · intro y0 y1 y2 y3 y4 y5
      unfold lustrumlaw09_LexPlaces.l1
      repeat' first
      | (with_reducible exact ih0 _ _ _ _)
      | (with_reducible exact ih1 _ _ _ _ _)
      | (with_reducible exact ih2 _ _ _ _ _ _ _)
      | (with_reducible exact ih3 _ _ _ _ _ _)
      | (with_reducible exact lex_All.mono _ _)
      | (with_reducible exact lex_Show.mono _ _)
      | (with_reducible exact lustrumlaw09_awake.mono _)
      | (with_reducible exact LeO.refl _)
      | (with_reducible exact LeO.none _)
      | (with_reducible refine LeO.ite ?_ ?_)
      | (with_reducible refine LeO.bind ?_ (fun _ => ?_))
      | exact ih0 _ _ _ _
      | exact ih1 _ _ _ _ _
      | exact ih2 _ _ _ _ _ _ _
      | exact ih3 _ _ _ _ _ _
      | exact lex_All.mono _ _
      | exact lex_Show.mono _ _
      | exact lustrumlaw09_awake.mono _
      | exact LeO.none _
      | refine LeO.ite ?_ ?_
      | refine LeO.bind ?_ (fun _ => ?_)
theorem lustrumlaw09_LexPlaces.mono : ∀ a0 k, LeO (lustrumlaw09_LexPlaces.f k a0) (lustrumlaw09_LexPlaces.f (k + 1) a0) := by
  intro a0 k
  obtain ⟨ih0, ih1, ih2, ih3⟩ := lustrumlaw09_LexPlaces.mono_l k
  unfold lustrumlaw09_LexPlaces.f
  repeat' first
      | (with_reducible exact ih0 _ _ _ _)
      | (with_reducible exact ih1 _ _ _ _ _)
      | (with_reducible exact ih2 _ _ _ _ _ _ _)
      | (with_reducible exact ih3 _ _ _ _ _ _)
      | (with_reducible exact lex_All.mono _ _)
      | (with_reducible exact lex_Show.mono _ _)
      | (with_reducible exact lustrumlaw09_awake.mono _)
      | (with_reducible exact LeO.refl _)
      | (with_reducible exact LeO.none _)
      | (with_reducible refine LeO.ite ?_ ?_)
      | (with_reducible refine LeO.bind ?_ (fun _ => ?_))
      | exact ih0 _ _ _ _
      | exact ih1 _ _ _ _ _
      | exact ih2 _ _ _ _ _ _ _
      | exact ih3 _ _ _ _ _ _
      | exact lex_All.mono _ _
      | exact lex_Show.mono _ _
      | exact lustrumlaw09_awake.mono _
      | exact LeO.none _
      | refine LeO.ite ?_ ?_
      | refine LeO.bind ?_ (fun _ => ?_)
set_option maxHeartbeats 8000000 in
set_option maxRecDepth 100000 in
theorem lustrumlaw09_LexPlaces.calls (k : Nat) (a0 : ByteArray) (r : Bool) (w : World) (h : lustrumlaw09_LexPlaces.f k a0 = some r) :
    Calls Try.prog 5 #[.string a0] w fun e w' => e = .returned (.bool r) ∧ Below w.heap.size w w' := by
  have HB := Aside0.mk (Below.refl w.heap.size w)
  have H : ((lustrumlaw09_awake.f k).bind fun t216 => (if (a0.size : Int) > 400 then (some t216) else ((lex_All.f k a0).bind fun bt217 => (if bt217.2.2 = 0 then (if (bt217.1.length : Int) = 0 then (lustrumlaw09_LexPlaces.j0 k a0 t216 bt217.1 true) else (if 0 ≤ (wrap64 ((bt217.1.length : Int) - 1)) then (if (wrap64 ((bt217.1.length : Int) - 1)) < (bt217.1.length : Int) then (if ((rd_T32 bt217.1 (wrap64 ((bt217.1.length : Int) - 1))).f0) = 9 then (lustrumlaw09_LexPlaces.j0 k a0 t216 bt217.1 (bt217.2.1 != (a0.size : Int))) else (lustrumlaw09_LexPlaces.j0 k a0 t216 bt217.1 true)) else (none)) else (none))) else (if t216 = true then (if bt217.2.1 ≥ 0 then (some (decide (bt217.2.1 < (a0.size : Int)))) else (some false)) else (some false)))))) = some r := h
  clear h
  replace H := Option.bind_eq_some_iff.mp H
  obtain ⟨t216, A20, H⟩ := H
  replace H : (if (a0.size : Int) > 400 then (some t216) else ((lex_All.f k a0).bind fun bt217 => (if bt217.2.2 = 0 then (if (bt217.1.length : Int) = 0 then (lustrumlaw09_LexPlaces.j0 k a0 t216 bt217.1 true) else (if 0 ≤ (wrap64 ((bt217.1.length : Int) - 1)) then (if (wrap64 ((bt217.1.length : Int) - 1)) < (bt217.1.length : Int) then (if ((rd_T32 bt217.1 (wrap64 ((bt217.1.length : Int) - 1))).f0) = 9 then (lustrumlaw09_LexPlaces.j0 k a0 t216 bt217.1 (bt217.2.1 != (a0.size : Int))) else (lustrumlaw09_LexPlaces.j0 k a0 t216 bt217.1 true)) else (none)) else (none))) else (if t216 = true then (if bt217.2.1 ≥ 0 then (some (decide (bt217.2.1 < (a0.size : Int)))) else (some false)) else (some false))))) = some r := H
  have A2 := Aside0.mk A20
  clear A20
  by_cases c3 : (a0.size : Int) > 400
  · rw [if_pos c3] at H
    have c3b0 : decide (400 < (a0.size : Int)) = true := decide_eq_true c3
    have c3b1 : decide (400 < a0.size) = true := decide_eq_true (by omega)
    clear c3
    obtain rfl := Option.some.inj H
    go_enter Try.func5, Try.ntmps5
    go_wp2_with (first | (go_at_call 8; (with_reducible refine (lustrumlaw09_awake.calls k  t216 _ A2.out).mono ?_); rintro e w4 ⟨rfl, hb⟩; have n0_ := Aside0.mk (below_step (by repeat (first | (with_reducible first | exact HB.out | apply below_alloc | apply pw_below_drewN | apply below_drew1) | exact HB.out)) hb); clear HB; have HB := n0_; clear n0_; (try clear hb); (try clear hb2); (try clear hk); (try clear hi)))
    repeat (go_quiet (first | (go_at_call 8; (with_reducible refine (lustrumlaw09_awake.calls k  t216 _ A2.out).mono ?_); rintro e w4 ⟨rfl, hb⟩; have n0_ := Aside0.mk (below_step (by repeat (first | (with_reducible first | exact HB.out | apply below_alloc | apply pw_below_drewN | apply below_drew1) | exact HB.out)) hb); clear HB; have HB := n0_; clear n0_; (try clear hb); (try clear hb2); (try clear hk); (try clear hi))); try go_wp2_with (first | (go_at_call 8; (with_reducible refine (lustrumlaw09_awake.calls k  t216 _ A2.out).mono ?_); rintro e w4 ⟨rfl, hb⟩; have n0_ := Aside0.mk (below_step (by repeat (first | (with_reducible first | exact HB.out | apply below_alloc | apply pw_below_drewN | apply below_drew1) | exact HB.out)) hb); clear HB; have HB := n0_; clear n0_; (try clear hb); (try clear hb2); (try clear hk); (try clear hi))))
    go_ret
    exact ⟨by first | rfl | (simp [errW_none, errW_some] <;> rfl) | (simp [*, errW_none, errW_some] <;> rfl), by repeat (first | (with_reducible first | exact HB.out | apply below_alloc | apply pw_below_drewN | apply below_drew1) | exact HB.out)⟩
  · rw [if_neg c3] at H
    have c3b0 : decide (400 < (a0.size : Int)) = false := decide_eq_false c3
    have c3b1 : decide (400 < a0.size) = false := decide_eq_false (by omega)
    clear c3
    replace H := Option.bind_eq_some_iff.mp H
    obtain ⟨⟨t217, t218, t219⟩, A50, H⟩ := H
    replace H : (if t219 = 0 then (if (t217.length : Int) = 0 then (lustrumlaw09_LexPlaces.j0 k a0 t216 t217 true) else (if 0 ≤ (wrap64 ((t217.length : Int) - 1)) then (if (wrap64 ((t217.length : Int) - 1)) < (t217.length : Int) then (if ((rd_T32 t217 (wrap64 ((t217.length : Int) - 1))).f0) = 9 then (lustrumlaw09_LexPlaces.j0 k a0 t216 t217 (t218 != (a0.size : Int))) else (lustrumlaw09_LexPlaces.j0 k a0 t216 t217 true)) else (none)) else (none))) else (if t216 = true then (if t218 ≥ 0 then (some (decide (t218 < (a0.size : Int)))) else (some false)) else (some false))) = some r := H
    have A5 := Aside0.mk A50
    clear A50
    by_cases c6 : t219 = 0
    · rw [if_pos c6] at H
      have c6b0 : (t219 == 0) = true := beq_iff_eq.mpr c6
      have c6b1 : (t219 != 0) = false := bne_eq_false_iff_eq.mpr c6
      clear c6
      have HC7 := Aside0.mk H
      clear H
      go_enter Try.func5, Try.ntmps5
      go_upto_region 7 with (first | (go_at_call 8; (with_reducible refine (lustrumlaw09_awake.calls k  t216 _ A2.out).mono ?_); rintro e w8 ⟨rfl, hb⟩; have n0_ := Aside0.mk (below_step (by repeat (first | (with_reducible first | exact HB.out | apply below_alloc | apply pw_below_drewN | apply below_drew1) | exact HB.out)) hb); clear HB; have HB := n0_; clear n0_; (try clear hb); (try clear hb2); (try clear hk); (try clear hi)) | (go_at_call 10; (with_reducible refine (lex_All.calls k a0 t217 t218 t219 _ A5.out).mono ?_); rintro e w9 ⟨v220, rfl, ho0, hb⟩; have n0_ := Aside0.mk (Kd.R_lower ho0 (below_size (by repeat (first | (with_reducible first | exact HB.out | apply below_alloc | apply pw_below_drewN | apply below_drew1) | exact HB.out)))); have n1_ := Aside0.mk (below_step (by repeat (first | (with_reducible first | exact HB.out | apply below_alloc | apply pw_below_drewN | apply below_drew1) | exact HB.out)) hb); clear HB; have HO221 := n0_; have HB := n1_; clear n0_ n1_; (try clear hb); (try clear hb2); (try clear hk); (try clear hi); (try clear ho0)))
      repeat (go_quiet (first | (go_at_call 8; (with_reducible refine (lustrumlaw09_awake.calls k  t216 _ A2.out).mono ?_); rintro e w8 ⟨rfl, hb⟩; have n0_ := Aside0.mk (below_step (by repeat (first | (with_reducible first | exact HB.out | apply below_alloc | apply pw_below_drewN | apply below_drew1) | exact HB.out)) hb); clear HB; have HB := n0_; clear n0_; (try clear hb); (try clear hb2); (try clear hk); (try clear hi)) | (go_at_call 10; (with_reducible refine (lex_All.calls k a0 t217 t218 t219 _ A5.out).mono ?_); rintro e w9 ⟨v220, rfl, ho0, hb⟩; have n0_ := Aside0.mk (Kd.R_lower ho0 (below_size (by repeat (first | (with_reducible first | exact HB.out | apply below_alloc | apply pw_below_drewN | apply below_drew1) | exact HB.out)))); have n1_ := Aside0.mk (below_step (by repeat (first | (with_reducible first | exact HB.out | apply below_alloc | apply pw_below_drewN | apply below_drew1) | exact HB.out)) hb); clear HB; have HO221 := n0_; have HB := n1_; clear n0_ n1_; (try clear hb); (try clear hb2); (try clear hk); (try clear hi); (try clear ho0))); go_upto_region 7 with (first | (go_at_call 8; (with_reducible refine (lustrumlaw09_awake.calls k  t216 _ A2.out).mono ?_); rintro e w8 ⟨rfl, hb⟩; have n0_ := Aside0.mk (below_step (by repeat (first | (with_reducible first | exact HB.out | apply below_alloc | apply pw_below_drewN | apply below_drew1) | exact HB.out)) hb); clear HB; have HB := n0_; clear n0_; (try clear hb); (try clear hb2); (try clear hk); (try clear hi)) | (go_at_call 10; (with_reducible refine (lex_All.calls k a0 t217 t218 t219 _ A5.out).mono ?_); rintro e w9 ⟨v220, rfl, ho0, hb⟩; have n0_ := Aside0.mk (Kd.R_lower ho0 (below_size (by repeat (first | (with_reducible first | exact HB.out | apply below_alloc | apply pw_below_drewN | apply below_drew1) | exact HB.out)))); have n1_ := Aside0.mk (below_step (by repeat (first | (with_reducible first | exact HB.out | apply below_alloc | apply pw_below_drewN | apply below_drew1) | exact HB.out)) hb); clear HB; have HO221 := n0_; have HB := n1_; clear n0_ n1_; (try clear hb); (try clear hb2); (try clear hk); (try clear hi); (try clear ho0))))
      (try simp only [Act.put, List.setIfInBounds_toArray, List.set_cons_zero, List.set_cons_succ])
      go_cut [52] (fun v52 wc => ∃ (kq : Nat) (x52_6 : Bool), v52 = .bool x52_6 ∧ Aside0 (lustrumlaw09_LexPlaces.j0 kq a0 t216 t217 x52_6 = some r) ∧ Aside0 (kq ≤ k) ∧ Aside0 (Kd.R k32 32 wc w.heap.size (fun _ => True) v220 t217) ∧ Aside0 (Below w.heap.size w wc))
      case first =>
        have H := HC7.out
        clear HC7
        by_cases c10 : (t217.length : Int) = 0
        · rw [if_pos c10] at H
          have c10b0 : ((t217.length : Int) == 0) = true := beq_iff_eq.mpr c10
          have c10b1 : ((t217.length : Int) != 0) = false := bne_eq_false_iff_eq.mpr c10
          clear c10
          (first | rw [c10b0] | (simp only [i64_w, i32_w]; rw [c10b0]) | skip)
          have H' := Aside0.mk H
          clear H
          obtain ⟨Ao11, co11, eo11⟩ := Kd.R_slice HO221.out
          subst eo11
          go_wp2
          repeat (go_quiet (fail); try go_wp2)
          go_meet
          case rel => exact ⟨_, (true), (by first | rfl | (simp; done) | (simp [*]; done)), H', ⟨by first | omega | exact Nat.le_refl _⟩, ⟨by (with_reducible repeat (first | apply Kd.R_alloc | apply Kd.R_drewN | apply Kd.R_drew)); exact HO221.out⟩, ⟨by repeat (first | (with_reducible first | exact HB.out | apply below_alloc | apply pw_below_drewN | apply below_drew1) | exact HB.out)⟩⟩
        · rw [if_neg c10] at H
          have c10b0 : ((t217.length : Int) == 0) = false := beq_eq_false_iff_ne.mpr c10
          have c10b1 : ((t217.length : Int) != 0) = true := bne_iff_ne.mpr c10
          have c10b2 : ¬ (t217 = []) := fun h_ => c10 (by rw [h_]; rfl)
          (first | rw [c10b0] | (simp only [i64_w, i32_w]; rw [c10b0]) | skip)
          obtain ⟨ji12, hji12⟩ : ∃ j_ : Int, (wrap64 ((t217.length : Int) - 1)) = j_ := ⟨_, rfl⟩
          replace H : (if 0 ≤ (ji12) then (if (ji12) < (t217.length : Int) then (if ((rd_T32 t217 (ji12)).f0) = 9 then (lustrumlaw09_LexPlaces.j0 k a0 t216 t217 (t218 != (a0.size : Int))) else (lustrumlaw09_LexPlaces.j0 k a0 t216 t217 true)) else (none)) else (none)) = some r := by first | (rw [hji12] at H; exact H) | (simp only [hji12] at H ⊢; exact H)
          have hji12w : (IntKind.i64.wrap ((t217.length : Int) - 1)) = ji12 := (i64_w _).trans hji12
          by_cases c13 : 0 ≤ (ji12)
          · rw [if_pos c13] at H
            have c13b0 : decide (0 ≤ (ji12)) = true := decide_eq_true c13
            clear c13
            by_cases c14 : (ji12) < (t217.length : Int)
            · rw [if_pos c14] at H
              have c14b0 : decide ((ji12) < (t217.length : Int)) = true := decide_eq_true c14
              clear c14
              by_cases c15 : ((rd_T32 t217 (ji12)).f0) = 9
              · rw [if_pos c15] at H
                have c15b0 : (((rd_T32 t217 (ji12)).f0) == 9) = true := beq_iff_eq.mpr c15
                have c15b1 : (((rd_T32 t217 (ji12)).f0) != 9) = false := bne_eq_false_iff_eq.mpr c15
                clear c15
                have H' := Aside0.mk H
                clear H
                obtain ⟨Ao16, co16, eo16⟩ := Kd.R_slice HO221.out
                subst eo16
                have p222 : 0 ≤ ((ji12) : Int) := of_decide_eq_true (by first | (with_reducible assumption) | assumption)
                have q222 : (ji12) < (t217.length : Int) := of_decide_eq_true (by first | (with_reducible assumption) | assumption)
                obtain ⟨ad222, e222, hx222_0, hx222_1, hx222_2⟩ := at_T32 (Kd.R_reads' HO221.out).2.2 (ji12) p222 q222
                cases e222
                replace p222 := eq_true p222
                replace q222 := eq_true q222
                go_wp2
                repeat (go_quiet (fail); try go_wp2)
                go_meet
                case rel => exact ⟨_, ((t218 != (a0.size : Int))), (by first | rfl | (simp; done) | (simp [*]; done)), H', ⟨by first | omega | exact Nat.le_refl _⟩, ⟨by (with_reducible repeat (first | apply Kd.R_alloc | apply Kd.R_drewN | apply Kd.R_drew)); exact HO221.out⟩, ⟨by repeat (first | (with_reducible first | exact HB.out | apply below_alloc | apply pw_below_drewN | apply below_drew1) | exact HB.out)⟩⟩
              · rw [if_neg c15] at H
                have c15b0 : (((rd_T32 t217 (ji12)).f0) == 9) = false := beq_eq_false_iff_ne.mpr c15
                have c15b1 : (((rd_T32 t217 (ji12)).f0) != 9) = true := bne_iff_ne.mpr c15
                have H' := Aside0.mk H
                clear H
                obtain ⟨Ao17, co17, eo17⟩ := Kd.R_slice HO221.out
                subst eo17
                have p222 : 0 ≤ ((ji12) : Int) := of_decide_eq_true (by first | (with_reducible assumption) | assumption)
                have q222 : (ji12) < (t217.length : Int) := of_decide_eq_true (by first | (with_reducible assumption) | assumption)
                obtain ⟨ad222, e222, hx222_0, hx222_1, hx222_2⟩ := at_T32 (Kd.R_reads' HO221.out).2.2 (ji12) p222 q222
                cases e222
                replace p222 := eq_true p222
                replace q222 := eq_true q222
                go_wp2
                repeat (go_quiet (fail); try go_wp2)
                go_meet
                case rel => exact ⟨_, (true), (by first | rfl | (simp; done) | (simp [*]; done)), H', ⟨by first | omega | exact Nat.le_refl _⟩, ⟨by (with_reducible repeat (first | apply Kd.R_alloc | apply Kd.R_drewN | apply Kd.R_drew)); exact HO221.out⟩, ⟨by repeat (first | (with_reducible first | exact HB.out | apply below_alloc | apply pw_below_drewN | apply below_drew1) | exact HB.out)⟩⟩
            · rw [if_neg c14] at H
              exact absurd H (by simp)
          · rw [if_neg c13] at H
            exact absurd H (by simp)
      case rest =>
        clear HC7
        try clear c1
        try clear p2
        try clear q2
        try clear hx2
        try clear c3
        try clear c3b0
        try clear c3b1
        try clear c5
        try clear c6
        try clear c6b0
        try clear c6b1
        try clear p6
        try clear c10
        try clear c10b0
        try clear c10b1
        try clear c10b2
        try clear c13
        try clear c13b0
        try clear c14
        try clear c14b0
        try clear c15
        try clear c15b0
        try clear c15b1
        try clear hx222_0
        try clear hx222_1
        try clear hx222_2
        try clear p222
        try clear q222
        obtain ⟨kq, x52_6, rfl, HA, HJ6, HO_4, HB⟩ := hcut
        cases kq with
        | zero => exact absurd HA.out (by simp [lustrumlaw09_LexPlaces.j0])
        | succ kj6 =>
          have H := HA.out
          clear HA
          simp only [lustrumlaw09_LexPlaces.j0] at H
          by_cases c18 : x52_6 = true
          · subst c18
            have H1 : (some false) = some r := by rw [if_pos rfl] at H; exact H
            clear H
            have H := H1
            clear H1
            obtain rfl := Option.some.inj H
            go_wp2
            repeat (go_quiet (fail); try go_wp2)
            go_ret
            exact ⟨by first | rfl | (simp [errW_none, errW_some] <;> rfl) | (simp [*, errW_none, errW_some] <;> rfl), by repeat (first | (with_reducible first | exact HB.out | apply below_alloc | apply pw_below_drewN | apply below_drew1) | exact HB.out)⟩
          · replace c18 := Bool.eq_false_iff.mpr c18
            subst c18
            have H1 : (lustrumlaw09_LexPlaces.l0 kj6 a0 t216 t217 0 0) = some r := by rw [if_neg (show ¬ (false = true) by decide)] at H; exact H
            clear H
            have H := H1
            clear H1
            have H' := Aside0.mk H
            clear H
            go_wp2
            repeat (go_quiet (fail); try go_wp2)
            go_loopg [7, 8] kj6 (fun kq v7 v8 w' => ∃ (x7_2 : Int) (x8_2 : Int), v7 = .int .i64 x7_2 ∧ v8 = .int .i64 x8_2 ∧ Aside0 (lustrumlaw09_LexPlaces.l0 kq a0 t216 t217 x7_2 x8_2 = some r) ∧ Aside0 (kq ≤ kj6) ∧ Aside0 (Kd.R k32 32 w' w.heap.size (fun _ => True) v220 t217) ∧ Aside0 (Below w.heap.size w w'))
            case atStart => exact ⟨(0), (0), (by first | rfl | (simp; done) | (simp [*]; done)), (by first | rfl | (simp; done) | (simp [*]; done)), H', ⟨Nat.le_refl _⟩, ⟨by (with_reducible repeat (first | apply Kd.R_alloc | apply Kd.R_drewN | apply Kd.R_drew)); exact HO_4.out⟩, ⟨by repeat (first | (with_reducible first | exact HB.out | apply below_alloc | apply pw_below_drewN | apply below_drew1) | exact HB.out)⟩⟩
            case round =>
              clear H'
              try clear c1
              try clear p2
              try clear q2
              try clear hx2
              try clear c3
              try clear c3b0
              try clear c3b1
              try clear c5
              try clear c6
              try clear c6b0
              try clear c6b1
              try clear p6
              try clear c10
              try clear c10b0
              try clear c10b1
              try clear c10b2
              try clear c13
              try clear c13b0
              try clear c14
              try clear c14b0
              try clear c15
              try clear c15b0
              try clear c15b1
              try clear c18
              try clear hx222_0
              try clear hx222_1
              try clear hx222_2
              try clear p2
              try clear p222
              try clear p6
              try clear q2
              try clear q222
              obtain ⟨x7_2, x8_2, rfl, rfl, HA, HK2, HO_4, HB⟩ := hrel
              cases gk with
              | zero => exact absurd HA.out (by simp [lustrumlaw09_LexPlaces.l0])
              | succ k2 =>
                have H := HA.out
                clear HA
                simp only [lustrumlaw09_LexPlaces.l0] at H
                by_cases c19 : x8_2 < (t217.length : Int)
                · rw [if_pos c19] at H
                  have c19b0 : decide (x8_2 < (t217.length : Int)) = true := decide_eq_true c19
                  clear c19
                  by_cases c20 : 0 ≤ x8_2
                  · rw [if_pos c20] at H
                    have c20b0 := eq_true c20
                    have c20b1 : decide (0 ≤ x8_2) = true := decide_eq_true c20
                    clear c20
                    by_cases c21 : x8_2 ≤ (wrap64 (x8_2 + 1))
                    · rw [if_pos c21] at H
                      have c21b0 := eq_true c21
                      have c21b1 : decide (x8_2 ≤ (wrap64 (x8_2 + 1))) = true := decide_eq_true c21
                      by_cases c22 : (wrap64 (x8_2 + 1)) ≤ (t217.length : Int)
                      · rw [if_pos c22] at H
                        have c22b0 := eq_true c22
                        have c22b1 : decide ((wrap64 (x8_2 + 1)) ≤ (t217.length : Int)) = true := decide_eq_true c22
                        obtain ⟨y223, hy223⟩ : ∃ y_ : List (S32), y_ = ((t217.take ((wrap64 (x8_2 + 1)) : Int).toNat).drop (x8_2 : Int).toNat) := ⟨_, rfl⟩
                        replace H : ((lex_Show.f k2 y223).bind fun t227 => (if ((rd_T32 t217 x8_2).f1) < x7_2 then (lustrumlaw09_LexPlaces.j2 k2 a0 t216 t217 x7_2 x8_2 t227 true) else (if (wrap64 (((rd_T32 t217 x8_2).f1) + (t227.size : Int))) > (a0.size : Int) then (lustrumlaw09_LexPlaces.j2 k2 a0 t216 t217 x7_2 x8_2 t227 true) else (if 0 ≤ ((rd_T32 t217 x8_2).f1) then (if ((rd_T32 t217 x8_2).f1) ≤ (wrap64 (((rd_T32 t217 x8_2).f1) + (t227.size : Int))) then (if (wrap64 (((rd_T32 t217 x8_2).f1) + (t227.size : Int))) ≤ (a0.size : Int) then (lustrumlaw09_LexPlaces.j2 k2 a0 t216 t217 x7_2 x8_2 t227 ((a0.extract (((rd_T32 t217 x8_2).f1) : Int).toNat ((wrap64 (((rd_T32 t217 x8_2).f1) + (t227.size : Int))) : Int).toNat).toList != t227.toList)) else (none)) else (none)) else (none))))) = some r := by first | (rw [hy223]; with_reducible exact H) | (have H2_ := (Option.bind_some _ _).symm.trans H; rw [hy223]; with_reducible exact H2_) | (have H2_ := (Option.bind_some _ _).symm.trans H; with_reducible exact H2_) | with_reducible exact H | (rw [hy223]; exact H) | exact H
                        have Ny223 := Aside0.mk hy223
                        clear hy223
                        replace H := Option.bind_eq_some_iff.mp H
                        obtain ⟨t227, A230, H⟩ := H
                        replace H : (if ((rd_T32 t217 x8_2).f1) < x7_2 then (lustrumlaw09_LexPlaces.j2 k2 a0 t216 t217 x7_2 x8_2 t227 true) else (if (wrap64 (((rd_T32 t217 x8_2).f1) + (t227.size : Int))) > (a0.size : Int) then (lustrumlaw09_LexPlaces.j2 k2 a0 t216 t217 x7_2 x8_2 t227 true) else (if 0 ≤ ((rd_T32 t217 x8_2).f1) then (if ((rd_T32 t217 x8_2).f1) ≤ (wrap64 (((rd_T32 t217 x8_2).f1) + (t227.size : Int))) then (if (wrap64 (((rd_T32 t217 x8_2).f1) + (t227.size : Int))) ≤ (a0.size : Int) then (lustrumlaw09_LexPlaces.j2 k2 a0 t216 t217 x7_2 x8_2 t227 ((a0.extract (((rd_T32 t217 x8_2).f1) : Int).toNat ((wrap64 (((rd_T32 t217 x8_2).f1) + (t227.size : Int))) : Int).toNat).toList != t227.toList)) else (none)) else (none)) else (none)))) = some r := H
                        have A23 := Aside0.mk A230
                        clear A230
                        have HC24 := Aside0.mk H
                        clear H
                        obtain ⟨Ao25, co25, eo25⟩ := Kd.R_slice HO_4.out
                        subst eo25
                        have q26 : ((wrap64 (x8_2 + 1)) : Int) ≤ ((t217.length : Int) : Int) := of_decide_eq_true (by first | (with_reducible assumption) | assumption)
                        obtain ⟨i026, hi026, _, hsz26, _⟩ := info_parts info32
                        have hroom26 : t217.length ≤ co25 := (Kd.R_reads' HO_4.out).2.1
                        have hC26 : Kd.C k32 _ Ao25 t217.length t217 := (Kd.R_reads' HO_4.out).2.2
                        have ql26 : (x8_2 : Int) ≤ ((wrap64 (x8_2 + 1)) : Int) := of_decide_eq_true (by first | (with_reducible assumption) | assumption)
                        have q026 : (0 : Int) ≤ (x8_2 : Int) := of_decide_eq_true (by first | (with_reducible assumption) | assumption)
                        have hcut26 := cut_mid (P := Try.prog) 22 32 .i64 .i64 Try.underlying22 hi026 3 hsz26 Ao25 t217.length co25 x8_2 (wrap64 (x8_2 + 1)) q026 ql26 q26 hroom26
                        have hr26 := Kd.C_mid (lo := (x8_2 : Int).toNat) (hi := ((wrap64 (x8_2 + 1)) : Int).toNat) (c := co25) hC26 (by omega) (by omega) hroom26
                        obtain ⟨A26, hA26⟩ : ∃ A1, A1 = (if co25 = (x8_2 : Int).toNat then Ao25 else (Ao25 : Option Addr).map (·.add ((x8_2 : Int).toNat * 3))) := ⟨_, rfl⟩
                        obtain ⟨c26, hc26⟩ : ∃ c1, c1 = co25 - (x8_2 : Int).toNat := ⟨_, rfl⟩
                        have hy26 : y223.length = ((wrap64 (x8_2 + 1)) : Int).toNat - (x8_2 : Int).toNat := (by rw [Ny223.out, List.length_drop, List.length_take] <;> omega)
                        rw [show ((t217).take ((wrap64 (x8_2 + 1)) : Int).toNat).drop (x8_2 : Int).toNat = y223 from Ny223.out.symm] at hr26
                        replace hr26 : Kd.C k32 _ A26 y223.length y223 := (by rw [hA26]; exact hr26)
                        rw [← hy26, ← hA26, ← hc26] at hcut26
                        have HR226 := Aside0.mk hr26
                        have HC226 := Aside0.mk (show y223.length ≤ c26 from by rw [hy26, hc26]; exact Nat.sub_le_sub_right (Nat.le_trans (by omega) hroom26) _)
                        clear hr26 hC26 hroom26 hi026 hsz26 hc26
                        have KY26 := Aside0.mk hy26
                        have KA26 := Aside0.mk hA26
                        clear hy26 hA26
                        have KL26 := Aside0.mk (show ((wrap64 (x8_2 + 1)) : Int).toNat ≤ t217.length from by omega)
                        have KM26 := Aside0.mk (show (x8_2 : Int).toNat ≤ ((wrap64 (x8_2 + 1)) : Int).toNat from by omega)
                        replace q26 := eq_true q26
                        go_upto_region 14 with (first | (go_at_call 13; (with_reducible refine (lex_Show.calls k2 _ _ y223 t227 _ ?side1 ?side2 A23.out).mono ?_); (case side1 => repeat (first | exact (by repeat (first | (with_reducible exact HR226.out) | (with_reducible refine Kd.C_alloc ?_ _) | (with_reducible refine Kd.C_drewN ?_ _) | (with_reducible refine Kd.C_drew ?_) | exact HR226.out)) | (with_reducible refine Kd.C_alloc ?_ _) | (with_reducible refine Kd.C_drewN ?_ _) | (with_reducible refine Kd.C_drew ?_))); (case side2 => exact HC226.out); rintro e w27 ⟨rfl, hb⟩; have n0_ := Aside0.mk (Kd.R_below (by (with_reducible repeat (first | apply Kd.R_alloc | apply Kd.R_drewN | apply Kd.R_drew)); exact HO_4.out) hb); have n1_ := Aside0.mk (Kd.C_below (by repeat (first | (with_reducible exact HR226.out) | (with_reducible refine Kd.C_alloc ?_ _) | (with_reducible refine Kd.C_drewN ?_ _) | (with_reducible refine Kd.C_drew ?_) | exact HR226.out)) hb); have n2_ := Aside0.mk (below_step (by repeat (first | (with_reducible first | exact HB.out | apply below_alloc | apply pw_below_drewN | apply below_drew1) | exact HB.out)) hb); clear HO_4; clear HR226; clear HB; have HO_4 := n0_; have HR226 := n1_; have HB := n2_; clear n0_ n1_ n2_; (try clear hb); (try clear hb2); (try clear hk); (try clear hi)))
                        repeat (go_quiet (first | (go_at_call 13; (with_reducible refine (lex_Show.calls k2 _ _ y223 t227 _ ?side1 ?side2 A23.out).mono ?_); (case side1 => repeat (first | exact (by repeat (first | (with_reducible exact HR226.out) | (with_reducible refine Kd.C_alloc ?_ _) | (with_reducible refine Kd.C_drewN ?_ _) | (with_reducible refine Kd.C_drew ?_) | exact HR226.out)) | (with_reducible refine Kd.C_alloc ?_ _) | (with_reducible refine Kd.C_drewN ?_ _) | (with_reducible refine Kd.C_drew ?_))); (case side2 => exact HC226.out); rintro e w27 ⟨rfl, hb⟩; have n0_ := Aside0.mk (Kd.R_below (by (with_reducible repeat (first | apply Kd.R_alloc | apply Kd.R_drewN | apply Kd.R_drew)); exact HO_4.out) hb); have n1_ := Aside0.mk (Kd.C_below (by repeat (first | (with_reducible exact HR226.out) | (with_reducible refine Kd.C_alloc ?_ _) | (with_reducible refine Kd.C_drewN ?_ _) | (with_reducible refine Kd.C_drew ?_) | exact HR226.out)) hb); have n2_ := Aside0.mk (below_step (by repeat (first | (with_reducible first | exact HB.out | apply below_alloc | apply pw_below_drewN | apply below_drew1) | exact HB.out)) hb); clear HO_4; clear HR226; clear HB; have HO_4 := n0_; have HR226 := n1_; have HB := n2_; clear n0_ n1_ n2_; (try clear hb); (try clear hb2); (try clear hk); (try clear hi))); go_upto_region 14 with (first | (go_at_call 13; (with_reducible refine (lex_Show.calls k2 _ _ y223 t227 _ ?side1 ?side2 A23.out).mono ?_); (case side1 => repeat (first | exact (by repeat (first | (with_reducible exact HR226.out) | (with_reducible refine Kd.C_alloc ?_ _) | (with_reducible refine Kd.C_drewN ?_ _) | (with_reducible refine Kd.C_drew ?_) | exact HR226.out)) | (with_reducible refine Kd.C_alloc ?_ _) | (with_reducible refine Kd.C_drewN ?_ _) | (with_reducible refine Kd.C_drew ?_))); (case side2 => exact HC226.out); rintro e w27 ⟨rfl, hb⟩; have n0_ := Aside0.mk (Kd.R_below (by (with_reducible repeat (first | apply Kd.R_alloc | apply Kd.R_drewN | apply Kd.R_drew)); exact HO_4.out) hb); have n1_ := Aside0.mk (Kd.C_below (by repeat (first | (with_reducible exact HR226.out) | (with_reducible refine Kd.C_alloc ?_ _) | (with_reducible refine Kd.C_drewN ?_ _) | (with_reducible refine Kd.C_drew ?_) | exact HR226.out)) hb); have n2_ := Aside0.mk (below_step (by repeat (first | (with_reducible first | exact HB.out | apply below_alloc | apply pw_below_drewN | apply below_drew1) | exact HB.out)) hb); clear HO_4; clear HR226; clear HB; have HO_4 := n0_; have HR226 := n1_; have HB := n2_; clear n0_ n1_ n2_; (try clear hb); (try clear hb2); (try clear hk); (try clear hi))))
                        (try simp only [Act.put, List.setIfInBounds_toArray, List.set_cons_zero, List.set_cons_succ])
                        go_cut [103] (fun v103 wc => ∃ (kq : Nat) (x103_23 : Bool), v103 = .bool x103_23 ∧ Aside0 (lustrumlaw09_LexPlaces.j2 kq a0 t216 t217 x7_2 x8_2 t227 x103_23 = some r) ∧ Aside0 (kq ≤ k2) ∧ Aside0 (Kd.R k32 32 wc w.heap.size (fun _ => True) (.slice Ao25 t217.length co25) t217) ∧ Aside0 (Below w.heap.size w wc))
                        case first =>
                          have H := HC24.out
                          clear HC24
                          by_cases c28 : ((rd_T32 t217 x8_2).f1) < x7_2
                          · rw [if_pos c28] at H
                            have c28b0 : decide (((rd_T32 t217 x8_2).f1) < x7_2) = true := decide_eq_true c28
                            clear c28
                            (first | rw [c28b0] | (simp only [i64_w, i32_w]; rw [c28b0]) | skip)
                            have H' := Aside0.mk H
                            clear H
                            have p228 : 0 ≤ (x8_2 : Int) := of_decide_eq_true (by first | (with_reducible assumption) | assumption)
                            have q228 : x8_2 < (t217.length : Int) := of_decide_eq_true (by first | (with_reducible assumption) | assumption)
                            obtain ⟨ad228, e228, hx228_0, hx228_1, hx228_2⟩ := at_T32 (Kd.R_reads' HO_4.out).2.2 x8_2 p228 q228
                            cases e228
                            replace p228 := eq_true p228
                            replace q228 := eq_true q228
                            go_wp2
                            repeat (go_quiet (fail); try go_wp2)
                            go_meet
                            case rel => exact ⟨_, (true), (by first | rfl | (simp; done) | (simp [*]; done)), H', ⟨by have := HJ6.out; have := HK2.out; first | omega | exact Nat.le_refl _⟩, ⟨by (with_reducible repeat (first | apply Kd.R_alloc | apply Kd.R_drewN | apply Kd.R_drew)); exact HO_4.out⟩, ⟨by repeat (first | (with_reducible first | exact HB.out | apply below_alloc | apply pw_below_drewN | apply below_drew1) | exact HB.out)⟩⟩
                          · rw [if_neg c28] at H
                            have c28b0 : decide (((rd_T32 t217 x8_2).f1) < x7_2) = false := decide_eq_false c28
                            clear c28
                            (first | rw [c28b0] | (simp only [i64_w, i32_w]; rw [c28b0]) | skip)
                            by_cases c29 : (wrap64 (((rd_T32 t217 x8_2).f1) + (t227.size : Int))) > (a0.size : Int)
                            · rw [if_pos c29] at H
                              have c29b0 : decide ((a0.size : Int) < (wrap64 (((rd_T32 t217 x8_2).f1) + (t227.size : Int)))) = true := decide_eq_true c29
                              clear c29
                              have H' := Aside0.mk H
                              clear H
                              have p228 : 0 ≤ (x8_2 : Int) := of_decide_eq_true (by first | (with_reducible assumption) | assumption)
                              have q228 : x8_2 < (t217.length : Int) := of_decide_eq_true (by first | (with_reducible assumption) | assumption)
                              obtain ⟨ad228, e228, hx228_0, hx228_1, hx228_2⟩ := at_T32 (Kd.R_reads' HO_4.out).2.2 x8_2 p228 q228
                              cases e228
                              replace p228 := eq_true p228
                              replace q228 := eq_true q228
                              have p229 : 0 ≤ (x8_2 : Int) := of_decide_eq_true (by first | (with_reducible assumption) | assumption)
                              have q229 : x8_2 < (t217.length : Int) := of_decide_eq_true (by first | (with_reducible assumption) | assumption)
                              obtain ⟨ad229, e229, hx229_0, hx229_1, hx229_2⟩ := at_T32 (Kd.R_reads' HO_4.out).2.2 x8_2 p229 q229
                              obtain rfl : ad228 = ad229 := (by injection e229)
                              replace p229 := eq_true p229
                              replace q229 := eq_true q229
                              go_wp2
                              repeat (go_quiet (fail); try go_wp2)
                              go_meet
                              case rel => exact ⟨_, (true), (by first | rfl | (simp; done) | (simp [*]; done)), H', ⟨by have := HJ6.out; have := HK2.out; first | omega | exact Nat.le_refl _⟩, ⟨by (with_reducible repeat (first | apply Kd.R_alloc | apply Kd.R_drewN | apply Kd.R_drew)); exact HO_4.out⟩, ⟨by repeat (first | (with_reducible first | exact HB.out | apply below_alloc | apply pw_below_drewN | apply below_drew1) | exact HB.out)⟩⟩
                            · rw [if_neg c29] at H
                              have c29b0 : decide ((a0.size : Int) < (wrap64 (((rd_T32 t217 x8_2).f1) + (t227.size : Int)))) = false := decide_eq_false c29
                              clear c29
                              by_cases c30 : 0 ≤ ((rd_T32 t217 x8_2).f1)
                              · rw [if_pos c30] at H
                                have c30b0 := eq_true c30
                                have c30b1 : decide (0 ≤ ((rd_T32 t217 x8_2).f1)) = true := decide_eq_true c30
                                clear c30
                                by_cases c31 : ((rd_T32 t217 x8_2).f1) ≤ (wrap64 (((rd_T32 t217 x8_2).f1) + (t227.size : Int)))
                                · rw [if_pos c31] at H
                                  have c31b0 := eq_true c31
                                  have c31b1 : decide (((rd_T32 t217 x8_2).f1) ≤ (wrap64 (((rd_T32 t217 x8_2).f1) + (t227.size : Int)))) = true := decide_eq_true c31
                                  by_cases c32 : (wrap64 (((rd_T32 t217 x8_2).f1) + (t227.size : Int))) ≤ (a0.size : Int)
                                  · rw [if_pos c32] at H
                                    have c32b0 := eq_true c32
                                    have c32b1 : decide ((wrap64 (((rd_T32 t217 x8_2).f1) + (t227.size : Int))) ≤ (a0.size : Int)) = true := decide_eq_true c32
                                    have H' := Aside0.mk H
                                    clear H
                                    have p228 : 0 ≤ (x8_2 : Int) := of_decide_eq_true (by first | (with_reducible assumption) | assumption)
                                    have q228 : x8_2 < (t217.length : Int) := of_decide_eq_true (by first | (with_reducible assumption) | assumption)
                                    obtain ⟨ad228, e228, hx228_0, hx228_1, hx228_2⟩ := at_T32 (Kd.R_reads' HO_4.out).2.2 x8_2 p228 q228
                                    cases e228
                                    replace p228 := eq_true p228
                                    replace q228 := eq_true q228
                                    have p229 : 0 ≤ (x8_2 : Int) := of_decide_eq_true (by first | (with_reducible assumption) | assumption)
                                    have q229 : x8_2 < (t217.length : Int) := of_decide_eq_true (by first | (with_reducible assumption) | assumption)
                                    obtain ⟨ad229, e229, hx229_0, hx229_1, hx229_2⟩ := at_T32 (Kd.R_reads' HO_4.out).2.2 x8_2 p229 q229
                                    obtain rfl : ad228 = ad229 := (by injection e229)
                                    replace p229 := eq_true p229
                                    replace q229 := eq_true q229
                                    have p230 : 0 ≤ (x8_2 : Int) := of_decide_eq_true (by first | (with_reducible assumption) | assumption)
                                    have q230 : x8_2 < (t217.length : Int) := of_decide_eq_true (by first | (with_reducible assumption) | assumption)
                                    obtain ⟨ad230, e230, hx230_0, hx230_1, hx230_2⟩ := at_T32 (Kd.R_reads' HO_4.out).2.2 x8_2 p230 q230
                                    obtain rfl : ad228 = ad230 := (by injection e230)
                                    replace p230 := eq_true p230
                                    replace q230 := eq_true q230
                                    have p231 : 0 ≤ (x8_2 : Int) := of_decide_eq_true (by first | (with_reducible assumption) | assumption)
                                    have q231 : x8_2 < (t217.length : Int) := of_decide_eq_true (by first | (with_reducible assumption) | assumption)
                                    obtain ⟨ad231, e231, hx231_0, hx231_1, hx231_2⟩ := at_T32 (Kd.R_reads' HO_4.out).2.2 x8_2 p231 q231
                                    obtain rfl : ad228 = ad231 := (by injection e231)
                                    replace p231 := eq_true p231
                                    replace q231 := eq_true q231
                                    go_wp2
                                    repeat (go_quiet (fail); try go_wp2)
                                    go_meet
                                    case rel => exact ⟨_, (((a0.extract (((rd_T32 t217 x8_2).f1) : Int).toNat ((wrap64 (((rd_T32 t217 x8_2).f1) + (t227.size : Int))) : Int).toNat).toList != t227.toList)), (by first | rfl | (simp; done) | (simp [*]; done)), H', ⟨by have := HJ6.out; have := HK2.out; first | omega | exact Nat.le_refl _⟩, ⟨by (with_reducible repeat (first | apply Kd.R_alloc | apply Kd.R_drewN | apply Kd.R_drew)); exact HO_4.out⟩, ⟨by repeat (first | (with_reducible first | exact HB.out | apply below_alloc | apply pw_below_drewN | apply below_drew1) | exact HB.out)⟩⟩
                                  · rw [if_neg c32] at H
                                    exact absurd H (by simp)
                                · rw [if_neg c31] at H
                                  exact absurd H (by simp)
                              · rw [if_neg c30] at H
                                exact absurd H (by simp)
                        case rest =>
                          clear HC24
                          try clear c1
                          try clear c2
                          try clear p2
                          try clear q2
                          try clear hx2
                          try clear c3
                          try clear c3b0
                          try clear c3b1
                          try clear c5
                          try clear c6
                          try clear c6b0
                          try clear c6b1
                          try clear p6
                          try clear c10
                          try clear c10b0
                          try clear c10b1
                          try clear c10b2
                          try clear c13
                          try clear c13b0
                          try clear c14
                          try clear c14b0
                          try clear c15
                          try clear c15b0
                          try clear c15b1
                          try clear c18
                          try clear c19
                          try clear c19b0
                          try clear c20
                          try clear c20b0
                          try clear c20b1
                          try clear c21
                          try clear c21b0
                          try clear c21b1
                          try clear c22
                          try clear c22b0
                          try clear c22b1
                          try clear p22
                          try clear q22
                          try clear hx22
                          try clear p23
                          try clear q23
                          try clear hx23
                          try clear c26
                          try clear q26
                          try clear c28
                          try clear c28b0
                          try clear c29
                          try clear c29b0
                          try clear c30
                          try clear c30b0
                          try clear c30b1
                          try clear c31
                          try clear c31b0
                          try clear c31b1
                          try clear c32
                          try clear c32b0
                          try clear c32b1
                          try clear hx222_0
                          try clear hx222_1
                          try clear hx222_2
                          try clear hx228_0
                          try clear hx228_1
                          try clear hx228_2
                          try clear hx229_0
                          try clear hx229_1
                          try clear hx229_2
                          try clear hx230_0
                          try clear hx230_1
                          try clear hx230_2
                          try clear hx231_0
                          try clear hx231_1
                          try clear hx231_2
                          try clear p2
                          try clear p222
                          try clear p228
                          try clear p229
                          try clear p230
                          try clear p231
                          try clear p6
                          try clear q026
                          try clear q2
                          try clear q222
                          try clear q228
                          try clear q229
                          try clear q230
                          try clear q231
                          try clear q26
                          obtain ⟨kq, x103_23, rfl, HA, HJ23, HO_4, HB⟩ := hcut
                          cases kq with
                          | zero => exact absurd HA.out (by simp [lustrumlaw09_LexPlaces.j2])
                          | succ kj23 =>
                            have H := HA.out
                            clear HA
                            simp only [lustrumlaw09_LexPlaces.j2] at H
                            by_cases c33 : x103_23 = true
                            · subst c33
                              have H1 : (some false) = some r := by rw [if_pos rfl] at H; exact H
                              clear H
                              have H := H1
                              clear H1
                              obtain rfl := Option.some.inj H
                              go_wp2
                              repeat (go_quiet (fail); try go_wp2)
                              go_ret
                              exact ⟨by first | rfl | (simp [errW_none, errW_some] <;> rfl) | (simp [*, errW_none, errW_some] <;> rfl), by repeat (first | (with_reducible first | exact HB.out | apply below_alloc | apply pw_below_drewN | apply below_drew1) | exact HB.out)⟩
                            · replace c33 := Bool.eq_false_iff.mpr c33
                              subst c33
                              have H1 : (lustrumlaw09_LexPlaces.l1 kj23 a0 t216 t217 x7_2 x8_2 t227) = some r := by rw [if_neg (show ¬ (false = true) by decide)] at H; exact H
                              clear H
                              have H := H1
                              clear H1
                              have H' := Aside0.mk H
                              clear H
                              go_wp2
                              repeat (go_quiet (fail); try go_wp2)
                              go_loopg [7] kj23 (fun kq v7 w' => ∃ (x7_4 : Int), v7 = .int .i64 x7_4 ∧ Aside0 (lustrumlaw09_LexPlaces.l1 kq a0 t216 t217 x7_4 x8_2 t227 = some r) ∧ Aside0 (kq ≤ kj23) ∧ Aside0 (Kd.R k32 32 w' w.heap.size (fun _ => True) (.slice Ao25 t217.length co25) t217) ∧ Aside0 (Below w.heap.size w w'))
                              case atStart => exact ⟨(x7_2), (by first | rfl | (simp; done) | (simp [*]; done)), H', ⟨Nat.le_refl _⟩, ⟨by (with_reducible repeat (first | apply Kd.R_alloc | apply Kd.R_drewN | apply Kd.R_drew)); exact HO_4.out⟩, ⟨by repeat (first | (with_reducible first | exact HB.out | apply below_alloc | apply pw_below_drewN | apply below_drew1) | exact HB.out)⟩⟩
                              case round =>
                                clear H'
                                try clear c1
                                try clear c2
                                try clear p2
                                try clear q2
                                try clear hx2
                                try clear c3
                                try clear c3b0
                                try clear c3b1
                                try clear c5
                                try clear c6
                                try clear c6b0
                                try clear c6b1
                                try clear p6
                                try clear c10
                                try clear c10b0
                                try clear c10b1
                                try clear c10b2
                                try clear c13
                                try clear c13b0
                                try clear c14
                                try clear c14b0
                                try clear c15
                                try clear c15b0
                                try clear c15b1
                                try clear c18
                                try clear c19
                                try clear c19b0
                                try clear c20
                                try clear c20b0
                                try clear c20b1
                                try clear c21
                                try clear c21b0
                                try clear c21b1
                                try clear c22
                                try clear c22b0
                                try clear c22b1
                                try clear p22
                                try clear q22
                                try clear hx22
                                try clear p23
                                try clear q23
                                try clear hx23
                                try clear c26
                                try clear q26
                                try clear c28
                                try clear c28b0
                                try clear c29
                                try clear c29b0
                                try clear c30
                                try clear c30b0
                                try clear c30b1
                                try clear c31
                                try clear c31b0
                                try clear c31b1
                                try clear c32
                                try clear c32b0
                                try clear c32b1
                                try clear c33
                                try clear hx222_0
                                try clear hx222_1
                                try clear hx222_2
                                try clear hx228_0
                                try clear hx228_1
                                try clear hx228_2
                                try clear hx229_0
                                try clear hx229_1
                                try clear hx229_2
                                try clear hx230_0
                                try clear hx230_1
                                try clear hx230_2
                                try clear hx231_0
                                try clear hx231_1
                                try clear hx231_2
                                try clear p2
                                try clear p22
                                try clear p222
                                try clear p228
                                try clear p229
                                try clear p23
                                try clear p230
                                try clear p231
                                try clear p6
                                try clear q026
                                try clear q2
                                try clear q22
                                try clear q222
                                try clear q228
                                try clear q229
                                try clear q23
                                try clear q230
                                try clear q231
                                try clear q26
                                obtain ⟨x7_4, rfl, HA, HK4, HO_4, HB⟩ := hrel
                                cases gk with
                                | zero => exact absurd HA.out (by simp [lustrumlaw09_LexPlaces.l1])
                                | succ k4 =>
                                  have H := HA.out
                                  clear HA
                                  simp only [lustrumlaw09_LexPlaces.l1] at H
                                  by_cases c34 : 0 ≤ x8_2
                                  · rw [if_pos c34] at H
                                    have c34b0 : decide (0 ≤ x8_2) = true := decide_eq_true c34
                                    clear c34
                                    by_cases c35 : x8_2 < (t217.length : Int)
                                    · rw [if_pos c35] at H
                                      have c35b0 : decide (x8_2 < (t217.length : Int)) = true := decide_eq_true c35
                                      clear c35
                                      by_cases c36 : x7_4 < ((rd_T32 t217 x8_2).f1)
                                      · rw [if_pos c36] at H
                                        have c36b0 : decide (x7_4 < ((rd_T32 t217 x8_2).f1)) = true := decide_eq_true c36
                                        clear c36
                                        by_cases c37 : 0 ≤ x7_4
                                        · rw [if_pos c37] at H
                                          have c37b0 : decide (0 ≤ x7_4) = true := decide_eq_true c37
                                          clear c37
                                          by_cases c38 : x7_4 < (a0.size : Int)
                                          · rw [if_pos c38] at H
                                            have c38b0 : decide (x7_4 < (a0.size : Int)) = true := decide_eq_true c38
                                            clear c38
                                            by_cases c40 : (bt a0 x7_4) = 32
                                            · rw [if_pos c40] at H
                                              have c40b0 : ((bt a0 x7_4) == 32) = true := beq_iff_eq.mpr c40
                                              have c40b1 : ((bt a0 x7_4) != 32) = false := bne_eq_false_iff_eq.mpr c40
                                              clear c40
                                              have H' := Aside0.mk H
                                              clear H
                                              have p232 : 0 ≤ (x8_2 : Int) := of_decide_eq_true (by first | (with_reducible assumption) | assumption)
                                              have q232 : x8_2 < (t217.length : Int) := of_decide_eq_true (by first | (with_reducible assumption) | assumption)
                                              obtain ⟨ad232, e232, hx232_0, hx232_1, hx232_2⟩ := at_T32 (Kd.R_reads' HO_4.out).2.2 x8_2 p232 q232
                                              cases e232
                                              replace p232 := eq_true p232
                                              replace q232 := eq_true q232
                                              have p39 : 0 ≤ (x7_4 : Int) := of_decide_eq_true (by first | (with_reducible assumption) | assumption)
                                              have q39 : x7_4 < (a0.size : Int) := of_decide_eq_true (by first | (with_reducible assumption) | assumption)
                                              have hx39 := bt_at a0 x7_4
                                              replace p39 := eq_true p39
                                              replace q39 := eq_true q39
                                              go_wp2
                                              repeat (go_quiet (fail); try go_wp2)
                                              go_roundg k4
                                              case measure => have := HJ6.out; have := HK2.out; have := HJ23.out; have := HK4.out; omega
                                              case rel => exact ⟨(wrap64 (x7_4 + 1)), (by first | rfl | (simp; done) | (simp [*]; done)), H', ⟨by have := HJ6.out; have := HK2.out; have := HJ23.out; have := HK4.out; omega⟩, ⟨by (with_reducible repeat (first | apply Kd.R_alloc | apply Kd.R_drewN | apply Kd.R_drew)); exact HO_4.out⟩, ⟨by repeat (first | (with_reducible first | exact HB.out | apply below_alloc | apply pw_below_drewN | apply below_drew1) | exact HB.out)⟩⟩
                                            · rw [if_neg c40] at H
                                              have c40b0 : ((bt a0 x7_4) == 32) = false := beq_eq_false_iff_ne.mpr c40
                                              have c40b1 : ((bt a0 x7_4) != 32) = true := bne_iff_ne.mpr c40
                                              obtain rfl := Option.some.inj H
                                              have p232 : 0 ≤ (x8_2 : Int) := of_decide_eq_true (by first | (with_reducible assumption) | assumption)
                                              have q232 : x8_2 < (t217.length : Int) := of_decide_eq_true (by first | (with_reducible assumption) | assumption)
                                              obtain ⟨ad232, e232, hx232_0, hx232_1, hx232_2⟩ := at_T32 (Kd.R_reads' HO_4.out).2.2 x8_2 p232 q232
                                              cases e232
                                              replace p232 := eq_true p232
                                              replace q232 := eq_true q232
                                              have p39 : 0 ≤ (x7_4 : Int) := of_decide_eq_true (by first | (with_reducible assumption) | assumption)
                                              have q39 : x7_4 < (a0.size : Int) := of_decide_eq_true (by first | (with_reducible assumption) | assumption)
                                              have hx39 := bt_at a0 x7_4
                                              replace p39 := eq_true p39
                                              replace q39 := eq_true q39
                                              go_wp2
                                              repeat (go_quiet (fail); try go_wp2)
                                              go_ret
                                              exact ⟨by first | rfl | (simp [errW_none, errW_some] <;> rfl) | (simp [*, errW_none, errW_some] <;> rfl), by repeat (first | (with_reducible first | exact HB.out | apply below_alloc | apply pw_below_drewN | apply below_drew1) | exact HB.out)⟩
                                          · rw [if_neg c38] at H
                                            exact absurd H (by simp)
                                        · rw [if_neg c37] at H
                                          exact absurd H (by simp)
                                      · rw [if_neg c36] at H
                                        have c36b0 : decide (x7_4 < ((rd_T32 t217 x8_2).f1)) = false := decide_eq_false c36
                                        clear c36
                                        have H' := Aside0.mk H
                                        clear H
                                        have p232 : 0 ≤ (x8_2 : Int) := of_decide_eq_true (by first | (with_reducible assumption) | assumption)
                                        have q232 : x8_2 < (t217.length : Int) := of_decide_eq_true (by first | (with_reducible assumption) | assumption)
                                        obtain ⟨ad232, e232, hx232_0, hx232_1, hx232_2⟩ := at_T32 (Kd.R_reads' HO_4.out).2.2 x8_2 p232 q232
                                        cases e232
                                        replace p232 := eq_true p232
                                        replace q232 := eq_true q232
                                        go_wp2
                                        repeat (go_quiet (fail); try go_wp2)
                                        go_roundg k4
                                        case measure => have := HJ6.out; have := HK2.out; have := HJ23.out; have := HK4.out; omega
                                        case rel => exact ⟨(wrap64 (x7_4 + (t227.size : Int))), (wrap64 (x8_2 + 1)), (by first | rfl | (simp; done) | (simp [*]; done)), (by first | rfl | (simp; done) | (simp [*]; done)), H', ⟨by have := HJ6.out; have := HK2.out; have := HJ23.out; have := HK4.out; omega⟩, ⟨by (with_reducible repeat (first | apply Kd.R_alloc | apply Kd.R_drewN | apply Kd.R_drew)); exact HO_4.out⟩, ⟨by repeat (first | (with_reducible first | exact HB.out | apply below_alloc | apply pw_below_drewN | apply below_drew1) | exact HB.out)⟩⟩
                                    · rw [if_neg c35] at H
                                      exact absurd H (by simp)
                                  · rw [if_neg c34] at H
                                    exact absurd H (by simp)
                      · rw [if_neg c22] at H
                        exact absurd H (by simp)
                    · rw [if_neg c21] at H
                      exact absurd H (by simp)
                  · rw [if_neg c20] at H
                    exact absurd H (by simp)
                · rw [if_neg c19] at H
                  have c19b0 : decide (x8_2 < (t217.length : Int)) = false := decide_eq_false c19
                  clear c19
                  by_cases c41 : t216 = true
                  · subst c41
                    have H1 : (some (x7_2 == (a0.size : Int))) = some r := by rw [if_pos rfl] at H; exact H
                    clear H
                    have H := H1
                    clear H1
                    obtain rfl := Option.some.inj H
                    obtain ⟨Ao42, co42, eo42⟩ := Kd.R_slice HO_4.out
                    subst eo42
                    go_wp2
                    repeat (go_quiet (fail); try go_wp2)
                    go_ret
                    exact ⟨by first | rfl | (simp [errW_none, errW_some] <;> rfl) | (simp [*, errW_none, errW_some] <;> rfl), by repeat (first | (with_reducible first | exact HB.out | apply below_alloc | apply pw_below_drewN | apply below_drew1) | exact HB.out)⟩
                  · replace c41 := Bool.eq_false_iff.mpr c41
                    subst c41
                    have H1 : (some false) = some r := by rw [if_neg (show ¬ (false = true) by decide)] at H; exact H
                    clear H
                    have H := H1
                    clear H1
                    obtain rfl := Option.some.inj H
                    obtain ⟨Ao43, co43, eo43⟩ := Kd.R_slice HO_4.out
                    subst eo43
                    go_wp2
                    repeat (go_quiet (fail); try go_wp2)
                    go_ret
                    exact ⟨by first | rfl | (simp [errW_none, errW_some] <;> rfl) | (simp [*, errW_none, errW_some] <;> rfl), by repeat (first | (with_reducible first | exact HB.out | apply below_alloc | apply pw_below_drewN | apply below_drew1) | exact HB.out)⟩
    · rw [if_neg c6] at H
      have c6b0 : (t219 == 0) = false := beq_eq_false_iff_ne.mpr c6
      have c6b1 : (t219 != 0) = true := bne_iff_ne.mpr c6
      by_cases c44 : t216 = true
      · subst c44
        have H1 : (if t218 ≥ 0 then (some (decide (t218 < (a0.size : Int)))) else (some false)) = some r := by rw [if_pos rfl] at H; exact H
        clear H
        have H := H1
        clear H1
        by_cases c45 : t218 ≥ 0
        · rw [if_pos c45] at H
          have c45b0 : decide (0 ≤ t218) = true := decide_eq_true c45
          clear c45
          obtain rfl := Option.some.inj H
          go_enter Try.func5, Try.ntmps5
          go_wp2_with (first | (go_at_call 8; (with_reducible refine (lustrumlaw09_awake.calls k  true _ A2.out).mono ?_); rintro e w46 ⟨rfl, hb⟩; have n0_ := Aside0.mk (below_step (by repeat (first | (with_reducible first | exact HB.out | apply below_alloc | apply pw_below_drewN | apply below_drew1) | exact HB.out)) hb); clear HB; have HB := n0_; clear n0_; (try clear hb); (try clear hb2); (try clear hk); (try clear hi)) | (go_at_call 10; (with_reducible refine (lex_All.calls k a0 t217 t218 t219 _ A5.out).mono ?_); rintro e w47 ⟨v220, rfl, ho0, hb⟩; have n0_ := Aside0.mk (Kd.R_lower ho0 (below_size (by repeat (first | (with_reducible first | exact HB.out | apply below_alloc | apply pw_below_drewN | apply below_drew1) | exact HB.out)))); have n1_ := Aside0.mk (below_step (by repeat (first | (with_reducible first | exact HB.out | apply below_alloc | apply pw_below_drewN | apply below_drew1) | exact HB.out)) hb); clear HB; have HO221 := n0_; have HB := n1_; clear n0_ n1_; (try clear hb); (try clear hb2); (try clear hk); (try clear hi); (try clear ho0)))
          repeat (go_quiet (first | (go_at_call 8; (with_reducible refine (lustrumlaw09_awake.calls k  true _ A2.out).mono ?_); rintro e w46 ⟨rfl, hb⟩; have n0_ := Aside0.mk (below_step (by repeat (first | (with_reducible first | exact HB.out | apply below_alloc | apply pw_below_drewN | apply below_drew1) | exact HB.out)) hb); clear HB; have HB := n0_; clear n0_; (try clear hb); (try clear hb2); (try clear hk); (try clear hi)) | (go_at_call 10; (with_reducible refine (lex_All.calls k a0 t217 t218 t219 _ A5.out).mono ?_); rintro e w47 ⟨v220, rfl, ho0, hb⟩; have n0_ := Aside0.mk (Kd.R_lower ho0 (below_size (by repeat (first | (with_reducible first | exact HB.out | apply below_alloc | apply pw_below_drewN | apply below_drew1) | exact HB.out)))); have n1_ := Aside0.mk (below_step (by repeat (first | (with_reducible first | exact HB.out | apply below_alloc | apply pw_below_drewN | apply below_drew1) | exact HB.out)) hb); clear HB; have HO221 := n0_; have HB := n1_; clear n0_ n1_; (try clear hb); (try clear hb2); (try clear hk); (try clear hi); (try clear ho0))); try go_wp2_with (first | (go_at_call 8; (with_reducible refine (lustrumlaw09_awake.calls k  true _ A2.out).mono ?_); rintro e w46 ⟨rfl, hb⟩; have n0_ := Aside0.mk (below_step (by repeat (first | (with_reducible first | exact HB.out | apply below_alloc | apply pw_below_drewN | apply below_drew1) | exact HB.out)) hb); clear HB; have HB := n0_; clear n0_; (try clear hb); (try clear hb2); (try clear hk); (try clear hi)) | (go_at_call 10; (with_reducible refine (lex_All.calls k a0 t217 t218 t219 _ A5.out).mono ?_); rintro e w47 ⟨v220, rfl, ho0, hb⟩; have n0_ := Aside0.mk (Kd.R_lower ho0 (below_size (by repeat (first | (with_reducible first | exact HB.out | apply below_alloc | apply pw_below_drewN | apply below_drew1) | exact HB.out)))); have n1_ := Aside0.mk (below_step (by repeat (first | (with_reducible first | exact HB.out | apply below_alloc | apply pw_below_drewN | apply below_drew1) | exact HB.out)) hb); clear HB; have HO221 := n0_; have HB := n1_; clear n0_ n1_; (try clear hb); (try clear hb2); (try clear hk); (try clear hi); (try clear ho0))))
          go_ret
          exact ⟨by first | rfl | (simp [errW_none, errW_some] <;> rfl) | (simp [*, errW_none, errW_some] <;> rfl), by repeat (first | (with_reducible first | exact HB.out | apply below_alloc | apply pw_below_drewN | apply below_drew1) | exact HB.out)⟩
        · rw [if_neg c45] at H
          have c45b0 : decide (0 ≤ t218) = false := decide_eq_false c45
          clear c45
          obtain rfl := Option.some.inj H
          go_enter Try.func5, Try.ntmps5
          go_wp2_with (first | (go_at_call 8; (with_reducible refine (lustrumlaw09_awake.calls k  true _ A2.out).mono ?_); rintro e w48 ⟨rfl, hb⟩; have n0_ := Aside0.mk (below_step (by repeat (first | (with_reducible first | exact HB.out | apply below_alloc | apply pw_below_drewN | apply below_drew1) | exact HB.out)) hb); clear HB; have HB := n0_; clear n0_; (try clear hb); (try clear hb2); (try clear hk); (try clear hi)) | (go_at_call 10; (with_reducible refine (lex_All.calls k a0 t217 t218 t219 _ A5.out).mono ?_); rintro e w49 ⟨v220, rfl, ho0, hb⟩; have n0_ := Aside0.mk (Kd.R_lower ho0 (below_size (by repeat (first | (with_reducible first | exact HB.out | apply below_alloc | apply pw_below_drewN | apply below_drew1) | exact HB.out)))); have n1_ := Aside0.mk (below_step (by repeat (first | (with_reducible first | exact HB.out | apply below_alloc | apply pw_below_drewN | apply below_drew1) | exact HB.out)) hb); clear HB; have HO221 := n0_; have HB := n1_; clear n0_ n1_; (try clear hb); (try clear hb2); (try clear hk); (try clear hi); (try clear ho0)))
          repeat (go_quiet (first | (go_at_call 8; (with_reducible refine (lustrumlaw09_awake.calls k  true _ A2.out).mono ?_); rintro e w48 ⟨rfl, hb⟩; have n0_ := Aside0.mk (below_step (by repeat (first | (with_reducible first | exact HB.out | apply below_alloc | apply pw_below_drewN | apply below_drew1) | exact HB.out)) hb); clear HB; have HB := n0_; clear n0_; (try clear hb); (try clear hb2); (try clear hk); (try clear hi)) | (go_at_call 10; (with_reducible refine (lex_All.calls k a0 t217 t218 t219 _ A5.out).mono ?_); rintro e w49 ⟨v220, rfl, ho0, hb⟩; have n0_ := Aside0.mk (Kd.R_lower ho0 (below_size (by repeat (first | (with_reducible first | exact HB.out | apply below_alloc | apply pw_below_drewN | apply below_drew1) | exact HB.out)))); have n1_ := Aside0.mk (below_step (by repeat (first | (with_reducible first | exact HB.out | apply below_alloc | apply pw_below_drewN | apply below_drew1) | exact HB.out)) hb); clear HB; have HO221 := n0_; have HB := n1_; clear n0_ n1_; (try clear hb); (try clear hb2); (try clear hk); (try clear hi); (try clear ho0))); try go_wp2_with (first | (go_at_call 8; (with_reducible refine (lustrumlaw09_awake.calls k  true _ A2.out).mono ?_); rintro e w48 ⟨rfl, hb⟩; have n0_ := Aside0.mk (below_step (by repeat (first | (with_reducible first | exact HB.out | apply below_alloc | apply pw_below_drewN | apply below_drew1) | exact HB.out)) hb); clear HB; have HB := n0_; clear n0_; (try clear hb); (try clear hb2); (try clear hk); (try clear hi)) | (go_at_call 10; (with_reducible refine (lex_All.calls k a0 t217 t218 t219 _ A5.out).mono ?_); rintro e w49 ⟨v220, rfl, ho0, hb⟩; have n0_ := Aside0.mk (Kd.R_lower ho0 (below_size (by repeat (first | (with_reducible first | exact HB.out | apply below_alloc | apply pw_below_drewN | apply below_drew1) | exact HB.out)))); have n1_ := Aside0.mk (below_step (by repeat (first | (with_reducible first | exact HB.out | apply below_alloc | apply pw_below_drewN | apply below_drew1) | exact HB.out)) hb); clear HB; have HO221 := n0_; have HB := n1_; clear n0_ n1_; (try clear hb); (try clear hb2); (try clear hk); (try clear hi); (try clear ho0))))
          go_ret
          exact ⟨by first | rfl | (simp [errW_none, errW_some] <;> rfl) | (simp [*, errW_none, errW_some] <;> rfl), by repeat (first | (with_reducible first | exact HB.out | apply below_alloc | apply pw_below_drewN | apply below_drew1) | exact HB.out)⟩
      · replace c44 := Bool.eq_false_iff.mpr c44
        subst c44
        have H1 : (some false) = some r := by rw [if_neg (show ¬ (false = true) by decide)] at H; exact H
        clear H
        have H := H1
        clear H1
        obtain rfl := Option.some.inj H
        go_enter Try.func5, Try.ntmps5
        go_wp2_with (first | (go_at_call 8; (with_reducible refine (lustrumlaw09_awake.calls k  false _ A2.out).mono ?_); rintro e w50 ⟨rfl, hb⟩; have n0_ := Aside0.mk (below_step (by repeat (first | (with_reducible first | exact HB.out | apply below_alloc | apply pw_below_drewN | apply below_drew1) | exact HB.out)) hb); clear HB; have HB := n0_; clear n0_; (try clear hb); (try clear hb2); (try clear hk); (try clear hi)) | (go_at_call 10; (with_reducible refine (lex_All.calls k a0 t217 t218 t219 _ A5.out).mono ?_); rintro e w51 ⟨v220, rfl, ho0, hb⟩; have n0_ := Aside0.mk (Kd.R_lower ho0 (below_size (by repeat (first | (with_reducible first | exact HB.out | apply below_alloc | apply pw_below_drewN | apply below_drew1) | exact HB.out)))); have n1_ := Aside0.mk (below_step (by repeat (first | (with_reducible first | exact HB.out | apply below_alloc | apply pw_below_drewN | apply below_drew1) | exact HB.out)) hb); clear HB; have HO221 := n0_; have HB := n1_; clear n0_ n1_; (try clear hb); (try clear hb2); (try clear hk); (try clear hi); (try clear ho0)))
        repeat (go_quiet (first | (go_at_call 8; (with_reducible refine (lustrumlaw09_awake.calls k  false _ A2.out).mono ?_); rintro e w50 ⟨rfl, hb⟩; have n0_ := Aside0.mk (below_step (by repeat (first | (with_reducible first | exact HB.out | apply below_alloc | apply pw_below_drewN | apply below_drew1) | exact HB.out)) hb); clear HB; have HB := n0_; clear n0_; (try clear hb); (try clear hb2); (try clear hk); (try clear hi)) | (go_at_call 10; (with_reducible refine (lex_All.calls k a0 t217 t218 t219 _ A5.out).mono ?_); rintro e w51 ⟨v220, rfl, ho0, hb⟩; have n0_ := Aside0.mk (Kd.R_lower ho0 (below_size (by repeat (first | (with_reducible first | exact HB.out | apply below_alloc | apply pw_below_drewN | apply below_drew1) | exact HB.out)))); have n1_ := Aside0.mk (below_step (by repeat (first | (with_reducible first | exact HB.out | apply below_alloc | apply pw_below_drewN | apply below_drew1) | exact HB.out)) hb); clear HB; have HO221 := n0_; have HB := n1_; clear n0_ n1_; (try clear hb); (try clear hb2); (try clear hk); (try clear hi); (try clear ho0))); try go_wp2_with (first | (go_at_call 8; (with_reducible refine (lustrumlaw09_awake.calls k  false _ A2.out).mono ?_); rintro e w50 ⟨rfl, hb⟩; have n0_ := Aside0.mk (below_step (by repeat (first | (with_reducible first | exact HB.out | apply below_alloc | apply pw_below_drewN | apply below_drew1) | exact HB.out)) hb); clear HB; have HB := n0_; clear n0_; (try clear hb); (try clear hb2); (try clear hk); (try clear hi)) | (go_at_call 10; (with_reducible refine (lex_All.calls k a0 t217 t218 t219 _ A5.out).mono ?_); rintro e w51 ⟨v220, rfl, ho0, hb⟩; have n0_ := Aside0.mk (Kd.R_lower ho0 (below_size (by repeat (first | (with_reducible first | exact HB.out | apply below_alloc | apply pw_below_drewN | apply below_drew1) | exact HB.out)))); have n1_ := Aside0.mk (below_step (by repeat (first | (with_reducible first | exact HB.out | apply below_alloc | apply pw_below_drewN | apply below_drew1) | exact HB.out)) hb); clear HB; have HO221 := n0_; have HB := n1_; clear n0_ n1_; (try clear hb); (try clear hb2); (try clear hk); (try clear hi); (try clear ho0))))
        go_ret
        exact ⟨by first | rfl | (simp [errW_none, errW_some] <;> rfl) | (simp [*, errW_none, errW_some] <;> rfl), by repeat (first | (with_reducible first | exact HB.out | apply below_alloc | apply pw_below_drewN | apply below_drew1) | exact HB.out)⟩

/-- THE ONE PURE STATEMENT of lustrumlaw09_LexPlaces: yours. -/
def lustrumlaw09_LexPlaces.Pure : Prop := ∀ (a0 : ByteArray), a0.size ≤ 140737488351232 → ∃ k, lustrumlaw09_LexPlaces.f k a0 = some true
theorem lustrumlaw09_LexPlaces.walk (P : lustrumlaw09_LexPlaces.Pure) (a0 : ByteArray) (w : World) (w0 : a0.size ≤ 140737488351232) :
    Calls Try.prog 5 #[.string a0] w fun e w' => e = .returned (.bool true) ∧ Below w.heap.size w w' := by
  obtain ⟨k, h⟩ := P a0 w0
  refine (lustrumlaw09_LexPlaces.calls k a0 true w h).mono ?_
  rintro e w' ⟨rfl, hd⟩
  exact ⟨rfl, hd⟩

end Go.Proofs.Ytahijlmpdmlffaa.P
