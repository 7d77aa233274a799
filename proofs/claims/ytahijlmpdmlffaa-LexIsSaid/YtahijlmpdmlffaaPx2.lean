-- Laid by gp.py (a changed copy of the kit's print program; no text of the kit's own print.sh) out of the translation, and texts by hand. Not trusted: Lean checks it.
import Derived.Test.YtahijlmpdmlffaaPx0
namespace Go.Proofs.Ytahijlmpdmlffaa.P
open Go.RowKit Go.Proofs.YtahijlmpdmlffaaW.PrintWords Go.Proofs.YtahijlmpdmlffaaW.PrintLast Go.Proofs.YtahijlmpdmlffaaW.PrintMore
attribute [local go_sem] max2_int min2_int max_two min_two max_three min_three max_four min_four   -- for this text's walks alone
set_option linter.unusedVariables false
set_option linter.unusedSimpArgs false

-- NOT PRINTED: function 15 (lex_signs)

-- NOT PRINTED: function 25 (bytealg_IndexByteString)

-- NOT PRINTED: function 24 (stringslite_IndexByte)

/-! ### strings_IndexByte: function 20 (by hand) -/
def strings_IndexByte.f (a0 : ByteArray) (a1 : Int) : Option (Int) := some (Lib.indexByte a0.data.toList a1.toNat.toUInt8)
set_option maxRecDepth 100000 in
theorem stringslite_IndexByte.calls (s : ByteArray) (c : Int) (w : World) :
    Calls Try.prog 24 #[.string s, .int .u8 c] w fun e w' => e = .returned (.int .i64 (Lib.indexByte s.data.toList c.toNat.toUInt8)) ∧ w = w' := by
  go_enter Try.func24, Try.ntmps24
  go_wp2
  rw [run_callFunc_extern Try.func25 (by kernel_rfl) (by kernel_rfl) (by kernel_rfl) (e := Extern.BytealgIndexByte.indexByte) (by kernel_rfl), Lib.run_indexByteString]
  simp only [Result.andThen]
  rw [Oper.upon_value]
  go_wp2
  go_ret
  exact ⟨rfl, rfl⟩
theorem strings_IndexByte.calls (a0 : ByteArray) (a1 : Int) (r : Int) (w : World) (h : strings_IndexByte.f a0 a1 = some r) :
    Calls Try.prog 20 #[.string a0, .int .u8 a1] w fun e w' => e = .returned (.int .i64 r) ∧ Drawn0 w w' := by
  obtain rfl := Option.some.inj h
  go_enter Try.func20, Try.ntmps20
  go_wp2_with (go_at_call 24; refine (stringslite_IndexByte.calls _ _ _).mono ?_; rintro e w' ⟨rfl, rfl⟩)
  go_ret
  exact ⟨rfl, Drawn0.refl _⟩

/-! ### lex_word: function 16 -/
def lex_word.l0 : Nat → ByteArray → Int → Option (Int)
  | 0, _, _ => none
  | k + 1, x0, x3 => if x3 < (x0.size : Int) then (if 0 ≤ x3 then ((strings_IndexByte.f (⟨#[48, 49, 50, 51, 52, 53, 54, 55, 56, 57, 88, 45, 115, 100, 99]⟩ : ByteArray) (bt x0 x3)).bind fun t101 => (if t101 ≥ 0 then (lex_word.l0 k x0 (wrap64 (x3 + 1))) else (some x3))) else (none)) else (some x3)
def lex_word.f (k : Nat) (a0 : ByteArray) : Option (Int) := lex_word.l0 k a0 0
theorem lex_word.mono_l : ∀ k, (∀ y0 y1, LeO (lex_word.l0 k y0 y1) (lex_word.l0 (k + 1) y0 y1))
  | 0 => fun _ _ r h => by simp [lex_word.l0] at h
  | k + 1 => by
    have ih0 := lex_word.mono_l k
    · intro y0 y1
      unfold lex_word.l0
      repeat' first
      | (with_reducible exact ih0 _ _)
      | (with_reducible exact LeO.refl _)
      | (with_reducible exact LeO.none _)
      | (with_reducible refine LeO.ite ?_ ?_)
      | (with_reducible refine LeO.bind ?_ (fun _ => ?_))
      | exact ih0 _ _
      | exact LeO.none _
      | refine LeO.ite ?_ ?_
      | refine LeO.bind ?_ (fun _ => ?_)
theorem lex_word.mono : ∀ a0 k, LeO (lex_word.f k a0) (lex_word.f (k + 1) a0) := by
  intro a0 k
  have ih0 := lex_word.mono_l k
  unfold lex_word.f
  repeat' first
      | (with_reducible exact ih0 _ _)
      | (with_reducible exact LeO.refl _)
      | (with_reducible exact LeO.none _)
      | (with_reducible refine LeO.ite ?_ ?_)
      | (with_reducible refine LeO.bind ?_ (fun _ => ?_))
      | exact ih0 _ _
      | exact LeO.none _
      | refine LeO.ite ?_ ?_
      | refine LeO.bind ?_ (fun _ => ?_)
set_option maxHeartbeats 8000000 in
set_option maxRecDepth 100000 in
theorem lex_word.calls (k : Nat) (a0 : ByteArray) (r : Int) (w : World) (h : lex_word.f k a0 = some r) :
    Calls Try.prog 16 #[.string a0] w fun e w' => e = .returned (.int .i64 r) ∧ Drawn0 w w' := by
  have H : (lex_word.l0 k a0 0) = some r := h
  clear h
  have H' := Aside0.mk H
  clear H
  go_enter Try.func16, Try.ntmps16
  go_wp2
  go_loopg [3] k (fun kq v3 w' => ∃ (x3_1 : Int), v3 = .int .i64 x3_1 ∧ Aside0 (lex_word.l0 kq a0 x3_1 = some r) ∧ Aside0 (kq ≤ k) ∧ Drawn0 w w')
  case atStart => exact ⟨(0), (by first | rfl | (simp; done) | (simp [*]; done)), H', ⟨Nat.le_refl _⟩, by repeat (first | exact Drawn0.refl _ | apply Drawn0.step)⟩
  case round =>
    clear H'
    try clear c1
    obtain ⟨x3_1, rfl, HA, HK1, ⟨m1, rfl⟩⟩ := hrel
    cases gk with
    | zero => exact absurd HA.out (by simp [lex_word.l0])
    | succ k1 =>
      have H := HA.out
      clear HA
      simp only [lex_word.l0] at H
      by_cases c2 : x3_1 < (a0.size : Int)
      · rw [if_pos c2] at H
        have c2b0 : decide (x3_1 < (a0.size : Int)) = true := decide_eq_true c2
        clear c2
        by_cases c3 : 0 ≤ x3_1
        · rw [if_pos c3] at H
          have c3b0 : decide (0 ≤ x3_1) = true := decide_eq_true c3
          clear c3
          replace H := Option.bind_eq_some_iff.mp H
          obtain ⟨t101, A50, H⟩ := H
          replace H : (if t101 ≥ 0 then (lex_word.l0 k1 a0 (wrap64 (x3_1 + 1))) else (some x3_1)) = some r := H
          have A5 := Aside0.mk A50
          clear A50
          by_cases c6 : t101 ≥ 0
          · rw [if_pos c6] at H
            have c6b0 : decide (0 ≤ t101) = true := decide_eq_true c6
            clear c6
            have H' := Aside0.mk H
            clear H
            have p4 : 0 ≤ (x3_1 : Int) := of_decide_eq_true (by first | (with_reducible assumption) | assumption)
            have q4 : x3_1 < (a0.size : Int) := of_decide_eq_true (by first | (with_reducible assumption) | assumption)
            have hx4 := bt_at a0 x3_1
            replace p4 := eq_true p4
            replace q4 := eq_true q4
            go_wp2_with (first | (go_at_call 20; (with_reducible refine (strings_IndexByte.calls (⟨#[48, 49, 50, 51, 52, 53, 54, 55, 56, 57, 88, 45, 115, 100, 99]⟩ : ByteArray) (bt a0 x3_1) t101 _ A5.out).mono ?_); rintro e w' ⟨rfl, ⟨nd, rfl⟩⟩))
            go_roundg k1
            case measure => have := HK1.out; omega
            case rel => exact ⟨(wrap64 (x3_1 + 1)), (by first | rfl | (simp; done) | (simp [*]; done)), H', ⟨by have := HK1.out; omega⟩, by repeat (first | exact Drawn0.refl _ | apply Drawn0.step)⟩
          · rw [if_neg c6] at H
            have c6b0 : decide (0 ≤ t101) = false := decide_eq_false c6
            clear c6
            obtain rfl := Option.some.inj H
            have p4 : 0 ≤ (x3_1 : Int) := of_decide_eq_true (by first | (with_reducible assumption) | assumption)
            have q4 : x3_1 < (a0.size : Int) := of_decide_eq_true (by first | (with_reducible assumption) | assumption)
            have hx4 := bt_at a0 x3_1
            replace p4 := eq_true p4
            replace q4 := eq_true q4
            go_wp2_with (first | (go_at_call 20; (with_reducible refine (strings_IndexByte.calls (⟨#[48, 49, 50, 51, 52, 53, 54, 55, 56, 57, 88, 45, 115, 100, 99]⟩ : ByteArray) (bt a0 x3_1) t101 _ A5.out).mono ?_); rintro e w' ⟨rfl, ⟨nd, rfl⟩⟩))
            go_ret
            exact ⟨by first | rfl | (simp; done) | (simp [*]; done), by repeat (first | exact Drawn0.refl _ | apply Drawn0.step)⟩
        · rw [if_neg c3] at H
          exact absurd H (by simp)
      · rw [if_neg c2] at H
        have c2b0 : decide (x3_1 < (a0.size : Int)) = false := decide_eq_false c2
        clear c2
        obtain rfl := Option.some.inj H
        go_wp2
        go_ret
        exact ⟨by first | rfl | (simp; done) | (simp [*]; done), by repeat (first | exact Drawn0.refl _ | apply Drawn0.step)⟩

/-! ### stringslite_HasPrefix: function 21 -/
def stringslite_HasPrefix.f (a0 : ByteArray) (a1 : ByteArray) : Option (Bool) := if (a0.size : Int) ≥ (a1.size : Int) then (if 0 ≤ (a1.size : Int) then (if (a1.size : Int) ≤ (a0.size : Int) then (some ((a0.extract 0 ((a1.size : Int) : Int).toNat).toList == a1.toList)) else (none)) else (none)) else (some false)
set_option maxHeartbeats 8000000 in
set_option maxRecDepth 100000 in
theorem stringslite_HasPrefix.calls (a0 : ByteArray) (a1 : ByteArray) (r : Bool) (w : World) (h : stringslite_HasPrefix.f a0 a1 = some r) :
    Calls Try.prog 21 #[.string a0, .string a1] w fun e w' => e = .returned (.bool r) ∧ Drawn0 w w' := by
  have H : (if (a0.size : Int) ≥ (a1.size : Int) then (if 0 ≤ (a1.size : Int) then (if (a1.size : Int) ≤ (a0.size : Int) then (some ((a0.extract 0 ((a1.size : Int) : Int).toNat).toList == a1.toList)) else (none)) else (none)) else (some false)) = some r := h
  clear h
  by_cases c3 : (a0.size : Int) ≥ (a1.size : Int)
  · rw [if_pos c3] at H
    have c3b0 : decide ((a1.size : Int) ≤ (a0.size : Int)) = true := decide_eq_true c3
    have c3b1 : decide (a1.size ≤ a0.size) = true := decide_eq_true (Int.ofNat_le.mp c3)
    clear c3
    by_cases c4 : 0 ≤ (a1.size : Int)
    · rw [if_pos c4] at H
      have c4b0 := eq_true c4
      have c4b1 : decide (0 ≤ (a1.size : Int)) = true := decide_eq_true c4
      clear c4
      by_cases c5 : (a1.size : Int) ≤ (a0.size : Int)
      · rw [if_pos c5] at H
        have c5b0 := eq_true c5
        have c5b1 : decide ((a1.size : Int) ≤ (a0.size : Int)) = true := decide_eq_true c5
        clear c5
        obtain rfl := Option.some.inj H
        go_enter Try.func21, Try.ntmps21
        go_wp2
        go_ret
        exact ⟨by first | rfl | (simp; done) | (simp [*]; done), by repeat (first | exact Drawn0.refl _ | apply Drawn0.step)⟩
      · rw [if_neg c5] at H
        exact absurd H (by simp)
    · rw [if_neg c4] at H
      exact absurd H (by simp)
  · rw [if_neg c3] at H
    have c3b0 : decide ((a1.size : Int) ≤ (a0.size : Int)) = false := decide_eq_false c3
    have c3b1 : decide (a1.size ≤ a0.size) = false := decide_eq_false (fun h => c3 (Int.ofNat_le.mpr h))
    clear c3
    obtain rfl := Option.some.inj H
    go_enter Try.func21, Try.ntmps21
    go_wp2
    go_ret
    exact ⟨by first | rfl | (simp; done) | (simp [*]; done), by repeat (first | exact Drawn0.refl _ | apply Drawn0.step)⟩

/-! ### strings_HasPrefix: function 17 -/
def strings_HasPrefix.f (a0 : ByteArray) (a1 : ByteArray) : Option (Bool) := (stringslite_HasPrefix.f a0 a1).bind fun t102 => (some t102)
set_option maxHeartbeats 8000000 in
set_option maxRecDepth 100000 in
theorem strings_HasPrefix.calls (a0 : ByteArray) (a1 : ByteArray) (r : Bool) (w : World) (h : strings_HasPrefix.f a0 a1 = some r) :
    Calls Try.prog 17 #[.string a0, .string a1] w fun e w' => e = .returned (.bool r) ∧ Drawn0 w w' := by
  have H : ((stringslite_HasPrefix.f a0 a1).bind fun t102 => (some t102)) = some r := h
  clear h
  replace H := Option.bind_eq_some_iff.mp H
  obtain ⟨t102, A30, H⟩ := H
  replace H : (some t102) = some r := H
  have A3 := Aside0.mk A30
  clear A30
  obtain rfl := Option.some.inj H
  go_enter Try.func17, Try.ntmps17
  go_wp2_with (first | ((with_reducible refine gate_callee (f := 21) rfl ?_); refine goesL_ (some 7) rfl rfl Try.func21 (by kernel_rfl) rfl #[.string a0, .string a1] rfl (by (try simp only [List.map_toArray, List.map_cons, List.map_nil]); first | done | rfl | (simp only [List.length_drop, List.length_take]; rfl)) ?_; (with_reducible refine (stringslite_HasPrefix.calls a0 a1 t102 _ A3.out).mono ?_); rintro e w' ⟨rfl, ⟨nd, rfl⟩⟩; refine ⟨_, rfl, ?_⟩))
  go_ret
  exact ⟨by first | rfl | (simp; done) | (simp [*]; done), by repeat (first | exact Drawn0.refl _ | apply Drawn0.step)⟩

/-! ### lex_All: function 10 (by hand) -/
/-- 'm[k] = v' in a literal. -/
theorem wpList_insert_own {H : Type} {P : Program} (w : World) {ops : Array Oper} {rest : List Oper} {o : Oper} {a : Act} {Q : Exit → Act → World → Prop}
    (hg : o.guard = none) (m x v : Operand) (t : TypeId) (hop : o.op = Op.insert t m x v)
    (k e : TypeId) (K : Go.Maps.Keyed P k) (ht : P.underlying t = some (.map k e)) (R : Value → Option (DataW H × List MemPlace)) (b n : Nat) (D : DataW H)
    (hm : a.eval m = .map (some b)) (hown : w.ownsMap P k R b n D) (hn : n < maxLen) (key val : Value) (kl : Lit) (hx : a.eval x = key) (hv : a.eval v = val) (hkey : keyOf P k key = some kl)
    (d : DataW H) (ps : List MemPlace) (hval : R val = some (d, ps))
    (hK : ∀ w', w'.ownsMap P k R b (n + 1) (D.put kl d) → w.grownBy w' (some b) → wpList P ops Q rest (a.put o.dst undef) w') :
    wpList P ops Q (o :: rest) a w := by
  refine wpList_plain hg fun K' hK' => ?_
  obtain ⟨w', hrun, r1, r2⟩ := hown.update K ht hn hkey hval
  unfold Oper.wp
  simp [execOp, hop, hm, hx, hv, hrun, Result.andThen]
  exact hK' _ _ (hK w' r1 r2)

theorem law5 : Go.Maps.Keyed Try.prog 5 := Go.Maps.int_keyed Try.underlying5
theorem zero3 (w : World) : (zeroValue 3).run Try.prog w = .ok (.int .i64 0) w := by kernel_rfl

abbrev ent (k v : Int) (D : DataW Unit) : DataW Unit := D.put (.int .u8 k) (.lit (.int .i64 v))
def TAB : DataW Unit := ent 126 8 (ent 63 7 (ent 44 6 (ent 93 5 (ent 91 4 (ent 42 3 (ent 47 1 (.map [])))))))

theorem key_of (k : Int) (h : (Lit.int .u8 k).wf = true) : keyOf Try.prog 5 (.int .u8 k) = some (.int .u8 k) := Go.Maps.keyOf_int_mk Try.underlying5 h
theorem val_of (k : Int) (h : (Lit.int .i64 k).wf = true) : plainElem (H := Unit) Try.prog 3 (.int .i64 k) = some (.lit (.int .i64 k), []) := plainElem_int Try.underlying3 h

set_option maxRecDepth 100000 in
set_option maxHeartbeats 800000 in
theorem lex_signs.calls (w : World) :
    Calls Try.prog 15 #[] w fun e w' => ∃ b, e = .returned (.map (some b)) ∧ w'.ownsMap Try.prog 5 (plainElem Try.prog 3) b 7 TAB ∧ w.heap.size ≤ b ∧ Below w.heap.size w w' := by
  have hmm := @run_makeMap Try.prog
  have h0 := Lib.hid (World.ownsMap_made w Try.prog 5 (plainElem (H := Unit) Try.prog 3))
  go_enter Try.func15, Try.ntmps15
  go_wp2_with (first | (refine wpList_insert_own _ rfl (.tmp 1) (.const (.int .u8 47)) (.const (.int .i64 1)) 37 rfl 5 3 law5 Try.underlying37 _ _ 0 _ rfl h0.out (by unfold maxLen; omega) _ _ _ rfl rfl (key_of 47 rfl) _ _ (val_of 1 rfl) ?_; intro w1 q1 r1; have h1 := Lib.hid q1; have g1 := Lib.hid r1; clear q1 r1) | (refine wpList_insert_own _ rfl (.tmp 1) (.const (.int .u8 42)) (.const (.int .i64 3)) 37 rfl 5 3 law5 Try.underlying37 _ _ 1 _ rfl h1.out (by unfold maxLen; omega) _ _ _ rfl rfl (key_of 42 rfl) _ _ (val_of 3 rfl) ?_; intro w2 q2 r2; have h2 := Lib.hid q2; have g2 := Lib.hid r2; clear q2 r2) | (refine wpList_insert_own _ rfl (.tmp 1) (.const (.int .u8 91)) (.const (.int .i64 4)) 37 rfl 5 3 law5 Try.underlying37 _ _ 2 _ rfl h2.out (by unfold maxLen; omega) _ _ _ rfl rfl (key_of 91 rfl) _ _ (val_of 4 rfl) ?_; intro w3 q3 r3; have h3 := Lib.hid q3; have g3 := Lib.hid r3; clear q3 r3) | (refine wpList_insert_own _ rfl (.tmp 1) (.const (.int .u8 93)) (.const (.int .i64 5)) 37 rfl 5 3 law5 Try.underlying37 _ _ 3 _ rfl h3.out (by unfold maxLen; omega) _ _ _ rfl rfl (key_of 93 rfl) _ _ (val_of 5 rfl) ?_; intro w4 q4 r4; have h4 := Lib.hid q4; have g4 := Lib.hid r4; clear q4 r4) | (refine wpList_insert_own _ rfl (.tmp 1) (.const (.int .u8 44)) (.const (.int .i64 6)) 37 rfl 5 3 law5 Try.underlying37 _ _ 4 _ rfl h4.out (by unfold maxLen; omega) _ _ _ rfl rfl (key_of 44 rfl) _ _ (val_of 6 rfl) ?_; intro w5 q5 r5; have h5 := Lib.hid q5; have g5 := Lib.hid r5; clear q5 r5) | (refine wpList_insert_own _ rfl (.tmp 1) (.const (.int .u8 63)) (.const (.int .i64 7)) 37 rfl 5 3 law5 Try.underlying37 _ _ 5 _ rfl h5.out (by unfold maxLen; omega) _ _ _ rfl rfl (key_of 63 rfl) _ _ (val_of 7 rfl) ?_; intro w6 q6 r6; have h6 := Lib.hid q6; have g6 := Lib.hid r6; clear q6 r6) | (refine wpList_insert_own _ rfl (.tmp 1) (.const (.int .u8 126)) (.const (.int .i64 8)) 37 rfl 5 3 law5 Try.underlying37 _ _ 6 _ rfl h6.out (by unfold maxLen; omega) _ _ _ rfl rfl (key_of 126 rfl) _ _ (val_of 8 rfl) ?_; intro w7 q7 r7; have h7 := Lib.hid q7; have g7 := Lib.hid r7; clear q7 r7))
  go_ret
  refine ⟨_, rfl, h7.out, Nat.le_refl _, ?_⟩
  have r : ∀ k, some w.heap.size = some k → w.heap.size ≤ k := fun k hk => by cases hk; exact Nat.le_refl _
  have b0 := Below.alloc (Below.refl w.heap.size w) (Nat.le_refl _) (.map #[] 0)
  have b1 := b0.grown g1.out b0.size r
  have b2 := b1.grown g2.out b1.size r
  have b3 := b2.grown g3.out b2.size r
  have b4 := b3.grown g4.out b3.size r
  have b5 := b4.grown g5.out b4.size r
  have b6 := b5.grown g6.out b5.size r
  have b7 := b6.grown g7.out b6.size r
  exact b7
def kindOf (c : Int) : Int := if c = 47 then 1 else if c = 42 then 3 else if c = 91 then 4 else if c = 93 then 5 else if c = 44 then 6 else if c = 63 then 7 else if c = 126 then 8 else 0
def isSign (c : Int) : Bool := c == 47 || c == 42 || c == 91 || c == 93 || c == 44 || c == 63 || c == 126
theorem tab_eq : TAB = .map [(.int .u8 42, .lit (.int .i64 3)), (.int .u8 44, .lit (.int .i64 6)), (.int .u8 47, .lit (.int .i64 1)), (.int .u8 63, .lit (.int .i64 7)), (.int .u8 91, .lit (.int .i64 4)), (.int .u8 93, .lit (.int .i64 5)), (.int .u8 126, .lit (.int .i64 8))] := by rfl
theorem same_u8 (a b : Int) : Lit.sameKey (.int .u8 a) (.int .u8 b) = (a == b) := by
  rw [Bool.eq_iff_iff]; simp [Lit.sameKey]
theorem tab_at (c : Int) : TAB.atKey (.int .u8 c) (.lit (.int .i64 0)) = .lit (.int .i64 (kindOf c)) := by
  rw [tab_eq]; simp only [DataW.atKey, List.find?_cons, same_u8, kindOf, List.find?_nil]
  by_cases h1 : c = 42; · subst h1; rfl
  by_cases h2 : c = 44; · subst h2; rfl
  by_cases h3 : c = 47; · subst h3; rfl
  by_cases h4 : c = 63; · subst h4; rfl
  by_cases h5 : c = 91; · subst h5; rfl
  by_cases h6 : c = 93; · subst h6; rfl
  by_cases h7 : c = 126; · subst h7; rfl
  simp [Ne.symm h1, Ne.symm h2, Ne.symm h3, Ne.symm h4, Ne.symm h5, Ne.symm h6, Ne.symm h7, h1, h2, h3, h4, h5, h6, h7, beq_eq_false_iff_ne.2]
theorem tab_has (c : Int) : Maps.has TAB (.int .u8 c) = isSign c := by
  rw [tab_eq]; simp only [Maps.has, List.any_cons, same_u8, isSign, List.any_nil]
  by_cases h1 : c = 42; · subst h1; rfl
  by_cases h2 : c = 44; · subst h2; rfl
  by_cases h3 : c = 47; · subst h3; rfl
  by_cases h4 : c = 63; · subst h4; rfl
  by_cases h5 : c = 91; · subst h5; rfl
  by_cases h6 : c = 93; · subst h6; rfl
  by_cases h7 : c = 126; · subst h7; rfl
  simp [Ne.symm h1, Ne.symm h2, Ne.symm h3, Ne.symm h4, Ne.symm h5, Ne.symm h6, Ne.symm h7, h1, h2, h3, h4, h5, h6, h7, beq_eq_false_iff_ne.2]
/-- 'kind, ok := table[c]'. -/
theorem wpList_lookup_tab (w : World) {ops : Array Oper} {rest : List Oper} {o : Oper} {a : Act} {Q : Exit → Act → World → Prop} (hg : o.guard = none) (m x : Operand) (hop : o.op = Op.lookup 37 m x true)
    (b : Nat) (hm : a.eval m = .map (some b)) (hown : w.ownsMap Try.prog 5 (plainElem Try.prog 3) b 7 TAB) (c : Int) (hx : a.eval x = .int .u8 c) (hw : (Lit.int .u8 c).wf = true)
    (hK : wpList Try.prog ops Q rest (a.put o.dst (.tuple #[.int .i64 (kindOf c), .bool (isSign c)])) w) :
    wpList Try.prog ops Q (o :: rest) a w :=
  wpList_lookup_own_ok_int w hg m x 37 hop 5 3 .i64 law5 Try.underlying37 Try.underlying3 (zero3 _) b 7 TAB hm hown (.int .u8 c) (.int .u8 c) hx (key_of c hw) (fun k hat _ => by
    rw [tab_at] at hat
    injection hat with hat
    injection hat with _ hat
    subst hat
    rw [tab_has]
    exact hK)

def lex_sign.f (c : Int) : Option (Int × Bool) := some (kindOf c, isSign c)
theorem wpList_lookup_sign (w : World) {ops : Array Oper} {rest : List Oper} {o : Oper} {a : Act} {Q : Exit → Act → World → Prop} (hg : o.guard = none) (m x : Operand) (hop : o.op = Op.lookup 37 m x true)
    (b : Nat) (hm : a.eval m = .map (some b)) (hown : w.ownsMap Try.prog 5 (plainElem Try.prog 3) b 7 TAB) (c : Int) (hx : a.eval x = .int .u8 c) (hw : (Lit.int .u8 c).wf = true) (k : Int) (q : Bool) (h : lex_sign.f c = some (k, q))
    (hK : wpList Try.prog ops Q rest (a.put o.dst (.tuple #[.int .i64 k, .bool q])) w) :
    wpList Try.prog ops Q (o :: rest) a w := by
  simp only [lex_sign.f, Option.some.injEq, Prod.mk.injEq] at h
  obtain ⟨rfl, rfl⟩ := h
  exact wpList_lookup_tab w hg m x hop b hm hown c hx hw hK
theorem bt_wf (s : ByteArray) (i : Int) : (Lit.int .u8 (bt s i)).wf = true := by
  exact WalkArith.wf_u8 (bt_range s i)
theorem tab_kept {w : World} {b : Nat} (h : w.ownsMap Try.prog 5 (plainElem Try.prog 3) b 7 TAB) : ∀ W, Below w.heap.size w W → W.ownsMap Try.prog 5 (plainElem Try.prog 3) b 7 TAB := by
  intro W hb
  have hlt := h.lt
  obtain ⟨es, clock, hh, F, hs, hD⟩ := h
  exact ⟨es, clock, (hb.block b hlt).trans hh, F, hs, hD⟩
theorem below_two {w0 w W : World} (h0 : Below w0.heap.size w0 w) (h : Below w.heap.size w W) : Below w0.heap.size w0 W := h0.trans (h.mono h0.size)
def lex_All.l0 : Nat → ByteArray → List (S32) → Int → Option ((List (S32)) × Int × Int)
  | 0, _, _, _ => none
  | k + 1, x0, x5, x6 => if x6 < (x0.size : Int) then (if 0 ≤ x6 then ((lex_sign.f (bt x0 x6)).bind fun bt106 => (if x6 ≤ (x0.size : Int) then ((lex_word.f k (x0.extract (x6 : Int).toNat x0.size)).bind fun t108 => (if t108 > 0 then (if x6 ≤ (wrap64 (x6 + t108)) then (if (wrap64 (x6 + t108)) ≤ (x0.size : Int) then (if x5.length < 4398046511104 then (lex_All.l0 k x0 (x5 ++ [(⟨0, x6, x0.extract (x6 : Int).toNat ((wrap64 (x6 + t108)) : Int).toNat⟩ : S32)]) (wrap64 (x6 + t108))) else (none)) else (none)) else (none)) else (if bt106.2 = true then (if x5.length < 4398046511104 then (lex_All.l0 k x0 (x5 ++ [(⟨bt106.1, x6, (⟨#[]⟩ : ByteArray)⟩ : S32)]) (wrap64 (x6 + 1))) else (none)) else ((strings_HasPrefix.f (x0.extract (x6 : Int).toNat x0.size) (⟨#[46, 46]⟩ : ByteArray)).bind fun t115 => (if t115 = true then (if x5.length < 4398046511104 then (lex_All.l0 k x0 (x5 ++ [(⟨2, x6, (⟨#[]⟩ : ByteArray)⟩ : S32)]) (wrap64 (x6 + 2))) else (none)) else (if (bt x0 x6) = 32 then (lex_All.l0 k x0 x5 (wrap64 (x6 + 1))) else (some (([] : List (S32)), x6, 1)))))))) else (none))) else (none)) else (if x5.length < 4398046511104 then (some ((x5 ++ [(⟨9, (x0.size : Int), (⟨#[]⟩ : ByteArray)⟩ : S32)]), (x0.size : Int), 0)) else (none))
def lex_All.f (k : Nat) (a0 : ByteArray) : Option ((List (S32)) × Int × Int) := if (a0.size : Int) > 2000 then (some (([] : List (S32)), 2000, 7)) else (lex_All.l0 k a0 ([] : List (S32)) 0)
theorem lex_All.mono_l : ∀ k, (∀ y0 y1 y2, LeO (lex_All.l0 k y0 y1 y2) (lex_All.l0 (k + 1) y0 y1 y2))
  | 0 => fun _ _ _ r h => by simp [lex_All.l0] at h
  | k + 1 => by
    have ih0 := lex_All.mono_l k
    · intro y0 y1 y2
      unfold lex_All.l0
      repeat' first
      | (with_reducible exact ih0 _ _ _)
      | (with_reducible exact lex_word.mono _ _)
      | (with_reducible exact LeO.refl _)
      | (with_reducible exact LeO.none _)
      | (with_reducible refine LeO.ite ?_ ?_)
      | (with_reducible refine LeO.bind ?_ (fun _ => ?_))
      | exact ih0 _ _ _
      | exact lex_word.mono _ _
      | exact LeO.none _
      | refine LeO.ite ?_ ?_
      | refine LeO.bind ?_ (fun _ => ?_)
theorem lex_All.mono : ∀ a0 k, LeO (lex_All.f k a0) (lex_All.f (k + 1) a0) := by
  intro a0 k
  have ih0 := lex_All.mono_l k
  unfold lex_All.f
  repeat' first
      | (with_reducible exact ih0 _ _ _)
      | (with_reducible exact lex_word.mono _ _)
      | (with_reducible exact LeO.refl _)
      | (with_reducible exact LeO.none _)
      | (with_reducible refine LeO.ite ?_ ?_)
      | (with_reducible refine LeO.bind ?_ (fun _ => ?_))
      | exact ih0 _ _ _
      | exact lex_word.mono _ _
      | exact LeO.none _
      | refine LeO.ite ?_ ?_
      | refine LeO.bind ?_ (fun _ => ?_)
set_option maxHeartbeats 8000000 in
set_option maxRecDepth 100000 in
theorem lex_All.calls (k : Nat) (a0 : ByteArray) (r1 : List (S32)) (r2 : Int) (r3 : Int) (w0 : World) (h : lex_All.f k a0 = some (r1, r2, r3)) :
    Calls Try.prog 10 #[.string a0] w0 fun e w' => ∃ v0_ : Value, e = .returned (.tuple #[v0_, .int .i64 r2, .int .i64 r3]) ∧ Kd.R k32 32 w' w0.heap.size (fun _ => True) v0_ r1 ∧ Below w0.heap.size w0 w' := by
  have hu32 := Try.underlying32
  have HB := Aside0.mk (Below.refl w0.heap.size w0)
  have H : (if (a0.size : Int) > 2000 then (some (([] : List (S32)), 2000, 7)) else (lex_All.l0 k a0 ([] : List (S32)) 0)) = some (r1, r2, r3) := h
  clear h
  by_cases c2 : (a0.size : Int) > 2000
  · rw [if_pos c2] at H
    have c2b0 : decide (2000 < (a0.size : Int)) = true := decide_eq_true c2
    have c2b1 : decide (2000 < a0.size) = true := decide_eq_true (by omega)
    clear c2
    simp only [Option.some.injEq, Prod.mk.injEq] at H
    obtain ⟨rfl, rfl, rfl⟩ := H
    go_enter Try.func10, Try.ntmps10
    go_wp2
    go_ret3
    exact ⟨_, by first | rfl | (simp [errW_none, errW_some] <;> rfl) | (simp [*, errW_none, errW_some] <;> rfl), by first | exact Kd.R_nil _ _ _ _ _ | exact Kd.N_nil _ _ _ _ _ | exact Kd.V_nil _ _ _ _ _ | exact Kd.Q_nil _ _ _ _ _ | exact Kd.S_nil _ _ _ _ _, by repeat (first | (with_reducible first | exact HB.out | apply below_alloc | apply pw_below_drewN | apply below_drew1) | exact HB.out)⟩
  · rw [if_neg c2] at H
    have c2b0 : decide (2000 < (a0.size : Int)) = false := decide_eq_false c2
    have c2b1 : decide (2000 < a0.size) = false := decide_eq_false (by omega)
    clear c2
    have H' := Aside0.mk H
    clear H
    clear HB
    go_enter Try.func10, Try.ntmps10
    go_wp2_with (first | (go_at_call 15; refine (lex_signs.calls _).mono ?_; rintro e w ⟨b, rfl, hm, hwb, hbel⟩; have HB0 := Aside0.mk hbel; have HMAP := Aside0.mk (tab_kept hm); clear hm hwb hbel; have HB := Aside0.mk (Below.refl w.heap.size w)))
    go_loopg [6, 7] k (fun kq v6_ v7_ w' => ∃ (x5_1 : List (S32)) (x6_1 : Int), v7_ = .int .i64 x6_1 ∧ Aside0 (lex_All.l0 kq a0 x5_1 x6_1 = some (r1, r2, r3)) ∧ Aside0 (kq ≤ k) ∧ Aside0 (Kd.R k32 32 w' w.heap.size (fun _ => True) v6_ x5_1) ∧ Aside0 (Below w.heap.size w w'))
    case atStart => exact ⟨(([] : List (S32))), (0), (by first | rfl | (simp; done) | (simp [*]; done)), H', ⟨Nat.le_refl _⟩, ⟨by first | exact Kd.R_nil _ _ _ _ _ | exact Kd.N_nil _ _ _ _ _ | exact Kd.V_nil _ _ _ _ _ | exact Kd.Q_nil _ _ _ _ _ | exact Kd.S_nil _ _ _ _ _⟩, ⟨by repeat (first | (with_reducible first | exact HB.out | apply below_alloc | apply pw_below_drewN | apply below_drew1) | exact HB.out)⟩⟩
    case round =>
      clear H'
      try clear c1
      try clear c2
      try clear c2b0
      try clear c2b1
      try clear p2
      obtain ⟨x5_1, x6_1, rfl, HA, HK1, HO_5, HB⟩ := hrel
      cases gk with
      | zero => exact absurd HA.out (by simp [lex_All.l0])
      | succ k1 =>
        have H := HA.out
        clear HA
        simp only [lex_All.l0] at H
        by_cases c3 : x6_1 < (a0.size : Int)
        · rw [if_pos c3] at H
          have c3b0 : decide (x6_1 < (a0.size : Int)) = true := decide_eq_true c3
          clear c3
          by_cases c4 : 0 ≤ x6_1
          · rw [if_pos c4] at H
            have c4b0 : decide (0 ≤ x6_1) = true := decide_eq_true c4
            clear c4
            replace H := Option.bind_eq_some_iff.mp H
            obtain ⟨⟨t106, t107⟩, A60, H⟩ := H
            replace H : (if x6_1 ≤ (a0.size : Int) then ((lex_word.f k1 (a0.extract (x6_1 : Int).toNat a0.size)).bind fun t108 => (if t108 > 0 then (if x6_1 ≤ (wrap64 (x6_1 + t108)) then (if (wrap64 (x6_1 + t108)) ≤ (a0.size : Int) then (if x5_1.length < 4398046511104 then (lex_All.l0 k1 a0 (x5_1 ++ [(⟨0, x6_1, a0.extract (x6_1 : Int).toNat ((wrap64 (x6_1 + t108)) : Int).toNat⟩ : S32)]) (wrap64 (x6_1 + t108))) else (none)) else (none)) else (none)) else (if t107 = true then (if x5_1.length < 4398046511104 then (lex_All.l0 k1 a0 (x5_1 ++ [(⟨t106, x6_1, (⟨#[]⟩ : ByteArray)⟩ : S32)]) (wrap64 (x6_1 + 1))) else (none)) else ((strings_HasPrefix.f (a0.extract (x6_1 : Int).toNat a0.size) (⟨#[46, 46]⟩ : ByteArray)).bind fun t115 => (if t115 = true then (if x5_1.length < 4398046511104 then (lex_All.l0 k1 a0 (x5_1 ++ [(⟨2, x6_1, (⟨#[]⟩ : ByteArray)⟩ : S32)]) (wrap64 (x6_1 + 2))) else (none)) else (if (bt a0 x6_1) = 32 then (lex_All.l0 k1 a0 x5_1 (wrap64 (x6_1 + 1))) else (some (([] : List (S32)), x6_1, 1)))))))) else (none)) = some (r1, r2, r3) := H
            have A6 := Aside0.mk A60
            clear A60
            have c7b0 := eq_true (of_decide_eq_true (by first | (with_reducible assumption) | assumption) : 0 ≤ x6_1)
            by_cases c8 : x6_1 ≤ (a0.size : Int)
            · rw [if_pos c8] at H
              have c8b0 := eq_true c8
              have c8b1 : decide (x6_1 ≤ (a0.size : Int)) = true := decide_eq_true c8
              clear c8
              replace H := Option.bind_eq_some_iff.mp H
              obtain ⟨t108, A90, H⟩ := H
              replace H : (if t108 > 0 then (if x6_1 ≤ (wrap64 (x6_1 + t108)) then (if (wrap64 (x6_1 + t108)) ≤ (a0.size : Int) then (if x5_1.length < 4398046511104 then (lex_All.l0 k1 a0 (x5_1 ++ [(⟨0, x6_1, a0.extract (x6_1 : Int).toNat ((wrap64 (x6_1 + t108)) : Int).toNat⟩ : S32)]) (wrap64 (x6_1 + t108))) else (none)) else (none)) else (none)) else (if t107 = true then (if x5_1.length < 4398046511104 then (lex_All.l0 k1 a0 (x5_1 ++ [(⟨t106, x6_1, (⟨#[]⟩ : ByteArray)⟩ : S32)]) (wrap64 (x6_1 + 1))) else (none)) else ((strings_HasPrefix.f (a0.extract (x6_1 : Int).toNat a0.size) (⟨#[46, 46]⟩ : ByteArray)).bind fun t115 => (if t115 = true then (if x5_1.length < 4398046511104 then (lex_All.l0 k1 a0 (x5_1 ++ [(⟨2, x6_1, (⟨#[]⟩ : ByteArray)⟩ : S32)]) (wrap64 (x6_1 + 2))) else (none)) else (if (bt a0 x6_1) = 32 then (lex_All.l0 k1 a0 x5_1 (wrap64 (x6_1 + 1))) else (some (([] : List (S32)), x6_1, 1))))))) = some (r1, r2, r3) := H
              have A9 := Aside0.mk A90
              clear A90
              by_cases c10 : t108 > 0
              · rw [if_pos c10] at H
                have c10b0 : decide (0 < t108) = true := decide_eq_true c10
                clear c10
                have c11b0 := eq_true (of_decide_eq_true (by first | (with_reducible assumption) | assumption) : 0 ≤ x6_1)
                by_cases c12 : x6_1 ≤ (wrap64 (x6_1 + t108))
                · rw [if_pos c12] at H
                  have c12b0 := eq_true c12
                  have c12b1 : decide (x6_1 ≤ (wrap64 (x6_1 + t108))) = true := decide_eq_true c12
                  by_cases c13 : (wrap64 (x6_1 + t108)) ≤ (a0.size : Int)
                  · rw [if_pos c13] at H
                    have c13b0 := eq_true c13
                    have c13b1 : decide ((wrap64 (x6_1 + t108)) ≤ (a0.size : Int)) = true := decide_eq_true c13
                    by_cases c14 : x5_1.length < 4398046511104
                    · rw [if_pos c14] at H
                      have LMc14 := Aside0.mk c14
                      clear c14
                      obtain ⟨y109, hy109⟩ : ∃ y_ : List (S32), y_ = (x5_1 ++ [(⟨0, x6_1, a0.extract (x6_1 : Int).toNat ((wrap64 (x6_1 + t108)) : Int).toNat⟩ : S32)]) := ⟨_, rfl⟩
                      replace H : (lex_All.l0 k1 a0 y109 (wrap64 (x6_1 + t108))) = some (r1, r2, r3) := by first | (rw [hy109]; with_reducible exact H) | (have H2_ := (Option.bind_some _ _).symm.trans H; rw [hy109]; with_reducible exact H2_) | (have H2_ := (Option.bind_some _ _).symm.trans H; with_reducible exact H2_) | with_reducible exact H | (rw [hy109]; exact H) | exact H
                      have Ny109 := Aside0.mk hy109
                      clear hy109
                      have H' := Aside0.mk H
                      clear H
                      have p5 : 0 ≤ (x6_1 : Int) := of_decide_eq_true (by first | (with_reducible assumption) | assumption)
                      have q5 : x6_1 < (a0.size : Int) := of_decide_eq_true (by first | (with_reducible assumption) | assumption)
                      have hx5 := bt_at a0 x6_1
                      replace p5 := eq_true p5
                      replace q5 := eq_true q5
                      go_wp2_with (first | (at_lookup; refine wpList_lookup_sign _ rfl _ _ rfl _ rfl (HMAP.out _ HB.out) (bt a0 x6_1) rfl (bt_wf a0 x6_1) t106 t107 A6.out ?_) | ((with_reducible refine gate_callee (f := 16) rfl ?_); refine goesL_ (some 30) rfl rfl Try.func16 (by kernel_rfl) rfl #[.string (a0.extract (x6_1 : Int).toNat a0.size)] rfl (by (try simp only [List.map_toArray, List.map_cons, List.map_nil]); first | done | rfl | (simp only [List.length_drop, List.length_take]; rfl)) ?_; (with_reducible refine (lex_word.calls k1 (a0.extract (x6_1 : Int).toNat a0.size) t108 _ A9.out).mono ?_); rintro e w' ⟨rfl, ⟨nd, rfl⟩⟩; refine ⟨_, rfl, ?_⟩) | ((with_reducible refine gate_builtin (b := .append) (xs := #[.tmp 35, .tmp 44]) rfl ?_); at_builtin; refine Kd.R_append k32 (w0 := w) w.heap.size rfl (.tmp 35) (.tmp 44) 22 32 (.agg #[(.int .i64 0), (.int .i64 0), (.string ⟨#[]⟩)]) 32 rfl Try.underlying22 info32 rfl (by decide) (by omega) u6 x5_1 (⟨0, x6_1, a0.extract (x6_1 : Int).toNat ((wrap64 (x6_1 + t108)) : Int).toNat⟩ : S32) [.int .i64 0, .int .i64 x6_1, .string (a0.extract (x6_1 : Int).toNat ((wrap64 (x6_1 + t108)) : Int).toNat)] (fun _ => True) (fun _ => False) rfl rfl ?aP (fun _ hk => hk.elim) ?aF ?aO ?aB ?aS ?aL ?_; (case aP => exact k32_mkM _ _ _ (⟨0, x6_1, a0.extract (x6_1 : Int).toNat ((wrap64 (x6_1 + t108)) : Int).toNat⟩ : S32)); (case aB => exact (by repeat (first | (with_reducible first | exact HB.out | apply below_alloc | apply pw_below_drewN | apply below_drew1) | exact HB.out))); (case aF => exact (fun _ _ => trivial)); (case aO => exact (by (with_reducible repeat (first | apply Kd.R_alloc | apply Kd.R_drewN | apply Kd.R_drew)); exact HO_5.out)); (case aS => exact (below_size (by repeat (first | (with_reducible first | exact HB.out | apply below_alloc | apply pw_below_drewN | apply below_drew1) | exact HB.out)))); (case aL => have := LMc14.out; omega); intro v110 w15 ho hb hg hat; rw [← Ny109.out] at ho; have n0_ := Aside0.mk (hb); have n1_ := Aside0.mk (ho); clear HB; clear HO_5; have HB := n0_; have HO111 := n1_; clear n0_ n1_; clear ho hb hg hat))
                      go_roundg k1
                      case measure => have := HK1.out; omega
                      case rel => exact ⟨(y109), (wrap64 (x6_1 + t108)), (by first | rfl | (simp; done) | (simp [*]; done)), H', ⟨by have := HK1.out; omega⟩, ⟨by (with_reducible repeat (first | apply Kd.R_alloc | apply Kd.R_drewN | apply Kd.R_drew)); exact HO111.out⟩, ⟨by repeat (first | (with_reducible first | exact HB.out | apply below_alloc | apply pw_below_drewN | apply below_drew1) | exact HB.out)⟩⟩
                    · rw [if_neg c14] at H
                      exact absurd H (by simp)
                  · rw [if_neg c13] at H
                    exact absurd H (by simp)
                · rw [if_neg c12] at H
                  exact absurd H (by simp)
              · rw [if_neg c10] at H
                have c10b0 : decide (0 < t108) = false := decide_eq_false c10
                clear c10
                by_cases c16 : t107 = true
                · subst c16
                  have H1 : (if x5_1.length < 4398046511104 then (lex_All.l0 k1 a0 (x5_1 ++ [(⟨t106, x6_1, (⟨#[]⟩ : ByteArray)⟩ : S32)]) (wrap64 (x6_1 + 1))) else (none)) = some (r1, r2, r3) := by rw [if_pos rfl] at H; exact H
                  clear H
                  have H := H1
                  clear H1
                  by_cases c17 : x5_1.length < 4398046511104
                  · rw [if_pos c17] at H
                    have LMc17 := Aside0.mk c17
                    clear c17
                    obtain ⟨y112, hy112⟩ : ∃ y_ : List (S32), y_ = (x5_1 ++ [(⟨t106, x6_1, (⟨#[]⟩ : ByteArray)⟩ : S32)]) := ⟨_, rfl⟩
                    replace H : (lex_All.l0 k1 a0 y112 (wrap64 (x6_1 + 1))) = some (r1, r2, r3) := by first | (rw [hy112]; with_reducible exact H) | (have H2_ := (Option.bind_some _ _).symm.trans H; rw [hy112]; with_reducible exact H2_) | (have H2_ := (Option.bind_some _ _).symm.trans H; with_reducible exact H2_) | with_reducible exact H | (rw [hy112]; exact H) | exact H
                    have Ny112 := Aside0.mk hy112
                    clear hy112
                    have H' := Aside0.mk H
                    clear H
                    have p5 : 0 ≤ (x6_1 : Int) := of_decide_eq_true (by first | (with_reducible assumption) | assumption)
                    have q5 : x6_1 < (a0.size : Int) := of_decide_eq_true (by first | (with_reducible assumption) | assumption)
                    have hx5 := bt_at a0 x6_1
                    replace p5 := eq_true p5
                    replace q5 := eq_true q5
                    go_wp2_with (first | (at_lookup; refine wpList_lookup_sign _ rfl _ _ rfl _ rfl (HMAP.out _ HB.out) (bt a0 x6_1) rfl (bt_wf a0 x6_1) t106 true A6.out ?_) | ((with_reducible refine gate_callee (f := 16) rfl ?_); refine goesL_ (some 30) rfl rfl Try.func16 (by kernel_rfl) rfl #[.string (a0.extract (x6_1 : Int).toNat a0.size)] rfl (by (try simp only [List.map_toArray, List.map_cons, List.map_nil]); first | done | rfl | (simp only [List.length_drop, List.length_take]; rfl)) ?_; (with_reducible refine (lex_word.calls k1 (a0.extract (x6_1 : Int).toNat a0.size) t108 _ A9.out).mono ?_); rintro e w' ⟨rfl, ⟨nd, rfl⟩⟩; refine ⟨_, rfl, ?_⟩) | ((with_reducible refine gate_builtin (b := .append) (xs := #[.tmp 48, .tmp 52]) rfl ?_); at_builtin; refine Kd.R_append k32 (w0 := w) w.heap.size rfl (.tmp 48) (.tmp 52) 22 32 (.agg #[(.int .i64 0), (.int .i64 0), (.string ⟨#[]⟩)]) 32 rfl Try.underlying22 info32 rfl (by decide) (by omega) u6 x5_1 (⟨t106, x6_1, (⟨#[]⟩ : ByteArray)⟩ : S32) [.int .i64 t106, .int .i64 x6_1, .string (⟨#[]⟩ : ByteArray)] (fun _ => True) (fun _ => False) rfl rfl ?aP (fun _ hk => hk.elim) ?aF ?aO ?aB ?aS ?aL ?_; (case aP => exact k32_mkM _ _ _ (⟨t106, x6_1, (⟨#[]⟩ : ByteArray)⟩ : S32)); (case aB => exact (by repeat (first | (with_reducible first | exact HB.out | apply below_alloc | apply pw_below_drewN | apply below_drew1) | exact HB.out))); (case aF => exact (fun _ _ => trivial)); (case aO => exact (by (with_reducible repeat (first | apply Kd.R_alloc | apply Kd.R_drewN | apply Kd.R_drew)); exact HO_5.out)); (case aS => exact (below_size (by repeat (first | (with_reducible first | exact HB.out | apply below_alloc | apply pw_below_drewN | apply below_drew1) | exact HB.out)))); (case aL => have := LMc17.out; omega); intro v113 w18 ho hb hg hat; rw [← Ny112.out] at ho; have n0_ := Aside0.mk (hb); have n1_ := Aside0.mk (ho); clear HB; clear HO_5; have HB := n0_; have HO114 := n1_; clear n0_ n1_; clear ho hb hg hat))
                    go_roundg k1
                    case measure => have := HK1.out; omega
                    case rel => exact ⟨(y112), (wrap64 (x6_1 + 1)), (by first | rfl | (simp; done) | (simp [*]; done)), H', ⟨by have := HK1.out; omega⟩, ⟨by (with_reducible repeat (first | apply Kd.R_alloc | apply Kd.R_drewN | apply Kd.R_drew)); exact HO114.out⟩, ⟨by repeat (first | (with_reducible first | exact HB.out | apply below_alloc | apply pw_below_drewN | apply below_drew1) | exact HB.out)⟩⟩
                  · rw [if_neg c17] at H
                    exact absurd H (by simp)
                · replace c16 := Bool.eq_false_iff.mpr c16
                  subst c16
                  have H1 : ((strings_HasPrefix.f (a0.extract (x6_1 : Int).toNat a0.size) (⟨#[46, 46]⟩ : ByteArray)).bind fun t115 => (if t115 = true then (if x5_1.length < 4398046511104 then (lex_All.l0 k1 a0 (x5_1 ++ [(⟨2, x6_1, (⟨#[]⟩ : ByteArray)⟩ : S32)]) (wrap64 (x6_1 + 2))) else (none)) else (if (bt a0 x6_1) = 32 then (lex_All.l0 k1 a0 x5_1 (wrap64 (x6_1 + 1))) else (some (([] : List (S32)), x6_1, 1))))) = some (r1, r2, r3) := by rw [if_neg (show ¬ (false = true) by decide)] at H; exact H
                  clear H
                  have H := H1
                  clear H1
                  have c19b0 := eq_true (of_decide_eq_true (by first | (with_reducible assumption) | assumption) : 0 ≤ x6_1)
                  have c20b0 := eq_true (of_decide_eq_true (by first | (with_reducible assumption) | assumption) : x6_1 ≤ (a0.size : Int))
                  replace H := Option.bind_eq_some_iff.mp H
                  obtain ⟨t115, A210, H⟩ := H
                  replace H : (if t115 = true then (if x5_1.length < 4398046511104 then (lex_All.l0 k1 a0 (x5_1 ++ [(⟨2, x6_1, (⟨#[]⟩ : ByteArray)⟩ : S32)]) (wrap64 (x6_1 + 2))) else (none)) else (if (bt a0 x6_1) = 32 then (lex_All.l0 k1 a0 x5_1 (wrap64 (x6_1 + 1))) else (some (([] : List (S32)), x6_1, 1)))) = some (r1, r2, r3) := H
                  have A21 := Aside0.mk A210
                  clear A210
                  by_cases c22 : t115 = true
                  · subst c22
                    have H1 : (if x5_1.length < 4398046511104 then (lex_All.l0 k1 a0 (x5_1 ++ [(⟨2, x6_1, (⟨#[]⟩ : ByteArray)⟩ : S32)]) (wrap64 (x6_1 + 2))) else (none)) = some (r1, r2, r3) := by rw [if_pos rfl] at H; exact H
                    clear H
                    have H := H1
                    clear H1
                    by_cases c23 : x5_1.length < 4398046511104
                    · rw [if_pos c23] at H
                      have LMc23 := Aside0.mk c23
                      clear c23
                      obtain ⟨y116, hy116⟩ : ∃ y_ : List (S32), y_ = (x5_1 ++ [(⟨2, x6_1, (⟨#[]⟩ : ByteArray)⟩ : S32)]) := ⟨_, rfl⟩
                      replace H : (lex_All.l0 k1 a0 y116 (wrap64 (x6_1 + 2))) = some (r1, r2, r3) := by first | (rw [hy116]; with_reducible exact H) | (have H2_ := (Option.bind_some _ _).symm.trans H; rw [hy116]; with_reducible exact H2_) | (have H2_ := (Option.bind_some _ _).symm.trans H; with_reducible exact H2_) | with_reducible exact H | (rw [hy116]; exact H) | exact H
                      have Ny116 := Aside0.mk hy116
                      clear hy116
                      have H' := Aside0.mk H
                      clear H
                      have p5 : 0 ≤ (x6_1 : Int) := of_decide_eq_true (by first | (with_reducible assumption) | assumption)
                      have q5 : x6_1 < (a0.size : Int) := of_decide_eq_true (by first | (with_reducible assumption) | assumption)
                      have hx5 := bt_at a0 x6_1
                      replace p5 := eq_true p5
                      replace q5 := eq_true q5
                      go_wp2_with (first | (at_lookup; refine wpList_lookup_sign _ rfl _ _ rfl _ rfl (HMAP.out _ HB.out) (bt a0 x6_1) rfl (bt_wf a0 x6_1) t106 false A6.out ?_) | ((with_reducible refine gate_callee (f := 16) rfl ?_); refine goesL_ (some 30) rfl rfl Try.func16 (by kernel_rfl) rfl #[.string (a0.extract (x6_1 : Int).toNat a0.size)] rfl (by (try simp only [List.map_toArray, List.map_cons, List.map_nil]); first | done | rfl | (simp only [List.length_drop, List.length_take]; rfl)) ?_; (with_reducible refine (lex_word.calls k1 (a0.extract (x6_1 : Int).toNat a0.size) t108 _ A9.out).mono ?_); rintro e w' ⟨rfl, ⟨nd, rfl⟩⟩; refine ⟨_, rfl, ?_⟩) | ((with_reducible refine gate_callee (f := 17) rfl ?_); refine goesL_ (some 58) rfl rfl Try.func17 (by kernel_rfl) rfl #[.string (a0.extract (x6_1 : Int).toNat a0.size), .string (⟨#[46, 46]⟩ : ByteArray)] rfl (by (try simp only [List.map_toArray, List.map_cons, List.map_nil]); first | done | rfl | (simp only [List.length_drop, List.length_take]; rfl)) ?_; (with_reducible refine (strings_HasPrefix.calls (a0.extract (x6_1 : Int).toNat a0.size) (⟨#[46, 46]⟩ : ByteArray) true _ A21.out).mono ?_); rintro e w' ⟨rfl, ⟨nd, rfl⟩⟩; refine ⟨_, rfl, ?_⟩) | ((with_reducible refine gate_builtin (b := .append) (xs := #[.tmp 59, .tmp 62]) rfl ?_); at_builtin; refine Kd.R_append k32 (w0 := w) w.heap.size rfl (.tmp 59) (.tmp 62) 22 32 (.agg #[(.int .i64 0), (.int .i64 0), (.string ⟨#[]⟩)]) 32 rfl Try.underlying22 info32 rfl (by decide) (by omega) u6 x5_1 (⟨2, x6_1, (⟨#[]⟩ : ByteArray)⟩ : S32) [.int .i64 2, .int .i64 x6_1, .string (⟨#[]⟩ : ByteArray)] (fun _ => True) (fun _ => False) rfl rfl ?aP (fun _ hk => hk.elim) ?aF ?aO ?aB ?aS ?aL ?_; (case aP => exact k32_mkM _ _ _ (⟨2, x6_1, (⟨#[]⟩ : ByteArray)⟩ : S32)); (case aB => exact (by repeat (first | (with_reducible first | exact HB.out | apply below_alloc | apply pw_below_drewN | apply below_drew1) | exact HB.out))); (case aF => exact (fun _ _ => trivial)); (case aO => exact (by (with_reducible repeat (first | apply Kd.R_alloc | apply Kd.R_drewN | apply Kd.R_drew)); exact HO_5.out)); (case aS => exact (below_size (by repeat (first | (with_reducible first | exact HB.out | apply below_alloc | apply pw_below_drewN | apply below_drew1) | exact HB.out)))); (case aL => have := LMc23.out; omega); intro v117 w24 ho hb hg hat; rw [← Ny116.out] at ho; have n0_ := Aside0.mk (hb); have n1_ := Aside0.mk (ho); clear HB; clear HO_5; have HB := n0_; have HO118 := n1_; clear n0_ n1_; clear ho hb hg hat))
                      go_roundg k1
                      case measure => have := HK1.out; omega
                      case rel => exact ⟨(y116), (wrap64 (x6_1 + 2)), (by first | rfl | (simp; done) | (simp [*]; done)), H', ⟨by have := HK1.out; omega⟩, ⟨by (with_reducible repeat (first | apply Kd.R_alloc | apply Kd.R_drewN | apply Kd.R_drew)); exact HO118.out⟩, ⟨by repeat (first | (with_reducible first | exact HB.out | apply below_alloc | apply pw_below_drewN | apply below_drew1) | exact HB.out)⟩⟩
                    · rw [if_neg c23] at H
                      exact absurd H (by simp)
                  · replace c22 := Bool.eq_false_iff.mpr c22
                    subst c22
                    have H1 : (if (bt a0 x6_1) = 32 then (lex_All.l0 k1 a0 x5_1 (wrap64 (x6_1 + 1))) else (some (([] : List (S32)), x6_1, 1))) = some (r1, r2, r3) := by rw [if_neg (show ¬ (false = true) by decide)] at H; exact H
                    clear H
                    have H := H1
                    clear H1
                    by_cases c26 : (bt a0 x6_1) = 32
                    · rw [if_pos c26] at H
                      have c26b0 : ((bt a0 x6_1) == 32) = true := beq_iff_eq.mpr c26
                      have c26b1 : ((bt a0 x6_1) != 32) = false := bne_eq_false_iff_eq.mpr c26
                      clear c26
                      have H' := Aside0.mk H
                      clear H
                      have p5 : 0 ≤ (x6_1 : Int) := of_decide_eq_true (by first | (with_reducible assumption) | assumption)
                      have q5 : x6_1 < (a0.size : Int) := of_decide_eq_true (by first | (with_reducible assumption) | assumption)
                      have hx5 := bt_at a0 x6_1
                      replace p5 := eq_true p5
                      replace q5 := eq_true q5
                      go_wp2_with (first | (at_lookup; refine wpList_lookup_sign _ rfl _ _ rfl _ rfl (HMAP.out _ HB.out) (bt a0 x6_1) rfl (bt_wf a0 x6_1) t106 false A6.out ?_) | ((with_reducible refine gate_callee (f := 16) rfl ?_); refine goesL_ (some 30) rfl rfl Try.func16 (by kernel_rfl) rfl #[.string (a0.extract (x6_1 : Int).toNat a0.size)] rfl (by (try simp only [List.map_toArray, List.map_cons, List.map_nil]); first | done | rfl | (simp only [List.length_drop, List.length_take]; rfl)) ?_; (with_reducible refine (lex_word.calls k1 (a0.extract (x6_1 : Int).toNat a0.size) t108 _ A9.out).mono ?_); rintro e w' ⟨rfl, ⟨nd, rfl⟩⟩; refine ⟨_, rfl, ?_⟩) | ((with_reducible refine gate_callee (f := 17) rfl ?_); refine goesL_ (some 58) rfl rfl Try.func17 (by kernel_rfl) rfl #[.string (a0.extract (x6_1 : Int).toNat a0.size), .string (⟨#[46, 46]⟩ : ByteArray)] rfl (by (try simp only [List.map_toArray, List.map_cons, List.map_nil]); first | done | rfl | (simp only [List.length_drop, List.length_take]; rfl)) ?_; (with_reducible refine (strings_HasPrefix.calls (a0.extract (x6_1 : Int).toNat a0.size) (⟨#[46, 46]⟩ : ByteArray) false _ A21.out).mono ?_); rintro e w' ⟨rfl, ⟨nd, rfl⟩⟩; refine ⟨_, rfl, ?_⟩; have p25 : 0 ≤ (x6_1 : Int) := of_decide_eq_true (by first | (with_reducible assumption) | assumption); have q25 : x6_1 < (a0.size : Int) := of_decide_eq_true (by first | (with_reducible assumption) | assumption); have hx25 := bt_at a0 x6_1; replace p25 := eq_true p25; replace q25 := eq_true q25))
                      go_roundg k1
                      case measure => have := HK1.out; omega
                      case rel => exact ⟨(x5_1), (wrap64 (x6_1 + 1)), (by first | rfl | (simp; done) | (simp [*]; done)), H', ⟨by have := HK1.out; omega⟩, ⟨by (with_reducible repeat (first | apply Kd.R_alloc | apply Kd.R_drewN | apply Kd.R_drew)); exact HO_5.out⟩, ⟨by repeat (first | (with_reducible first | exact HB.out | apply below_alloc | apply pw_below_drewN | apply below_drew1) | exact HB.out)⟩⟩
                    · rw [if_neg c26] at H
                      have c26b0 : ((bt a0 x6_1) == 32) = false := beq_eq_false_iff_ne.mpr c26
                      have c26b1 : ((bt a0 x6_1) != 32) = true := bne_iff_ne.mpr c26
                      simp only [Option.some.injEq, Prod.mk.injEq] at H
                      obtain ⟨rfl, rfl, rfl⟩ := H
                      have p5 : 0 ≤ (x6_1 : Int) := of_decide_eq_true (by first | (with_reducible assumption) | assumption)
                      have q5 : x6_1 < (a0.size : Int) := of_decide_eq_true (by first | (with_reducible assumption) | assumption)
                      have hx5 := bt_at a0 x6_1
                      replace p5 := eq_true p5
                      replace q5 := eq_true q5
                      go_wp2_with (first | (at_lookup; refine wpList_lookup_sign _ rfl _ _ rfl _ rfl (HMAP.out _ HB.out) (bt a0 x6_1) rfl (bt_wf a0 x6_1) t106 false A6.out ?_) | ((with_reducible refine gate_callee (f := 16) rfl ?_); refine goesL_ (some 30) rfl rfl Try.func16 (by kernel_rfl) rfl #[.string (a0.extract (x6_1 : Int).toNat a0.size)] rfl (by (try simp only [List.map_toArray, List.map_cons, List.map_nil]); first | done | rfl | (simp only [List.length_drop, List.length_take]; rfl)) ?_; (with_reducible refine (lex_word.calls k1 (a0.extract (x6_1 : Int).toNat a0.size) t108 _ A9.out).mono ?_); rintro e w' ⟨rfl, ⟨nd, rfl⟩⟩; refine ⟨_, rfl, ?_⟩) | ((with_reducible refine gate_callee (f := 17) rfl ?_); refine goesL_ (some 58) rfl rfl Try.func17 (by kernel_rfl) rfl #[.string (a0.extract (x6_1 : Int).toNat a0.size), .string (⟨#[46, 46]⟩ : ByteArray)] rfl (by (try simp only [List.map_toArray, List.map_cons, List.map_nil]); first | done | rfl | (simp only [List.length_drop, List.length_take]; rfl)) ?_; (with_reducible refine (strings_HasPrefix.calls (a0.extract (x6_1 : Int).toNat a0.size) (⟨#[46, 46]⟩ : ByteArray) false _ A21.out).mono ?_); rintro e w' ⟨rfl, ⟨nd, rfl⟩⟩; refine ⟨_, rfl, ?_⟩; have p25 : 0 ≤ (x6_1 : Int) := of_decide_eq_true (by first | (with_reducible assumption) | assumption); have q25 : x6_1 < (a0.size : Int) := of_decide_eq_true (by first | (with_reducible assumption) | assumption); have hx25 := bt_at a0 x6_1; replace p25 := eq_true p25; replace q25 := eq_true q25))
                      go_ret3
                      exact ⟨_, by first | rfl | (simp [errW_none, errW_some] <;> rfl) | (simp [*, errW_none, errW_some] <;> rfl), by first | exact Kd.R_nil _ _ _ _ _, below_two HB0.out (by repeat (first | (with_reducible first | exact HB.out | apply below_alloc | apply pw_below_drewN | apply below_drew1) | exact HB.out))⟩
            · rw [if_neg c8] at H
              exact absurd H (by simp)
          · rw [if_neg c4] at H
            exact absurd H (by simp)
        · rw [if_neg c3] at H
          have c3b0 : decide (x6_1 < (a0.size : Int)) = false := decide_eq_false c3
          clear c3
          by_cases c27 : x5_1.length < 4398046511104
          · rw [if_pos c27] at H
            have LMc27 := Aside0.mk c27
            clear c27
            obtain ⟨y103, hy103⟩ : ∃ y_ : List (S32), y_ = (x5_1 ++ [(⟨9, (a0.size : Int), (⟨#[]⟩ : ByteArray)⟩ : S32)]) := ⟨_, rfl⟩
            replace H : (some (y103, (a0.size : Int), 0)) = some (r1, r2, r3) := by first | (rw [hy103]; with_reducible exact H) | (have H2_ := (Option.bind_some _ _).symm.trans H; rw [hy103]; with_reducible exact H2_) | (have H2_ := (Option.bind_some _ _).symm.trans H; with_reducible exact H2_) | with_reducible exact H | (rw [hy103]; exact H) | exact H
            have Ny103 := Aside0.mk hy103
            clear hy103
            simp only [Option.some.injEq, Prod.mk.injEq] at H
            obtain ⟨rfl, rfl, rfl⟩ := H
            go_wp2_with (first | ((with_reducible refine gate_builtin (b := .append) (xs := #[.tmp 72, .tmp 76]) rfl ?_); at_builtin; refine Kd.R_append k32 (w0 := w) w.heap.size rfl (.tmp 72) (.tmp 76) 22 32 (.agg #[(.int .i64 0), (.int .i64 0), (.string ⟨#[]⟩)]) 32 rfl Try.underlying22 info32 rfl (by decide) (by omega) u6 x5_1 (⟨9, (a0.size : Int), (⟨#[]⟩ : ByteArray)⟩ : S32) [.int .i64 9, .int .i64 (a0.size : Int), .string (⟨#[]⟩ : ByteArray)] (fun _ => True) (fun _ => False) rfl rfl ?aP (fun _ hk => hk.elim) ?aF ?aO ?aB ?aS ?aL ?_; (case aP => exact k32_mkM _ _ _ (⟨9, (a0.size : Int), (⟨#[]⟩ : ByteArray)⟩ : S32)); (case aB => exact (by repeat (first | (with_reducible first | exact HB.out | apply below_alloc | apply pw_below_drewN | apply below_drew1) | exact HB.out))); (case aF => exact (fun _ _ => trivial)); (case aO => exact (by (with_reducible repeat (first | apply Kd.R_alloc | apply Kd.R_drewN | apply Kd.R_drew)); exact HO_5.out)); (case aS => exact (below_size (by repeat (first | (with_reducible first | exact HB.out | apply below_alloc | apply pw_below_drewN | apply below_drew1) | exact HB.out)))); (case aL => have := LMc27.out; omega); intro v104 w28 ho hb hg hat; rw [← Ny103.out] at ho; have n0_ := Aside0.mk (hb); have n1_ := Aside0.mk (ho); clear HB; clear HO_5; have HB := n0_; have HO105 := n1_; clear n0_ n1_; clear ho hb hg hat))
            go_ret3
            exact ⟨_, by first | rfl | (simp [errW_none, errW_some] <;> rfl) | (simp [*, errW_none, errW_some] <;> rfl), by (with_reducible repeat (first | apply Kd.R_alloc | apply Kd.R_drewN | apply Kd.R_drew)); refine Kd.R_lower ?_ HB0.out.size; exact HO105.out, below_two HB0.out (by repeat (first | (with_reducible first | exact HB.out | apply below_alloc | apply pw_below_drewN | apply below_drew1) | exact HB.out))⟩
          · rw [if_neg c27] at H
            exact absurd H (by simp)


end Go.Proofs.Ytahijlmpdmlffaa.P
