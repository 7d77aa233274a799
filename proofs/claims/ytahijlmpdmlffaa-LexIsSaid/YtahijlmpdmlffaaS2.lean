import Derived.Test.YtahijlmpdmlffaaPx3
import Derived.Test.YtahijlmpdmlffaaS1
namespace Go.Proofs.Ytahijlmpdmlffaa.S
open Go.RowKit Go.Proofs.YtahijlmpdmlffaaW.PrintWords Go.Proofs.YtahijlmpdmlffaaW.PrintLast Go.Proofs.Ytahijlmpdmlffaa.P

/-! ### lex.Show -/
/-- A token's bytes, whatever its kind. -/
def textG (t : S32) : List Int :=
  if t.f0 = 0 then bytesOf t.f2 else if t.f0 = 2 then [46, 46] else if t.f0 = 1 then [47] else if t.f0 = 3 then [42] else if t.f0 = 4 then [91] else if t.f0 = 5 then [93] else if t.f0 = 6 then [44] else if t.f0 = 7 then [63] else if t.f0 = 8 then [126] else []

/-- What is shown of tokens; p: is the one ahead a word? -/
def shown : Bool → List S32 → List Int
  | _, [] => []
  | p, t :: r => (if p = true ∧ t.f0 = 0 then [32] else []) ++ textG t ++ shown (t.f0 == 0) r

theorem rd_drop {T : List S32} {i : Nat} {t : S32} {r : List S32} (h : T.drop i = t :: r) : rd_T32 T (i : Int) = t ∧ i < T.length := by
  have hlt : i < T.length := by
    apply Classical.byContradiction
    intro hn
    rw [List.drop_eq_nil_of_le (by omega)] at h
    cases h
  refine ⟨?_, hlt⟩
  have hg : T[i]? = some t := by
    have := congrArg (fun l => l[0]?) h
    simpa using this
  unfold rd_T32
  rw [List.getD_eq_getElem?_getD, Int.toNat_natCast, hg]
  rfl

theorem drop_next {T : List S32} {i : Nat} {t : S32} {r : List S32} (h : T.drop i = t :: r) : T.drop (i + 1) = r := by
  rw [← List.drop_drop, h]
  rfl

theorem table_at : bt (⟨#[47, 46, 42, 91, 93, 44, 63, 126]⟩ : ByteArray) (wrap64 (1 - 1)) = 47 ∧ bt (⟨#[47, 46, 42, 91, 93, 44, 63, 126]⟩ : ByteArray) (wrap64 (3 - 1)) = 42 ∧ bt (⟨#[47, 46, 42, 91, 93, 44, 63, 126]⟩ : ByteArray) (wrap64 (4 - 1)) = 91 ∧
    bt (⟨#[47, 46, 42, 91, 93, 44, 63, 126]⟩ : ByteArray) (wrap64 (5 - 1)) = 93 ∧ bt (⟨#[47, 46, 42, 91, 93, 44, 63, 126]⟩ : ByteArray) (wrap64 (6 - 1)) = 44 ∧ bt (⟨#[47, 46, 42, 91, 93, 44, 63, 126]⟩ : ByteArray) (wrap64 (7 - 1)) = 63 ∧ bt (⟨#[47, 46, 42, 91, 93, 44, 63, 126]⟩ : ByteArray) (wrap64 (8 - 1)) = 126 := by decide +kernel

/-- What one round does to what has been gathered. -/
def sep (p : Bool) (t : S32) : List Int := if p = true ∧ t.f0 = 0 then [32] else []

theorem show_round (T : List S32) (i : Nat) (t : S32) (r : List S32) (acc : List Int) (p : Bool) (hd : T.drop i = t :: r) (hT : T.length < 1099511627776) (hp : p = true ↔ 0 < i ∧ (rd_T32 T ((i : Int) - 1)).f0 = 0) (hl : (acc ++ sep p t ++ textG t).length < 140737488355328) (k : Nat) :
    lex_Show.l0 (k + 1) T acc T (T.length : Int) (i : Int) = lex_Show.l0 k T (acc ++ sep p t ++ textG t) T (T.length : Int) ((i + 1 : Nat) : Int) := by
  obtain ⟨hr, hlt⟩ := rd_drop hd
  have ew : wrap64 ((i : Int) + 1) = ((i + 1 : Nat) : Int) := by rw [wrap_nat (by omega) (by omega)]; omega
  obtain ⟨t1, t3, t4, t5, t6, t7, t8⟩ := table_at
  simp only [List.length_append] at hl
  rw [lex_Show.l0, if_pos (by omega), if_pos (by omega), if_pos (by omega), hr, ew]
  by_cases h0 : t.f0 = 0
  · have ht : textG t = bytesOf t.f2 := by unfold textG; rw [if_pos h0]
    rw [ht, bytesOf_length] at hl
    rw [if_pos h0, ht]
    by_cases hi : (i : Int) > 0
    · have e1 : wrap64 ((i : Int) - 1) = (i : Int) - 1 := wrap_nat (by omega) (by omega)
      rw [if_pos hi, e1, if_pos (by omega), if_pos (by omega)]
      by_cases hq : (rd_T32 T ((i : Int) - 1)).f0 = 0
      · have hs : sep p t = [32] := by unfold sep; rw [if_pos ⟨hp.2 ⟨by omega, hq⟩, h0⟩]
        rw [hs] at hl ⊢
        simp only [List.length_cons, List.length_nil] at hl
        rw [if_pos hq, if_pos (by omega), Option.bind_some, if_pos (by simp; omega)]
      · have hs : sep p t = [] := by unfold sep; rw [if_neg (fun h => hq (hp.1 h.1).2)]
        rw [hs] at hl ⊢
        simp only [List.length_nil] at hl
        rw [if_neg hq, if_pos (by omega), List.append_nil]
    · have hs : sep p t = [] := by unfold sep; rw [if_neg (fun h => hi (by have := (hp.1 h.1).1; omega))]
      rw [hs] at hl ⊢
      simp only [List.length_nil] at hl
      rw [if_neg hi, if_pos (by omega), List.append_nil]
  · have hs : sep p t = [] := by unfold sep; rw [if_neg (fun h => h0 h.2)]
    rw [hs] at hl ⊢
    rw [if_neg h0, List.append_nil]
    unfold textG at hl ⊢
    rw [if_neg h0] at hl ⊢
    by_cases h2 : t.f0 = 2
    · rw [if_pos h2] at hl ⊢
      simp at hl
      rw [if_pos h2, if_pos (by omega)]
      rfl
    rw [if_neg h2] at hl ⊢
    rw [if_neg h2]
    by_cases h1 : t.f0 = 1
    · rw [if_pos h1] at hl ⊢
      simp at hl
      rw [if_pos h1, h1, t1, if_pos (by decide +kernel), if_pos (by decide +kernel), if_pos (by omega)]
    rw [if_neg h1] at hl ⊢
    rw [if_neg h1]
    by_cases h3 : t.f0 = 3
    · rw [if_pos h3] at hl ⊢
      simp at hl
      rw [if_pos h3, h3, t3, if_pos (by decide +kernel), if_pos (by decide +kernel), if_pos (by omega)]
    rw [if_neg h3] at hl ⊢
    rw [if_neg h3]
    by_cases h4 : t.f0 = 4
    · rw [if_pos h4] at hl ⊢
      simp at hl
      rw [if_pos h4, h4, t4, if_pos (by decide +kernel), if_pos (by decide +kernel), if_pos (by omega)]
    rw [if_neg h4] at hl ⊢
    rw [if_neg h4]
    by_cases h5 : t.f0 = 5
    · rw [if_pos h5] at hl ⊢
      simp at hl
      rw [if_pos h5, h5, t5, if_pos (by decide +kernel), if_pos (by decide +kernel), if_pos (by omega)]
    rw [if_neg h5] at hl ⊢
    rw [if_neg h5]
    by_cases h6 : t.f0 = 6
    · rw [if_pos h6] at hl ⊢
      simp at hl
      rw [if_pos h6, h6, t6, if_pos (by decide +kernel), if_pos (by decide +kernel), if_pos (by omega)]
    rw [if_neg h6] at hl ⊢
    rw [if_neg h6]
    by_cases h7 : t.f0 = 7
    · rw [if_pos h7] at hl ⊢
      simp at hl
      rw [if_pos h7, h7, t7, if_pos (by decide +kernel), if_pos (by decide +kernel), if_pos (by omega)]
    rw [if_neg h7] at hl ⊢
    rw [if_neg h7]
    by_cases h8 : t.f0 = 8
    · rw [if_pos h8] at hl ⊢
      simp at hl
      rw [if_pos h8, h8, t8, if_pos (by decide +kernel), if_pos (by decide +kernel), if_pos (by omega)]
    rw [if_neg h8, if_neg h8, List.append_nil]

theorem show_loop (T : List S32) (hT : T.length < 1099511627776) : ∀ (d i : Nat) (acc : List Int) (p : Bool), T.length - i = d → i ≤ T.length → (p = true ↔ 0 < i ∧ (rd_T32 T ((i : Int) - 1)).f0 = 0) → (acc ++ shown p (T.drop i)).length < 140737488355328 →
    Ev (fun k => lex_Show.l0 k T acc T (T.length : Int) (i : Int)) (strOfNums (acc ++ shown p (T.drop i))) := by
  intro d
  induction d with
  | zero =>
    intro i acc p hd hi hp hl
    refine Ev.step (f := fun _ => some (strOfNums (acc ++ shown p (T.drop i)))) (fun k => ?_) (Ev.now _)
    rw [lex_Show.l0, if_neg (by omega), List.drop_eq_nil_of_le (by omega)]
    simp [shown]
  | succ d ih =>
    intro i acc p hd hi hp hl
    obtain ⟨t, r, hdr⟩ : ∃ t r, T.drop i = t :: r := by
      cases h : T.drop i with
      | nil => have := congrArg List.length h; simp at this; omega
      | cons t r => exact ⟨t, r, rfl⟩
    have hsh : acc ++ shown p (T.drop i) = acc ++ sep p t ++ textG t ++ shown (t.f0 == 0) r := by
      rw [hdr, shown]
      simp [sep, List.append_assoc]
    rw [hsh] at hl ⊢
    have h := ih (i + 1) (acc ++ sep p t ++ textG t) (t.f0 == 0) (by omega) (by omega) (by
      rw [show ((i + 1 : Nat) : Int) - 1 = (i : Int) by omega, (rd_drop hdr).1]
      simp) (by rw [drop_next hdr]; exact hl)
    rw [drop_next hdr] at h
    refine Ev.step (fun k => show_round T i t r acc p hdr hT hp ?_ k) h
    have := @List.length_append Int (acc ++ sep p t ++ textG t) (shown (t.f0 == 0) r)
    omega

theorem Show_ev (T : List S32) (hl : (shown false T).length < 140737488355328) (hT : T.length < 1099511627776) : Ev (fun k => lex_Show.f k T) (strOfNums (shown false T)) := by
  have := show_loop T hT T.length 0 [] false (by omega) (by omega) (by simp) (by simpa using hl)
  simpa [lex_Show.f] using this

theorem nums_data (l : List Int) : (strOfNums l).data.toList = l.map (fun n => UInt8.ofNat n.toNat) := by simp [strOfNums]

theorem bytes_back (s : ByteArray) : (bytesOf s).map (fun n => UInt8.ofNat n.toNat) = s.data.toList := by
  simp [bytesOf, Function.comp_def]

/-! ### where tokens stand -/
theorem textG_word (a : Int) (w : List UInt8) : textG ⟨0, a, str w⟩ = w.map toInt := by
  unfold textG
  rw [if_pos rfl]
  simp [bytesOf, str, toInt]
theorem textG_dots (a : Int) (x : ByteArray) : textG ⟨2, a, x⟩ = [46, 46] := by
  unfold textG
  rw [if_neg (show ¬ (2 : Int) = 0 by decide), if_pos rfl]
theorem textG_end (n : Nat) : textG (endTok n) = [] := rfl
theorem sign_text : ∀ n : Nat, n < 256 → isSign (n : Int) = true → ∀ (a : Int) (x : ByteArray), textG ⟨kindOf (n : Int), a, x⟩ = [(n : Int)] ∧ kindOf (n : Int) ≠ 0 := by
  intro n hn h a x
  have : ∀ n : Nat, n < 256 → isSign (n : Int) = true → n = 47 ∨ n = 42 ∨ n = 91 ∨ n = 93 ∨ n = 44 ∨ n = 63 ∨ n = 126 := by
    intro n _ h
    simp [isSign] at h
    omega
  rcases this n hn h with rfl | rfl | rfl | rfl | rfl | rfl | rfl <;> exact ⟨rfl, by decide⟩
theorem textG_sign (c : UInt8) (h : isSignB c = true) (a : Int) (x : ByteArray) : textG ⟨kindOf (toInt c), a, x⟩ = [toInt c] := (sign_text c.toNat c.toNat_lt h a x).1
theorem kind_sign (c : UInt8) (h : isSignB c = true) : kindOf (toInt c) ≠ 0 := (sign_text c.toNat c.toNat_lt h 0 ⟨#[]⟩).2

theorem Lx.first {l : List UInt8} {a : Nat} {T : List S32} (h : Lx l a T) : ∀ t U, T = t :: U → ∃ b tb l', l = List.replicate b 32 ++ (tb ++ l') ∧ t.f1 = ((a + b : Nat) : Int) ∧ textG t = tb.map toInt ∧ Lx l' (a + b + tb.length) U := by
  induction h with
  | nil a => intro t U h; cases h
  | word w l a T hne hw hl h _ =>
    intro t U e
    cases e
    exact ⟨0, w, l, rfl, rfl, textG_word _ _, h⟩
  | sign c l a T hc hg h _ =>
    intro t U e
    cases e
    exact ⟨0, [c], l, rfl, rfl, textG_sign c hg _ _, h⟩
  | dots l a T h _ =>
    intro t U e
    cases e
    exact ⟨0, [46, 46], l, rfl, rfl, textG_dots _ _, h⟩
  | blank l a T h ih =>
    intro t U e
    obtain ⟨b, tb, l', h1, h2, h3, h4⟩ := ih t U e
    exact ⟨b + 1, tb, l', by rw [h1, List.replicate_succ]; rfl, by rw [h2]; omega, h3, by rw [show a + (b + 1) + tb.length = a + 1 + b + tb.length by omega]; exact h4⟩

theorem Lx.blanks {l : List UInt8} {a : Nat} {T : List S32} (h : Lx l a T) : T = [] → ∃ b, l = List.replicate b 32 := by
  induction h with
  | nil a => exact fun _ => ⟨0, rfl⟩
  | word w l a T _ _ _ _ _ => intro e; cases e
  | sign c l a T _ _ _ _ => intro e; cases e
  | dots l a T _ _ => intro e; cases e
  | blank l a T _ ih =>
    intro e
    obtain ⟨b, h⟩ := ih e
    exact ⟨b + 1, by rw [h, List.replicate_succ]⟩

theorem nums_size (l : List Int) : (strOfNums l).size = l.length := by simp [strOfNums, ByteArray.size]
theorem nums_list (l : List Int) : (strOfNums l).toList = l.map (fun n => UInt8.ofNat n.toNat) := by rw [ByteArray.toList_eq, nums_data]
theorem back_map (w : List UInt8) : (w.map toInt).map (fun n => UInt8.ofNat n.toNat) = w := by
  rw [List.map_map]
  have : ((fun n : Int => UInt8.ofNat n.toNat) ∘ toInt) = id := by
    funext c
    simp [toInt]
  rw [this, List.map_id]
end Go.Proofs.Ytahijlmpdmlffaa.S
