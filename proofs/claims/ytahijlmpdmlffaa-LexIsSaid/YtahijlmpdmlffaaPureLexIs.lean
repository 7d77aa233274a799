/- lex.All of any text (of at most 3000 bytes) and lex.Show of any tokens (at most 60, of at most 40 bytes each) are what the document's own answer is. -/
import Derived.Test.YtahijlmpdmlffaaPx5
import Derived.Test.YtahijlmpdmlffaaS2
namespace Go.Proofs.Ytahijlmpdmlffaa.Pure
open Go.RowKit Go.Proofs.Ytahijlmpdmlffaa.P Go.Proofs.YtahijlmpdmlffaaW.PrintWords Go.Proofs.YtahijlmpdmlffaaW.PrintLast Go.Proofs.Ytahijlmpdmlffaa.S

/-! ### the reference's tokens -/
theorem letter_ref (c : UInt8) : lustrumref09_letter.f (toInt c) = some (letter c) := by
  have : ∀ n : Nat, n < 256 → lustrumref09_letter.f (n : Int) = some (letter (UInt8.ofNat n)) := by decide +kernel
  have h := this c.toNat c.toNat_lt
  rwa [UInt8.ofNat_toNat] at h
theorem sign_ref (c : UInt8) : lustrumref09_sign.f (toInt c) = some (if isSignB c = true then kindOf (toInt c) else -1) := by
  have : ∀ n : Nat, n < 256 → lustrumref09_sign.f (n : Int) = some (if isSignB (UInt8.ofNat n) = true then kindOf (n : Int) else -1) := by decide +kernel
  have h := this c.toNat c.toNat_lt
  rwa [UInt8.ofNat_toNat] at h
theorem sign_pos (c : UInt8) (h : isSignB c = true) : 1 ≤ kindOf (toInt c) := by
  have : ∀ n : Nat, n < 256 → isSign (n : Int) = true → 1 ≤ kindOf (n : Int) := by decide +kernel
  exact this c.toNat c.toNat_lt h
theorem sign_dot (c : UInt8) (h : isSignB c = true) : toInt c ≠ 46 := by
  have : ∀ n : Nat, n < 256 → isSign (n : Int) = true → (n : Int) ≠ 46 := by decide +kernel
  exact this c.toNat c.toNat_lt h
theorem toInt_eq (c : UInt8) (n : Nat) (hn : n < 256) : toInt c = (n : Int) ↔ c = UInt8.ofNat n := by
  unfold toInt
  constructor
  · intro h
    have : c.toNat = n := by omega
    rw [← this, UInt8.ofNat_toNat]
  · rintro rfl
    rw [UInt8.toNat_ofNat']
    omega

theorem one_loop (s : ByteArray) (hs : s.size ≤ 2000) (a : Nat) (R : Int × Int × ByteArray × Int) : ∀ (w l : List UInt8) (n : Nat), s.data.toList.drop (a + n) = w ++ l → (∀ c ∈ w, letter c = true) → (∀ c, l.head? = some c → letter c = false) → a + n ≤ s.size →
    Ev (fun k => lustrumref09_one.j1 k s (a : Int) ((n + w.length : Nat) : Int)) R → Ev (fun k => lustrumref09_one.l0 k s (a : Int) (n : Int)) R := by
  intro w
  induction w with
  | nil =>
    intro l n hd hw hl ha h
    have hsz := size_of hd ha
    cases l with
    | nil =>
      simp at hsz
      refine Ev.step (fun k => ?_) h
      rw [lustrumref09_one.l0, wrap_nat (by omega) (by omega), if_neg (by omega)]
      rfl
    | cons c l =>
      obtain ⟨hb, hlt⟩ := bt_drop hd
      refine Ev.step (fun k => ?_) h
      rw [lustrumref09_one.l0, wrap_nat (by omega) (by omega), if_pos (by omega), if_pos (by omega), show (a : Int) + (n : Int) = ((a + n : Nat) : Int) by omega, hb, letter_ref, hl c rfl]
      rfl
  | cons c w ih =>
    intro l n hd hw hl ha h
    obtain ⟨hb, hlt⟩ := bt_drop hd
    have h2 := ih l (n + 1) (by rw [← Nat.add_assoc]; exact drop_more (w := [c]) hd) (fun x hx => hw x (by simp [hx])) hl (by omega) (by rw [show n + 1 + w.length = n + (c :: w).length by simp; omega]; exact h)
    refine Ev.step (fun k => ?_) h2
    rw [lustrumref09_one.l0, wrap_nat (by omega) (by omega), if_pos (by omega), if_pos (by omega), show (a : Int) + (n : Int) = ((a + n : Nat) : Int) by omega, hb, letter_ref, hw c (by simp), Option.bind_some, if_pos rfl, wrap_nat (by omega) (by omega)]
    rfl

theorem one_word (s : ByteArray) (hs : s.size ≤ 2000) (a : Nat) (w l : List UInt8) (hne : w ≠ []) (hd : s.data.toList.drop a = w ++ l) (hw : ∀ c ∈ w, letter c = true) (hl : ∀ c, l.head? = some c → letter c = false) (ha : a ≤ s.size) :
    Ev (fun k => lustrumref09_one.f k s (a : Int)) (0, (a : Int), str w, (w.length : Int)) := by
  have hsz := size_of hd ha
  have hpos : 0 < w.length := List.length_pos_iff.2 hne
  simp at hsz
  refine one_loop s hs a _ w l 0 hd hw hl ha ?_
  refine Ev.step (f := fun _ => some (0, (a : Int), str w, (w.length : Int))) (fun k => ?_) (Ev.now _)
  have e : wrap64 ((a : Int) + ((0 + w.length : Nat) : Int)) = ((a + w.length : Nat) : Int) := by
    rw [wrap_nat (by omega) (by omega)]
    omega
  rw [lustrumref09_one.j1, if_pos (by omega), if_pos (by omega), e, if_pos (by omega), if_pos (by omega), cut_str s a w l hd _ rfl, Nat.zero_add]

theorem one_none (s : ByteArray) (hs : s.size ≤ 2000) (a : Nat) (c : UInt8) (l : List UInt8) (hc : letter c = false) (hd : s.data.toList.drop a = c :: l) {R : Int × Int × ByteArray × Int} (h : Ev (fun k => lustrumref09_one.j1 k s (a : Int) 0) R) : Ev (fun k => lustrumref09_one.f k s (a : Int)) R := by
  obtain ⟨hb, hlt⟩ := bt_drop hd
  exact one_loop s hs a _ [] (c :: l) 0 hd (by simp) (no_word hc) (by omega) h

theorem one_sign (s : ByteArray) (hs : s.size ≤ 2000) (a : Nat) (c : UInt8) (l : List UInt8) (hc : letter c = false) (hg : isSignB c = true) (hd : s.data.toList.drop a = c :: l) :
    Ev (fun k => lustrumref09_one.f k s (a : Int)) (kindOf (toInt c), (a : Int), (⟨#[]⟩ : ByteArray), 1) := by
  obtain ⟨hb, hlt⟩ := bt_drop hd
  refine one_none s hs a c l hc hd (Ev.step (f := fun _ => some (kindOf (toInt c), (a : Int), (⟨#[]⟩ : ByteArray), 1)) (fun k => ?_) (Ev.now _))
  have := sign_pos c hg
  rw [lustrumref09_one.j1, if_neg (by omega), if_pos (by omega), if_pos (by omega), hb, if_neg (sign_dot c hg), sign_ref, if_pos hg, Option.bind_some, if_neg (by omega)]

theorem one_plain (s : ByteArray) (hs : s.size ≤ 2000) (a : Nat) (c : UInt8) (l : List UInt8) (hc : letter c = false) (hg : isSignB c = false) (h46 : c ≠ 46) (hd : s.data.toList.drop a = c :: l) :
    Ev (fun k => lustrumref09_one.f k s (a : Int)) (0, 0, (⟨#[]⟩ : ByteArray), 0) := by
  obtain ⟨hb, hlt⟩ := bt_drop hd
  refine one_none s hs a c l hc hd (Ev.step (f := fun _ => some (0, 0, (⟨#[]⟩ : ByteArray), 0)) (fun k => ?_) (Ev.now _))
  rw [lustrumref09_one.j1, if_neg (by omega), if_pos (by omega), if_pos (by omega), hb, if_neg (show ¬ toInt c = 46 from fun e => h46 ((toInt_eq c 46 (by omega)).1 e)), sign_ref, if_neg (by rw [hg]; simp), Option.bind_some, if_pos (by omega)]

theorem one_dot (s : ByteArray) (hs : s.size ≤ 2000) (a : Nat) (l : List UInt8) (hd : s.data.toList.drop a = 46 :: l) (b : Bool) (hbl : b = true ↔ l.head? = some 46) {R : Int × Int × ByteArray × Int} (h : Ev (fun k => lustrumref09_one.j2 k (a : Int) b) R) :
    Ev (fun k => lustrumref09_one.f k s (a : Int)) R := by
  obtain ⟨hb, hlt⟩ := bt_drop hd
  have hsz := size_of hd (by omega)
  refine one_none s hs a 46 l dot_plain.1 hd (Ev.step (fun k => ?_) h)
  have e : wrap64 ((a : Int) + 1) = ((a + 1 : Nat) : Int) := by
    rw [wrap_nat (by omega) (by omega)]
    omega
  rw [lustrumref09_one.j1, if_neg (by omega), if_pos (by omega), if_pos (by omega), hb, if_pos (by rfl), e]
  cases l with
  | nil =>
    have : b = false := by
      cases b with
      | false => rfl
      | true => have := hbl.1 rfl; cases this
    subst this
    simp at hsz
    rw [if_neg (by omega)]
  | cons d l =>
    obtain ⟨hb2, hlt2⟩ := bt_drop (drop_more (w := [46]) hd)
    have hb3 : bt s ((a + 1 : Nat) : Int) = toInt d := hb2
    have hq : (toInt d == 46) = b := by
      rw [Bool.eq_iff_iff, beq_iff_eq]
      rw [hbl]
      have := toInt_eq d 46 (by omega)
      constructor
      · intro h
        have e := this.1 h
        rw [e]
        rfl
      · intro h
        injection h with h
        exact this.2 h
    have hlt3 : a + 1 < s.size := hlt2
    rw [if_pos (by omega), if_pos (by omega), hb3, hq]

theorem one_dots (s : ByteArray) (hs : s.size ≤ 2000) (a : Nat) (l : List UInt8) (hd : s.data.toList.drop a = 46 :: 46 :: l) :
    Ev (fun k => lustrumref09_one.f k s (a : Int)) (2, (a : Int), (⟨#[]⟩ : ByteArray), 2) :=
  one_dot s hs a (46 :: l) hd true (by simp) (Ev.step (f := fun _ => some (2, (a : Int), (⟨#[]⟩ : ByteArray), 2)) (fun k => by rw [lustrumref09_one.j2, if_pos rfl]) (Ev.now _))

theorem one_lone (s : ByteArray) (hs : s.size ≤ 2000) (a : Nat) (l : List UInt8) (hd : s.data.toList.drop a = 46 :: l) (h : ∀ d, l.head? = some d → d ≠ 46) :
    Ev (fun k => lustrumref09_one.f k s (a : Int)) (0, 0, (⟨#[]⟩ : ByteArray), 0) :=
  one_dot s hs a l hd false ⟨(fun e => by cases e), fun e => absurd rfl (h 46 e)⟩ (Ev.step (f := fun _ => some (0, 0, (⟨#[]⟩ : ByteArray), 0)) (fun k => by rw [lustrumref09_one.j2, if_neg (by simp)]) (Ev.now _))

/-! ### the reference's All -/
theorem ref_round (s : ByteArray) (hs : s.size ≤ 2000) (a : Nat) (c : UInt8) (l : List UInt8) (hd : s.data.toList.drop a = c :: l) (h32 : c ≠ 32) (out : List S32) (ho : out.length ≤ a) {x : Int × Int × ByteArray × Int} (hx : Ev (fun k => lustrumref09_one.f k s (a : Int)) x) (n : Nat) (hn : x.2.2.2 = (n : Int)) (hn0 : 0 < n) (hn1 : n ≤ 3000)
    {R : (List S32) × Int × Int} (h : Ev (fun k => lustrumref09_All.l0 k s (out ++ [⟨x.1, x.2.1, x.2.2.1⟩]) ((a + n : Nat) : Int)) R) : Ev (fun k => lustrumref09_All.l0 k s out (a : Int)) R := by
  obtain ⟨hb, hlt⟩ := bt_drop hd
  refine Ev.step (f := fun k => (lustrumref09_one.f k s (a : Int)).bind fun y => (if y.2.2.2 = 0 then (some (([] : List (S32)), (a : Int), 1)) else (if out.length < 4398046511104 then (lustrumref09_All.l0 k s (out ++ [(⟨y.1, y.2.1, y.2.2.1⟩ : S32)]) (wrap64 ((a : Int) + y.2.2.2))) else (none)))) (fun k => ?_) (Ev.bind hx (Ev.no (by omega) (Ev.yes (by omega) ?_)))
  · rw [lustrumref09_All.l0, if_pos (by omega), if_pos (by omega), hb, if_neg (show ¬ toInt c = 32 from fun e => h32 ((toInt_eq c 32 (by omega)).1 e))]
  · rw [hn, wrap_nat (by omega) (by omega), show (a : Int) + (n : Int) = ((a + n : Nat) : Int) by omega]
    exact h

theorem ref_stop (s : ByteArray) (a : Nat) (c : UInt8) (l : List UInt8) (hd : s.data.toList.drop a = c :: l) (h32 : c ≠ 32) (out : List S32) (hx : Ev (fun k => lustrumref09_one.f k s (a : Int)) (0, 0, (⟨#[]⟩ : ByteArray), 0)) :
    Ev (fun k => lustrumref09_All.l0 k s out (a : Int)) ([], (a : Int), 1) := by
  obtain ⟨hb, hlt⟩ := bt_drop hd
  refine Ev.step (f := fun k => (lustrumref09_one.f k s (a : Int)).bind fun y => (if y.2.2.2 = 0 then (some (([] : List (S32)), (a : Int), 1)) else (if out.length < 4398046511104 then (lustrumref09_All.l0 k s (out ++ [(⟨y.1, y.2.1, y.2.2.1⟩ : S32)]) (wrap64 ((a : Int) + y.2.2.2))) else (none)))) (fun k => ?_) (Ev.bind hx (Ev.yes rfl (Ev.now _)))
  rw [lustrumref09_All.l0, if_pos (by omega), if_pos (by omega), hb, if_neg (show ¬ toInt c = 32 from fun e => h32 ((toInt_eq c 32 (by omega)).1 e))]

theorem ref_blank (s : ByteArray) (hs : s.size ≤ 2000) (a : Nat) (l : List UInt8) (hd : s.data.toList.drop a = 32 :: l) (out : List S32) {R : (List S32) × Int × Int} (h : Ev (fun k => lustrumref09_All.l0 k s out ((a + 1 : Nat) : Int)) R) : Ev (fun k => lustrumref09_All.l0 k s out (a : Int)) R := by
  obtain ⟨hb, hlt⟩ := bt_drop hd
  refine Ev.step (fun k => ?_) h
  rw [lustrumref09_All.l0, if_pos (by omega), if_pos (by omega), hb, if_pos (by rfl), wrap_nat (by omega) (by omega)]
  rfl

theorem word_32 {c : UInt8} (h : letter c = true) : c ≠ 32 := by
  rintro rfl
  rw [blank_plain.1] at h
  cases h
theorem sign_32 {c : UInt8} (h : isSignB c = true) : c ≠ 32 := by
  rintro rfl
  rw [blank_plain.2] at h
  cases h

theorem ref_ok (s : ByteArray) (hs : s.size ≤ 2000) {l : List UInt8} {a : Nat} {T : List S32} (h : Lx l a T) : s.data.toList.drop a = l → ∀ out : List S32, out.length ≤ a → a ≤ s.size →
    Ev (fun k => lustrumref09_All.l0 k s out (a : Int)) (out ++ T ++ [endTok s.size], (s.size : Int), 0) := by
  induction h with
  | nil a =>
    intro hd out ho ha
    have hsz := size_of hd ha
    simp at hsz
    refine Ev.step (f := fun _ => some (out ++ [] ++ [endTok s.size], (s.size : Int), 0)) (fun k => ?_) (Ev.now _)
    rw [lustrumref09_All.l0, if_neg (by omega), if_pos (by omega)]
    simp [endTok]
  | word w l a T hne hw hl _ ih =>
    intro hd out ho ha
    have hsz := size_of hd ha
    have hpos : 0 < w.length := List.length_pos_iff.2 hne
    simp at hsz
    obtain ⟨c, w', rfl⟩ : ∃ c w', w = c :: w' := by cases w with | nil => exact absurd rfl hne | cons c w' => exact ⟨c, w', rfl⟩
    refine ref_round s hs a c (w' ++ l) hd (word_32 (hw c (by simp))) out ho (one_word s hs a _ l hne hd hw hl ha) (c :: w').length rfl hpos (by omega) ?_
    have := ih (drop_more hd) (out ++ [⟨0, a, str (c :: w')⟩]) (by simp; omega) (by omega)
    simpa using this
  | sign c l a T hc hg _ ih =>
    intro hd out ho ha
    have hsz := size_of hd ha
    simp at hsz
    refine ref_round s hs a c l hd (sign_32 hg) out ho (one_sign s hs a c l hc hg hd) 1 rfl (by omega) (by omega) ?_
    have := ih (drop_more (w := [c]) hd) (out ++ [⟨kindOf (toInt c), a, ⟨#[]⟩⟩]) (by simp; omega) (by omega)
    simpa using this
  | dots l a T _ ih =>
    intro hd out ho ha
    have hsz := size_of hd ha
    simp at hsz
    refine ref_round s hs a 46 (46 :: l) hd (by decide) out ho (one_dots s hs a l hd) 2 rfl (by omega) (by omega) ?_
    have := ih (drop_more (w := [46, 46]) hd) (out ++ [⟨2, a, ⟨#[]⟩⟩]) (by simp; omega) (by omega)
    simpa using this
  | blank l a T _ ih =>
    intro hd out ho ha
    have hsz := size_of hd ha
    simp at hsz
    exact ref_blank s hs a l hd out (ih (drop_more (w := [32]) hd) out (by omega) (by omega))

theorem ref_bad (s : ByteArray) (hs : s.size ≤ 2000) {l : List UInt8} {a p : Nat} (h : Bad l a p) : s.data.toList.drop a = l → ∀ out : List S32, out.length ≤ a → a ≤ s.size →
    Ev (fun k => lustrumref09_All.l0 k s out (a : Int)) ([], (p : Int), 1) := by
  induction h with
  | here c l a hc hg hb hdot =>
    intro hd out ho ha
    by_cases h46 : c = 46
    · subst h46
      exact ref_stop s a 46 l hd hb out (one_lone s hs a l hd (hdot rfl))
    · exact ref_stop s a c l hd hb out (one_plain s hs a c l hc hg h46 hd)
  | word w l a p hne hw hl _ ih =>
    intro hd out ho ha
    have hsz := size_of hd ha
    have hpos : 0 < w.length := List.length_pos_iff.2 hne
    simp at hsz
    obtain ⟨c, w', rfl⟩ : ∃ c w', w = c :: w' := by cases w with | nil => exact absurd rfl hne | cons c w' => exact ⟨c, w', rfl⟩
    exact ref_round s hs a c (w' ++ l) hd (word_32 (hw c (by simp))) out ho (one_word s hs a _ l hne hd hw hl ha) (c :: w').length rfl hpos (by omega) (ih (drop_more hd) _ (by simp; omega) (by omega))
  | sign c l a p hc hg _ ih =>
    intro hd out ho ha
    have hsz := size_of hd ha
    simp at hsz
    exact ref_round s hs a c l hd (sign_32 hg) out ho (one_sign s hs a c l hc hg hd) 1 rfl (by omega) (by omega) (ih (drop_more (w := [c]) hd) _ (by simp; omega) (by omega))
  | dots l a p _ ih =>
    intro hd out ho ha
    have hsz := size_of hd ha
    simp at hsz
    exact ref_round s hs a 46 (46 :: l) hd (by decide) out ho (one_dots s hs a l hd) 2 rfl (by omega) (by omega) (ih (drop_more (w := [46, 46]) hd) _ (by simp; omega) (by omega))
  | blank l a p _ ih =>
    intro hd out ho ha
    have hsz := size_of hd ha
    simp at hsz
    exact ref_blank s hs a l hd out (ih (drop_more (w := [32]) hd) out (by omega) (by omega))

/-- lex.All and the reference's All are the same, of any text. -/
theorem All_both (s : ByteArray) : ∃ x, Ev (fun k => lex_All.f k s) x ∧ Ev (fun k => lustrumref09_All.f k s) x ∧ x.1.length ≤ 2001 := by
  by_cases hs : (s.size : Int) > 2000
  · refine ⟨_, All_long s (by omega), Ev.congr (fun k => ?_) (Ev.now _), by simp⟩
    unfold lustrumref09_All.f
    rw [if_pos hs]
  · have hl0 : s.data.toList.length = s.size := by simp
    rcases read_any _ s.data.toList 0 (Nat.le_refl _) with ⟨T, hT⟩ | ⟨p, hp⟩
    · refine ⟨_, All_ok s (by omega) hT, Ev.congr (fun k => ?_) (ref_ok s (by omega) hT rfl [] (by simp) (by omega)), ?_⟩
      · unfold lustrumref09_All.f
        rw [if_neg hs]
        rfl
      · have := hT.len.1
        simp
        omega
    · refine ⟨_, All_bad s (by omega) hp, Ev.congr (fun k => ?_) (ref_bad s (by omega) hp rfl [] (by simp) (by omega)), by simp⟩
      unfold lustrumref09_All.f
      rw [if_neg hs]
      rfl

theorem same_loop (X : List S32) (hX : X.length ≤ 10000) : ∀ (d i : Nat), X.length - i = d → i ≤ X.length → Ev (fun k => lustrumref09_Same.l0 k X X (i : Int)) true := by
  intro d
  induction d with
  | zero =>
    intro i hd hi
    refine Ev.step (f := fun _ => some true) (fun k => ?_) (Ev.now _)
    rw [lustrumref09_Same.l0, if_neg (by omega)]
  | succ d ih =>
    intro i hd hi
    refine Ev.step (fun k => ?_) (ih (i + 1) (by omega) (by omega))
    rw [lustrumref09_Same.l0, if_pos (by omega), if_pos (by omega), if_pos (by omega), if_neg (by rw [tok_same _ _ rfl]; simp), wrap_nat (by omega) (by omega)]
    rfl
theorem same_self (X : List S32) (hX : X.length ≤ 10000) : Ev (fun k => lustrumref09_Same.f k X X) true := by
  refine Ev.congr (fun k => ?_) (same_loop X hX _ 0 rfl (by omega))
  unfold lustrumref09_Same.f
  rw [if_pos rfl]
  rfl

/-! ### the reference's Show -/
theorem str_app (x y : List Int) : strOfNums (x ++ y) = strOfNums x ++ strOfNums y := by
  apply ByteArray.ext
  apply Array.toList_inj.1
  rw [data_app, nums_data, nums_data, nums_data, List.map_append]

theorem str_bytes (s : ByteArray) : strOfNums (bytesOf s) = s := by
  apply ByteArray.ext
  apply Array.toList_inj.1
  rw [nums_data, bytes_back]

theorem text_ref (t : S32) : lustrumref09_text.f t.f0 t.f1 t.f2 = some (strOfNums (textG t)) := by
  unfold lustrumref09_text.f
  rw [Option.bind_some]
  by_cases h0 : t.f0 < 0
  · rw [if_pos h0]
    unfold textG
    rw [if_neg (by omega), if_neg (by omega), if_neg (by omega), if_neg (by omega), if_neg (by omega), if_neg (by omega), if_neg (by omega), if_neg (by omega), if_neg (by omega)]
    rfl
  rw [if_neg h0]
  by_cases h8 : t.f0 > 8
  · rw [if_pos h8]
    unfold textG
    rw [if_neg (by omega), if_neg (by omega), if_neg (by omega), if_neg (by omega), if_neg (by omega), if_neg (by omega), if_neg (by omega), if_neg (by omega), if_neg (by omega)]
    rfl
  rw [if_neg h8, if_pos (by omega), if_pos (by simp; omega)]
  congr 1
  have : t.f0 = 0 ∨ t.f0 = 1 ∨ t.f0 = 2 ∨ t.f0 = 3 ∨ t.f0 = 4 ∨ t.f0 = 5 ∨ t.f0 = 6 ∨ t.f0 = 7 ∨ t.f0 = 8 := by omega
  rcases this with h | h | h | h | h | h | h | h | h
  · have e : textG t = bytesOf t.f2 := by unfold textG; rw [if_pos h]
    rw [e, h, str_bytes]
    rfl
  all_goals
    unfold textG
    rw [h]
    rfl

theorem ref_show_round (T : List S32) (i : Nat) (t : S32) (r : List S32) (acc : List Int) (p : Bool) (hd : T.drop i = t :: r) (hT : T.length < 1099511627776) (hp : p = true ↔ 0 < i ∧ (rd_T32 T ((i : Int) - 1)).f0 = 0) (hl : (acc ++ sep p t ++ textG t).length < 140737488355328) (k : Nat) :
    lustrumref09_Show.l0 (k + 1) T (strOfNums acc) (i : Int) = lustrumref09_Show.l0 k T (strOfNums (acc ++ sep p t ++ textG t)) ((i + 1 : Nat) : Int) := by
  obtain ⟨hr, hlt⟩ := rd_drop hd
  have ew : wrap64 ((i : Int) + 1) = ((i + 1 : Nat) : Int) := by rw [wrap_nat (by omega) (by omega)]; omega
  simp only [List.length_append] at hl
  have plain : sep p t = [] → ((lustrumref09_text.f t.f0 t.f1 t.f2).bind fun t181 => (if (strOfNums acc).size + t181.size ≤ 9223372036854775807 then (lustrumref09_Show.l0 k T (strOfNums acc ++ t181) ((i + 1 : Nat) : Int)) else (none))) = lustrumref09_Show.l0 k T (strOfNums (acc ++ sep p t ++ textG t)) ((i + 1 : Nat) : Int) := by
    intro hs
    rw [hs, text_ref, Option.bind_some, if_pos (by rw [nums_size, nums_size]; omega), List.append_nil, str_app]
  rw [lustrumref09_Show.l0, if_pos (by omega), hr, ew]
  by_cases hi : (i : Int) > 0
  · have e1 : wrap64 ((i : Int) - 1) = (i : Int) - 1 := wrap_nat (by omega) (by omega)
    rw [if_pos hi, if_pos (by omega)]
    by_cases h0 : t.f0 = 0
    · rw [if_pos h0, e1, if_pos (by omega), if_pos (by omega)]
      by_cases hq : (rd_T32 T ((i : Int) - 1)).f0 = 0
      · have hs : sep p t = [32] := by unfold sep; rw [if_pos ⟨hp.2 ⟨by omega, hq⟩, h0⟩]
        rw [hs] at hl ⊢
        simp only [List.length_cons, List.length_nil] at hl
        have e32 : (⟨#[32]⟩ : ByteArray) = strOfNums [32] := rfl
        rw [if_pos hq, if_pos (by rw [nums_size]; omega), text_ref, Option.bind_some, e32, ← str_app, if_pos (by rw [nums_size, nums_size]; simp; omega), ← str_app]
      · rw [if_neg hq]
        exact plain (by unfold sep; rw [if_neg (fun h => hq (hp.1 h.1).2)])
    · rw [if_neg h0]
      exact plain (by unfold sep; rw [if_neg (fun h => h0 h.2)])
  · rw [if_neg hi, if_pos (by omega)]
    exact plain (by unfold sep; rw [if_neg (fun h => hi (by have := (hp.1 h.1).1; omega))])

theorem ref_show_loop (T : List S32) (hT : T.length < 1099511627776) : ∀ (d i : Nat) (acc : List Int) (p : Bool), T.length - i = d → i ≤ T.length → (p = true ↔ 0 < i ∧ (rd_T32 T ((i : Int) - 1)).f0 = 0) → (acc ++ shown p (T.drop i)).length < 140737488355328 →
    Ev (fun k => lustrumref09_Show.l0 k T (strOfNums acc) (i : Int)) (strOfNums (acc ++ shown p (T.drop i))) := by
  intro d
  induction d with
  | zero =>
    intro i acc p hd hi hp hl
    refine Ev.step (f := fun _ => some (strOfNums (acc ++ shown p (T.drop i)))) (fun k => ?_) (Ev.now _)
    rw [lustrumref09_Show.l0, if_neg (by omega), List.drop_eq_nil_of_le (by omega)]
    simp [shown]
  | succ d ih =>
    intro i acc p hd hi hp hl
    obtain ⟨t, r, hdr⟩ : ∃ t r, T.drop i = t :: r := by
      cases h : T.drop i with
      | nil => have := congrArg List.length h; simp at this; omega
      | cons t r => exact ⟨t, r, rfl⟩
    have hsh : acc ++ shown p (T.drop i) = acc ++ sep p t ++ textG t ++ shown (t.f0 == 0) r := by
      rw [hdr, shown]
      simp [sep, List.append_assoc]
    rw [hsh] at hl ⊢
    have h := ih (i + 1) (acc ++ sep p t ++ textG t) (t.f0 == 0) (by omega) (by omega) (by
      rw [show ((i + 1 : Nat) : Int) - 1 = (i : Int) by omega, (rd_drop hdr).1]
      simp) (by rw [drop_next hdr]; exact hl)
    rw [drop_next hdr] at h
    refine Ev.step (fun k => ref_show_round T i t r acc p hdr hT hp ?_ k) h
    have := @List.length_append Int (acc ++ sep p t ++ textG t) (shown (t.f0 == 0) r)
    omega

theorem refShow_ev (T : List S32) (hl : (shown false T).length < 140737488355328) (hT : T.length < 1099511627776) : Ev (fun k => lustrumref09_Show.f k T) (strOfNums (shown false T)) := by
  have := ref_show_loop T hT T.length 0 [] false (by omega) (by omega) (by simp) (by simpa using hl)
  simp only [List.drop_zero, List.nil_append] at this
  exact this

/-! ### few tokens -/
theorem few_loop (X : List S32) (hX : X.length ≤ 4398046511104) : ∀ (d i : Nat), X.length - i = d → i ≤ X.length → ∃ b, Ev (fun k => lustrumref09_Few.l0 k X (i : Int)) b ∧ (b = true → X.length ≤ 60 ∧ ∀ t ∈ X.drop i, t.f2.size ≤ 40) := by
  intro d
  induction d with
  | zero =>
    intro i hd hi
    refine ⟨decide ((X.length : Int) ≤ 60), Ev.step (f := fun _ => some (decide ((X.length : Int) ≤ 60))) (fun k => ?_) (Ev.now _), fun h => ⟨by have := of_decide_eq_true h; omega, fun t ht => ?_⟩⟩
    · rw [lustrumref09_Few.l0, if_neg (by omega)]
    · rw [List.drop_eq_nil_of_le (by omega)] at ht
      cases ht
  | succ d ih =>
    intro i hd hi
    obtain ⟨t, r, hdr⟩ : ∃ t r, X.drop i = t :: r := by
      cases h : X.drop i with
      | nil => have := congrArg List.length h; simp at this; omega
      | cons t r => exact ⟨t, r, rfl⟩
    obtain ⟨hr, hlt⟩ := rd_drop hdr
    by_cases h40 : (t.f2.size : Int) > 40
    · refine ⟨false, Ev.step (f := fun _ => some false) (fun k => ?_) (Ev.now _), fun h => by cases h⟩
      rw [lustrumref09_Few.l0, if_pos (by omega), if_pos (by omega), hr, if_pos h40]
    · obtain ⟨b, h1, h2⟩ := ih (i + 1) (by omega) (by omega)
      refine ⟨b, Ev.step (fun k => ?_) h1, fun h => ⟨(h2 h).1, fun u hu => ?_⟩⟩
      · rw [lustrumref09_Few.l0, if_pos (by omega), if_pos (by omega), hr, if_neg h40, wrap_nat (by omega) (by omega)]
        rfl
      · rw [hdr] at hu
        rcases List.mem_cons.1 hu with rfl | hu
        · omega
        · exact (h2 h).2 u (by rw [drop_next hdr]; exact hu)

theorem shown_few : ∀ (X : List S32) (p : Bool), (∀ t ∈ X, t.f2.size ≤ 40) → (shown p X).length ≤ 41 * X.length := by
  intro X
  induction X with
  | nil => intro p _; simp [shown]
  | cons t X ih =>
    intro p h
    have h2 := ih (t.f0 == 0) (fun u hu => h u (by simp [hu]))
    have h3 : (if p = true ∧ t.f0 = 0 then [(32 : Int)] else []).length ≤ 1 := by split <;> simp
    have h4 : (textG t).length ≤ 40 := by
      unfold textG
      split
      · rw [bytesOf_length]; exact h t (by simp)
      · repeat' split
        all_goals simp
    rw [shown, List.length_append, List.length_append, List.length_cons]
    omega

theorem LexIs (s : ByteArray) (l : List S32) (_ : s.size ≤ 140737488351232) (hl : l.length ≤ 4398046511104) : ∃ k, lustrumlaw09_LexIs.f k s l = some true := by
  refine Ev.rounds (g := fun k => lustrumlaw09_LexIs.f k s l) (Ev.bind awake_ev ?_)
  have lim : Ev (fun k => lustrumlaw09_LexIs.j0 k s l true true) true := Ev.step (f := fun _ => some true) (fun k => by rw [lustrumlaw09_LexIs.j0, if_pos rfl]) (Ev.now _)
  by_cases hs : (s.size : Int) > 3000
  · exact Ev.yes hs lim
  refine Ev.no hs ?_
  obtain ⟨b, hb, hbt⟩ := few_loop l hl _ 0 rfl (by omega)
  refine Ev.bind (g := fun k => lustrumref09_Few.f k l) hb ?_
  cases b with
  | false => exact lim
  | true =>
    obtain ⟨h60, h40⟩ := hbt rfl
    rw [List.drop_zero] at h40
    have hsh := shown_few l false h40
    obtain ⟨x, e1, e2, e3⟩ := All_both s
    refine Ev.step (fun k => by rw [lustrumlaw09_LexIs.j0, if_neg (by simp)]) ?_
    refine Ev.bind e1 (Ev.bind e2 (Ev.yes rfl (Ev.yes rfl (Ev.yes rfl (Ev.bind (same_self _ (by omega)) (Ev.yes rfl ?_))))))
    refine Ev.bind (Show_ev l (by omega) (by omega)) (Ev.bind (refShow_ev l (by omega) (by omega)) ?_)
    rw [show ((strOfNums (shown false l)).toList == (strOfNums (shown false l)).toList) = true by simp]
    exact Ev.now _
end Go.Proofs.Ytahijlmpdmlffaa.Pure
