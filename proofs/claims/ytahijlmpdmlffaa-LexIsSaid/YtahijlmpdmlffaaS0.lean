import Derived.Test.YtahijlmpdmlffaaPx2
import Derived.Lib.Strings
namespace Go.Proofs.Ytahijlmpdmlffaa.S
open Go.RowKit Go.Proofs.YtahijlmpdmlffaaW.PrintWords Go.Proofs.YtahijlmpdmlffaaW.PrintLast Go.Proofs.Ytahijlmpdmlffaa.P

/-! ### bytes -/
def letters : List UInt8 := [48, 49, 50, 51, 52, 53, 54, 55, 56, 57, 88, 45, 115, 100, 99]
def letter (c : UInt8) : Bool := letters.contains c
def toInt (c : UInt8) : Int := (c.toNat : Int)

theorem index_ge (l : List UInt8) (c : UInt8) : (Lib.indexByte l c ≥ 0) ↔ l.contains c = true := by
  induction l with
  | nil => simp [Lib.indexByte]
  | cons b l ih =>
    unfold Lib.indexByte
    by_cases h : (b == c) = true
    · have e : b = c := by simpa using h
      subst e
      simp
    · have h' : (b == c) = false := by simpa using h
      have h2 : (c == b) = false := by
        rw [beq_eq_false_iff_ne] at h' ⊢
        exact fun e => h' e.symm
      rw [h']
      simp only [Bool.false_eq_true, if_false, List.contains_cons, h2, Bool.false_or]
      have hg := Lib.indexByte_ge l c
      by_cases h3 : Lib.indexByte l c = -1
      · rw [if_pos (by simpa using h3), ← ih, h3]
      · rw [if_neg (by simpa using h3), ← ih]
        omega

/-- A byte of a text, by what stands ahead of it. -/
theorem bt_drop {s : ByteArray} {at_ : Nat} {c : UInt8} {r : List UInt8} (h : s.data.toList.drop at_ = c :: r) : bt s (at_ : Int) = toInt c ∧ at_ < s.size := by
  have hlt : at_ < s.data.toList.length := by
    apply Classical.byContradiction
    intro hn
    rw [List.drop_eq_nil_of_le (by omega)] at h
    cases h
  have hlt2 : at_ < s.size := by simpa using hlt
  have hg : s.data.toList[at_]? = some c := by
    have := congrArg (fun l => l[0]?) h
    simpa using this
  refine ⟨?_, hlt2⟩
  unfold bt
  have h0 : ((at_ : Int)).toNat = at_ := by omega
  rw [dif_pos (by rw [h0]; exact hlt2)]
  have : s[at_]'hlt2 = c := by
    have e2 : s.data.toList[at_]'hlt = c := by
      rw [List.getElem?_eq_getElem hlt] at hg
      exact Option.some.inj hg
    rw [← e2]
    rfl
  simp only [h0, this]
  rfl

theorem drop_more {α : Type} {l : List α} {a : Nat} {w r : List α} (h : l.drop a = w ++ r) : l.drop (a + w.length) = r := by
  rw [← List.drop_drop, h, List.drop_left]

theorem wrap_nat {i : Int} (h0 : -9223372036854775808 ≤ i) (h1 : i ≤ 9223372036854775807) : wrap64 i = i := by
  unfold wrap64
  omega

/-! ### words -/
theorem index_letters (c : UInt8) : strings_IndexByte.f (⟨#[48, 49, 50, 51, 52, 53, 54, 55, 56, 57, 88, 45, 115, 100, 99]⟩ : ByteArray) (toInt c) = some (Lib.indexByte letters c) := by
  unfold strings_IndexByte.f toInt letters
  rw [Int.toNat_natCast]
  congr 2
  exact UInt8.ofNat_toNat

theorem word_loop (s : ByteArray) (hs : s.size ≤ 140737488351232) : ∀ (w r : List UInt8) (i : Nat), s.data.toList.drop i = w ++ r → (∀ c ∈ w, letter c = true) → (∀ c, r.head? = some c → letter c = false) → i ≤ s.size →
    Ev (fun k => lex_word.l0 k s (i : Int)) ((i + w.length : Nat) : Int) := by
  intro w
  induction w with
  | nil =>
    intro r i hd hw hr hi
    cases r with
    | nil =>
      refine Ev.step (f := fun _ => some (i : Int)) (fun k => ?_) (Ev.now _)
      have : s.size ≤ i := by
        have := congrArg List.length hd
        simp at this
        omega
      simp only [lex_word.l0]
      rw [if_neg (by omega)]
    | cons c r =>
      obtain ⟨hb, hlt⟩ := bt_drop hd
      refine Ev.step (f := fun _ => some (i : Int)) (fun k => ?_) (Ev.now _)
      simp only [lex_word.l0]
      rw [if_pos (by omega), if_pos (by omega), hb, index_letters]
      simp only [Option.bind_some]
      rw [if_neg]
      have := hr c rfl
      unfold letter at this
      rw [index_ge, this]
      simp
  | cons c w ih =>
    intro r i hd hw hr hi
    obtain ⟨hb, hlt⟩ := bt_drop hd
    have := ih r (i + 1) (drop_more (w := [c]) hd) (fun x hx => hw x (by simp [hx])) hr (by omega)
    rw [show (i + (c :: w).length : Nat) = i + 1 + w.length by simp; omega]
    refine Ev.step (fun k => ?_) this
    simp only [lex_word.l0]
    rw [if_pos (by omega), if_pos (by omega), hb, index_letters]
    simp only [Option.bind_some]
    have hl := hw c (by simp)
    rw [if_pos (by rw [index_ge]; exact hl), wrap_nat (by omega) (by omega)]
    rfl

theorem word_ev (s : ByteArray) (hs : s.size ≤ 140737488351232) (w r : List UInt8) (hd : s.data.toList = w ++ r) (hw : ∀ c ∈ w, letter c = true) (hr : ∀ c, r.head? = some c → letter c = false) :
    Ev (fun k => lex_word.f k s) (w.length : Int) := by
  have := word_loop s hs w r 0 (by simpa using hd) hw hr (by omega)
  simpa [lex_word.f] using this

/-! ### two points -/
theorem prefix_dots (s : ByteArray) : strings_HasPrefix.f s (⟨#[46, 46]⟩ : ByteArray) = some (s.data.toList.take 2 == [46, 46]) := by
  unfold strings_HasPrefix.f stringslite_HasPrefix.f
  have h2 : ((⟨#[46, 46]⟩ : ByteArray).size : Int) = 2 := rfl
  have h3 : (⟨#[46, 46]⟩ : ByteArray).toList = [46, 46] := by rw [ByteArray.toList_eq]
  rw [h2, h3]
  by_cases h : (s.size : Int) ≥ 2
  · rw [if_pos h, if_pos (by omega), if_pos (by omega), Lib.extract_toList]
    simp
  · rw [if_neg h]
    simp only [Option.bind_some]
    congr 1
    have hl : s.data.toList.length = s.size := by simp
    symm
    rw [beq_eq_false_iff_ne]
    intro e
    have := congrArg List.length e
    simp at this
    omega

/-! ### what a text's tokens are -/
def isSignB (c : UInt8) : Bool := isSign (toInt c)
def str (w : List UInt8) : ByteArray := ⟨w.toArray⟩

/-- From a place on, the bytes are read as these tokens (without the last one). -/
inductive Lx : List UInt8 → Nat → List S32 → Prop
  | nil (a : Nat) : Lx [] a []
  | word (w l : List UInt8) (a : Nat) (T : List S32) : w ≠ [] → (∀ c ∈ w, letter c = true) → (∀ c, l.head? = some c → letter c = false) → Lx l (a + w.length) T → Lx (w ++ l) a (⟨0, a, str w⟩ :: T)
  | sign (c : UInt8) (l : List UInt8) (a : Nat) (T : List S32) : letter c = false → isSignB c = true → Lx l (a + 1) T → Lx (c :: l) a (⟨kindOf (toInt c), a, ⟨#[]⟩⟩ :: T)
  | dots (l : List UInt8) (a : Nat) (T : List S32) : Lx l (a + 2) T → Lx (46 :: 46 :: l) a (⟨2, a, ⟨#[]⟩⟩ :: T)
  | blank (l : List UInt8) (a : Nat) (T : List S32) : Lx l (a + 1) T → Lx (32 :: l) a T

/-- From a place on, the bytes are read up to another place, where no token begins. -/
inductive Bad : List UInt8 → Nat → Nat → Prop
  | here (c : UInt8) (l : List UInt8) (a : Nat) : letter c = false → isSignB c = false → c ≠ 32 → (c = 46 → ∀ d, l.head? = some d → d ≠ 46) → Bad (c :: l) a a
  | word (w l : List UInt8) (a p : Nat) : w ≠ [] → (∀ c ∈ w, letter c = true) → (∀ c, l.head? = some c → letter c = false) → Bad l (a + w.length) p → Bad (w ++ l) a p
  | sign (c : UInt8) (l : List UInt8) (a p : Nat) : letter c = false → isSignB c = true → Bad l (a + 1) p → Bad (c :: l) a p
  | dots (l : List UInt8) (a p : Nat) : Bad l (a + 2) p → Bad (46 :: 46 :: l) a p
  | blank (l : List UInt8) (a p : Nat) : Bad l (a + 1) p → Bad (32 :: l) a p

theorem split_word (l : List UInt8) : ∃ w r, l = w ++ r ∧ (∀ c ∈ w, letter c = true) ∧ (∀ c, r.head? = some c → letter c = false) := by
  induction l with
  | nil => exact ⟨[], [], rfl, by simp, by simp⟩
  | cons c l ih =>
    by_cases h : letter c = true
    · obtain ⟨w, r, e, h1, h2⟩ := ih
      exact ⟨c :: w, r, by rw [e]; rfl, fun x hx => by rcases List.mem_cons.1 hx with rfl | hx; exact h; exact h1 x hx, h2⟩
    · exact ⟨[], c :: l, rfl, by simp, fun x hx => by injection hx with hx; rw [← hx]; simpa using h⟩

theorem read_any : ∀ (n : Nat) (l : List UInt8) (a : Nat), l.length ≤ n → (∃ T, Lx l a T) ∨ (∃ p, Bad l a p) := by
  intro n
  induction n with
  | zero =>
    intro l a h
    have : l = [] := List.eq_nil_of_length_eq_zero (by omega)
    subst this
    exact .inl ⟨[], .nil a⟩
  | succ n ih =>
    intro l a hn
    obtain ⟨w, r, rfl, hw, hr⟩ := split_word l
    by_cases hw0 : w = []
    · subst hw0
      cases r with
      | nil => exact .inl ⟨[], .nil a⟩
      | cons c l =>
        have hc := hr c rfl
        simp at hn
        by_cases hs : isSignB c = true
        · rcases ih l (a + 1) (by omega) with ⟨T, h⟩ | ⟨p, h⟩
          · exact .inl ⟨_, .sign c l a T hc hs h⟩
          · exact .inr ⟨p, .sign c l a p hc hs h⟩
        · replace hs : isSignB c = false := by simpa using hs
          by_cases hb : c = 32
          · subst hb
            rcases ih l (a + 1) (by omega) with ⟨T, h⟩ | ⟨p, h⟩
            · exact .inl ⟨_, .blank l a T h⟩
            · exact .inr ⟨p, .blank l a p h⟩
          · by_cases hd : c = 46
            · subst hd
              cases l with
              | nil => exact .inr ⟨a, .here 46 [] a hc hs hb (fun _ d h => by cases h)⟩
              | cons d l =>
                by_cases hd2 : d = 46
                · subst hd2
                  simp at hn
                  rcases ih l (a + 2) (by omega) with ⟨T, h⟩ | ⟨p, h⟩
                  · exact .inl ⟨_, .dots l a T h⟩
                  · exact .inr ⟨p, .dots l a p h⟩
                · exact .inr ⟨a, .here 46 (d :: l) a hc hs hb (fun _ x h => by injection h with h; rw [← h]; exact hd2)⟩
            · exact .inr ⟨a, .here c l a hc hs hb (fun h => absurd h hd)⟩
    · have hpos : 0 < w.length := List.length_pos_iff.2 hw0
      simp at hn
      rcases ih r (a + w.length) (by omega) with ⟨T, h⟩ | ⟨p, h⟩
      · exact .inl ⟨_, .word w r a T hw0 hw hr h⟩
      · exact .inr ⟨p, .word w r a p hw0 hw hr h⟩

/-! ### lex.All -/
theorem tail_data (s : ByteArray) (i : Nat) : (s.extract ((i : Int)).toNat s.size).data.toList = s.data.toList.drop i := by
  rw [Lib.extract_data, Int.toNat_natCast]
  rw [List.take_of_length_le]
  simp

theorem cut_str (s : ByteArray) (i : Nat) (w r : List UInt8) (h : s.data.toList.drop i = w ++ r) (j : Int) (hj : j = ((i + w.length : Nat) : Int)) : s.extract ((i : Int)).toNat j.toNat = str w := by
  subst hj
  rw [Int.toNat_natCast, Int.toNat_natCast]
  have e := Lib.extract_data s i (i + w.length)
  rw [h, show i + w.length - i = w.length by omega, List.take_left] at e
  rcases hx : s.extract i (i + w.length) with ⟨⟨l⟩⟩
  rw [hx] at e
  simp at e
  subst e
  rfl

def endTok (n : Nat) : S32 := ⟨9, n, ⟨#[]⟩⟩

theorem word_at (s : ByteArray) (hs : s.size ≤ 140737488351232) (i : Nat) (w r : List UInt8) (hd : s.data.toList.drop i = w ++ r) (hw : ∀ c ∈ w, letter c = true) (hr : ∀ c, r.head? = some c → letter c = false) :
    Ev (fun k => lex_word.f k (s.extract ((i : Int)).toNat s.size)) (w.length : Int) := by
  refine word_ev _ ?_ w r (by rw [tail_data]; exact hd) hw hr
  have := congrArg List.length (tail_data s i)
  simp at this
  simp
  omega



/-- What a round does behind the word's length. -/
def body (s : ByteArray) (out : List S32) (x6 : Int) (k : Nat) (t : Int) : Option ((List (S32)) × Int × Int) :=
  if t > 0 then (if x6 ≤ (wrap64 (x6 + t)) then (if (wrap64 (x6 + t)) ≤ (s.size : Int) then (if out.length < 4398046511104 then (lex_All.l0 k s (out ++ [(⟨0, x6, s.extract (x6 : Int).toNat ((wrap64 (x6 + t)) : Int).toNat⟩ : S32)]) (wrap64 (x6 + t))) else (none)) else (none)) else (none)) else (if isSign (bt s x6) = true then (if out.length < 4398046511104 then (lex_All.l0 k s (out ++ [(⟨kindOf (bt s x6), x6, (⟨#[]⟩ : ByteArray)⟩ : S32)]) (wrap64 (x6 + 1))) else (none)) else ((strings_HasPrefix.f (s.extract (x6 : Int).toNat s.size) (⟨#[46, 46]⟩ : ByteArray)).bind fun t115 => (if t115 = true then (if out.length < 4398046511104 then (lex_All.l0 k s (out ++ [(⟨2, x6, (⟨#[]⟩ : ByteArray)⟩ : S32)]) (wrap64 (x6 + 2))) else (none)) else (if (bt s x6) = 32 then (lex_All.l0 k s out (wrap64 (x6 + 1))) else (some (([] : List (S32)), x6, 1))))))

theorem all_round (s : ByteArray) (out : List S32) (a : Nat) (ha : a < s.size) {n : Int} {R : (List (S32)) × Int × Int} (hW : Ev (fun k => lex_word.f k (s.extract ((a : Int)).toNat s.size)) n) (hK : Ev (fun k => body s out a k n) R) : Ev (fun k => lex_All.l0 k s out (a : Int)) R := by
  refine Ev.step (f := fun k => (lex_word.f k (s.extract ((a : Int)).toNat s.size)).bind (body s out a k)) (fun k => ?_) (Ev.bind hW hK)
  simp only [lex_All.l0]
  rw [if_pos (by omega), if_pos (by omega)]
  simp only [lex_sign.f, Option.bind_some]
  rw [if_pos (by omega)]
  rfl

theorem size_of {s : ByteArray} {a : Nat} {l : List UInt8} (h : s.data.toList.drop a = l) (ha : a ≤ s.size) : s.size = a + l.length := by
  have := congrArg List.length h
  simp at this
  omega

theorem all_word (s : ByteArray) (hs : s.size ≤ 2000) (w l : List UInt8) (a : Nat) (hne : w ≠ []) (hw : ∀ c ∈ w, letter c = true) (hl : ∀ c, l.head? = some c → letter c = false) (hd : s.data.toList.drop a = w ++ l) (out : List S32) (ho : out.length ≤ a) (ha : a ≤ s.size) {R : (List (S32)) × Int × Int}
    (h : Ev (fun k => lex_All.l0 k s (out ++ [⟨0, a, str w⟩]) ((a + w.length : Nat) : Int)) R) : Ev (fun k => lex_All.l0 k s out (a : Int)) R := by
  have hsz := size_of hd ha
  have hpos : 0 < w.length := List.length_pos_iff.2 hne
  simp at hsz
  refine all_round s out a (by omega) (word_at s (by omega) a w l hd hw hl) (Ev.congr (fun k => ?_) h)
  have e : wrap64 ((a : Int) + (w.length : Int)) = ((a + w.length : Nat) : Int) := by
    rw [wrap_nat (by omega) (by omega)]
    omega
  unfold body
  rw [if_pos (by omega), e, if_pos (by omega), if_pos (by omega), if_pos (by omega), cut_str s a w l hd _ rfl]

theorem no_word {c : UInt8} {r : List UInt8} (hc : letter c = false) : (∀ x, (c :: r).head? = some x → letter x = false) := fun x hx => by
  injection hx with hx
  rw [← hx]
  exact hc

theorem all_sign (s : ByteArray) (hs : s.size ≤ 2000) (c : UInt8) (l : List UInt8) (a : Nat) (hc : letter c = false) (hg : isSignB c = true) (hd : s.data.toList.drop a = c :: l) (out : List S32) (ho : out.length ≤ a) {R : (List (S32)) × Int × Int}
    (h : Ev (fun k => lex_All.l0 k s (out ++ [⟨kindOf (toInt c), a, ⟨#[]⟩⟩]) ((a + 1 : Nat) : Int)) R) : Ev (fun k => lex_All.l0 k s out (a : Int)) R := by
  obtain ⟨hb, hlt⟩ := bt_drop hd
  refine all_round s out a hlt (word_at s (by omega) a [] (c :: l) hd (by simp) (no_word hc)) (Ev.congr (fun k => ?_) h)
  unfold body
  rw [if_neg (by simp), hb, if_pos (show isSign (toInt c) = true from hg), if_pos (by omega), wrap_nat (by omega) (by omega)]
  rfl

theorem prefix_at (s : ByteArray) (a : Nat) (l : List UInt8) (hd : s.data.toList.drop a = l) : strings_HasPrefix.f (s.extract ((a : Int)).toNat s.size) (⟨#[46, 46]⟩ : ByteArray) = some (l.take 2 == [46, 46]) := by
  rw [prefix_dots, tail_data, hd]

theorem dot_plain : letter 46 = false ∧ isSignB 46 = false := by decide
theorem blank_plain : letter 32 = false ∧ isSignB 32 = false := by decide

theorem all_dots (s : ByteArray) (hs : s.size ≤ 2000) (l : List UInt8) (a : Nat) (hd : s.data.toList.drop a = 46 :: 46 :: l) (out : List S32) (ho : out.length ≤ a) {R : (List (S32)) × Int × Int}
    (h : Ev (fun k => lex_All.l0 k s (out ++ [⟨2, a, ⟨#[]⟩⟩]) ((a + 2 : Nat) : Int)) R) : Ev (fun k => lex_All.l0 k s out (a : Int)) R := by
  obtain ⟨hb, hlt⟩ := bt_drop hd
  refine all_round s out a hlt (word_at s (by omega) a [] (46 :: 46 :: l) hd (by simp) (no_word dot_plain.1)) (Ev.congr (fun k => ?_) h)
  have hp := prefix_at s a _ hd
  unfold body
  rw [if_neg (by simp), hb, if_neg (by show ¬ isSignB 46 = true; rw [dot_plain.2]; simp), hp]
  simp only [Option.bind_some]
  rw [if_pos (by rfl), if_pos (by omega), wrap_nat (by omega) (by omega)]
  rfl

theorem all_blank (s : ByteArray) (hs : s.size ≤ 2000) (l : List UInt8) (a : Nat) (hd : s.data.toList.drop a = 32 :: l) (out : List S32) {R : (List (S32)) × Int × Int}
    (h : Ev (fun k => lex_All.l0 k s out ((a + 1 : Nat) : Int)) R) : Ev (fun k => lex_All.l0 k s out (a : Int)) R := by
  obtain ⟨hb, hlt⟩ := bt_drop hd
  refine all_round s out a hlt (word_at s (by omega) a [] (32 :: l) hd (by simp) (no_word blank_plain.1)) (Ev.congr (fun k => ?_) h)
  have hp := prefix_at s a _ hd
  unfold body
  rw [if_neg (by simp), hb, if_neg (by show ¬ isSignB 32 = true; rw [blank_plain.2]; simp), hp]
  simp only [Option.bind_some]
  rw [if_neg (by rw [beq_iff_eq]; intro e; injection e with e; cases e), if_pos (by rfl), wrap_nat (by omega) (by omega)]
  rfl

theorem all_here (s : ByteArray) (hs : s.size ≤ 2000) (c : UInt8) (l : List UInt8) (a : Nat) (hc : letter c = false) (hg : isSignB c = false) (hb32 : c ≠ 32) (hdot : c = 46 → ∀ d, l.head? = some d → d ≠ 46) (hd : s.data.toList.drop a = c :: l) (out : List S32) :
    Ev (fun k => lex_All.l0 k s out (a : Int)) ([], (a : Int), 1) := by
  obtain ⟨hb, hlt⟩ := bt_drop hd
  refine all_round s out a hlt (word_at s (by omega) a [] (c :: l) hd (by simp) (no_word hc)) (Ev.congr (fun k => ?_) (Ev.now _))
  have hp := prefix_at s a _ hd
  unfold body
  rw [if_neg (by simp), hb, if_neg (by show ¬ isSignB c = true; rw [hg]; simp), hp]
  simp only [Option.bind_some]
  rw [if_neg, if_neg]
  · intro e
    apply hb32
    unfold toInt at e
    apply UInt8.toNat_inj.1
    show c.toNat = 32
    omega
  · rw [beq_iff_eq]
    intro e
    cases l with
    | nil => simp at e
    | cons d l =>
      simp at e
      exact hdot e.1 d rfl e.2

theorem all_ok (s : ByteArray) (hs : s.size ≤ 2000) {l : List UInt8} {a : Nat} {T : List S32} (h : Lx l a T) : s.data.toList.drop a = l → ∀ out : List S32, out.length ≤ a → a ≤ s.size →
    Ev (fun k => lex_All.l0 k s out (a : Int)) (out ++ T ++ [endTok s.size], (s.size : Int), 0) := by
  induction h with
  | nil a =>
    intro hd out ho ha
    have hsz := size_of hd ha
    simp at hsz
    refine Ev.step (f := fun _ => some (out ++ [] ++ [endTok s.size], (s.size : Int), 0)) (fun k => ?_) (Ev.now _)
    simp only [lex_All.l0]
    rw [if_neg (by omega), if_pos (by omega)]
    simp [endTok]
  | word w l a T hne hw hl _ ih =>
    intro hd out ho ha
    have hsz := size_of hd ha
    have hpos : 0 < w.length := List.length_pos_iff.2 hne
    simp at hsz
    refine all_word s hs w l a hne hw hl hd out ho ha ?_
    have := ih (drop_more hd) (out ++ [⟨0, a, str w⟩]) (by simp; omega) (by omega)
    simpa using this
  | sign c l a T hc hg _ ih =>
    intro hd out ho ha
    have hsz := size_of hd ha
    simp at hsz
    refine all_sign s hs c l a hc hg hd out ho ?_
    have := ih (drop_more (w := [c]) hd) (out ++ [⟨kindOf (toInt c), a, ⟨#[]⟩⟩]) (by simp; omega) (by omega)
    simpa using this
  | dots l a T _ ih =>
    intro hd out ho ha
    have hsz := size_of hd ha
    simp at hsz
    refine all_dots s hs l a hd out ho ?_
    have := ih (drop_more (w := [46, 46]) hd) (out ++ [⟨2, a, ⟨#[]⟩⟩]) (by simp; omega) (by omega)
    simpa using this
  | blank l a T _ ih =>
    intro hd out ho ha
    have hsz := size_of hd ha
    simp at hsz
    refine all_blank s hs l a hd out ?_
    exact ih (drop_more (w := [32]) hd) out (by omega) (by omega)

theorem all_bad (s : ByteArray) (hs : s.size ≤ 2000) {l : List UInt8} {a p : Nat} (h : Bad l a p) : s.data.toList.drop a = l → ∀ out : List S32, out.length ≤ a → a ≤ s.size →
    Ev (fun k => lex_All.l0 k s out (a : Int)) ([], (p : Int), 1) := by
  induction h with
  | here c l a hc hg hb hdot =>
    intro hd out ho ha
    exact all_here s hs c l a hc hg hb hdot hd out
  | word w l a T hne hw hl _ ih =>
    intro hd out ho ha
    have hsz := size_of hd ha
    have hpos : 0 < w.length := List.length_pos_iff.2 hne
    simp at hsz
    exact all_word s hs w l a hne hw hl hd out ho ha (ih (drop_more hd) _ (by simp; omega) (by omega))
  | sign c l a T hc hg _ ih =>
    intro hd out ho ha
    have hsz := size_of hd ha
    simp at hsz
    exact all_sign s hs c l a hc hg hd out ho (ih (drop_more (w := [c]) hd) _ (by simp; omega) (by omega))
  | dots l a T _ ih =>
    intro hd out ho ha
    have hsz := size_of hd ha
    simp at hsz
    exact all_dots s hs l a hd out ho (ih (drop_more (w := [46, 46]) hd) _ (by simp; omega) (by omega))
  | blank l a T _ ih =>
    intro hd out ho ha
    have hsz := size_of hd ha
    simp at hsz
    exact all_blank s hs l a hd out (ih (drop_more (w := [32]) hd) out (by omega) (by omega))

/-- lex.All of a text that is read. -/
theorem All_ok (s : ByteArray) (hs : s.size ≤ 2000) {T : List S32} (h : Lx s.data.toList 0 T) : Ev (fun k => lex_All.f k s) (T ++ [endTok s.size], (s.size : Int), 0) := by
  have := all_ok s hs h rfl [] (by simp) (by omega)
  refine Ev.congr (fun k => ?_) this
  unfold lex_All.f
  rw [if_neg (by omega)]
  rfl
/-- .. that has an error. -/
theorem All_bad (s : ByteArray) (hs : s.size ≤ 2000) {p : Nat} (h : Bad s.data.toList 0 p) : Ev (fun k => lex_All.f k s) ([], (p : Int), 1) := by
  have := all_bad s hs h rfl [] (by simp) (by omega)
  refine Ev.congr (fun k => ?_) this
  unfold lex_All.f
  rw [if_neg (by omega)]
  rfl
/-- .. that is too long. -/
theorem All_long (s : ByteArray) (hs : 2000 < s.size) : Ev (fun k => lex_All.f k s) ([], 2000, 7) := by
  refine Ev.congr (fun k => ?_) (Ev.now _)
  unfold lex_All.f
  rw [if_pos (by omega)]
end Go.Proofs.Ytahijlmpdmlffaa.S
