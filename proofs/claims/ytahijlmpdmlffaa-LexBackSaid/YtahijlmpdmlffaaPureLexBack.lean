/- What is shown of the tokens of a text that is read is read as the same tokens, but for their places, and shown the same: of any text (of at most 400 bytes); of any that is not read there are no tokens. -/
import Derived.Test.YtahijlmpdmlffaaPx6
import Derived.Test.YtahijlmpdmlffaaS2
namespace Go.Proofs.Ytahijlmpdmlffaa.Pure
open Go.RowKit Go.Proofs.Ytahijlmpdmlffaa.P Go.Proofs.YtahijlmpdmlffaaW.PrintWords Go.Proofs.YtahijlmpdmlffaaW.PrintLast Go.Proofs.Ytahijlmpdmlffaa.S

inductive Val : S32 → Prop
  | word (w : List UInt8) (a : Int) : w ≠ [] → (∀ c ∈ w, letter c = true) → Val ⟨0, a, str w⟩
  | sign (c : UInt8) (a : Int) : letter c = false → isSignB c = true → Val ⟨kindOf (toInt c), a, ⟨#[]⟩⟩
  | dots (a : Int) : Val ⟨2, a, ⟨#[]⟩⟩

theorem lx_val {l : List UInt8} {a : Nat} {T : List S32} (h : Lx l a T) : ∀ t ∈ T, Val t := by
  induction h with
  | nil a => simp
  | word w l a T hne hw _ _ ih =>
    intro t ht
    rcases List.mem_cons.1 ht with rfl | ht
    · exact .word w _ hne hw
    · exact ih t ht
  | sign c l a T hc hg _ ih =>
    intro t ht
    rcases List.mem_cons.1 ht with rfl | ht
    · exact .sign c _ hc hg
    · exact ih t ht
  | dots l a T _ ih =>
    intro t ht
    rcases List.mem_cons.1 ht with rfl | ht
    · exact .dots _
    · exact ih t ht
  | blank l a T _ ih => exact ih

def key (t : S32) : Int × ByteArray := (t.f0, t.f2)

theorem relex : ∀ (T : List S32), (∀ t ∈ T, Val t) → ∀ (p : Bool) (a : Nat), ∃ l U, shown p T = l.map toInt ∧ Lx l a U ∧ U.map key = T.map key ∧ (p = true → ∀ x, l.head? = some x → letter x = false) := by
  intro T
  induction T with
  | nil => exact fun _ p a => ⟨[], [], rfl, .nil a, rfl, fun _ x hx => by cases hx⟩
  | cons t r ih =>
    intro hv p a
    have hr : ∀ t ∈ r, Val t := fun x hx => hv x (by simp [hx])
    cases hv t (by simp) with
    | word w b hne hw =>
      obtain ⟨c, w', rfl⟩ : ∃ c w', w = c :: w' := by cases w with | nil => exact absurd rfl hne | cons c w' => exact ⟨c, w', rfl⟩
      cases p with
      | true =>
        obtain ⟨l, U, h1, h2, h3, h4⟩ := ih hr true (a + 1 + (c :: w').length)
        refine ⟨32 :: ((c :: w') ++ l), ⟨0, ((a + 1 : Nat) : Int), str (c :: w')⟩ :: U, ?_, .blank _ _ _ (.word _ _ _ _ hne hw (h4 rfl) h2), ?_, fun _ x hx => by injection hx with hx; rw [← hx]; exact blank_plain.1⟩
        · rw [shown, textG_word, show ((0 : Int) == 0) = true from rfl, h1]
          simp [toInt]
        · simp [key, h3]
      | false =>
        obtain ⟨l, U, h1, h2, h3, h4⟩ := ih hr true (a + (c :: w').length)
        refine ⟨(c :: w') ++ l, ⟨0, ((a : Nat) : Int), str (c :: w')⟩ :: U, ?_, .word _ _ _ _ hne hw (h4 rfl) h2, ?_, fun h => by cases h⟩
        · rw [shown, textG_word, show ((0 : Int) == 0) = true from rfl, h1]
          simp
        · simp [key, h3]
    | sign c b hc hg =>
      obtain ⟨l, U, h1, h2, h3, _⟩ := ih hr false (a + 1)
      refine ⟨c :: l, ⟨kindOf (toInt c), (a : Int), ⟨#[]⟩⟩ :: U, ?_, .sign c l a U hc hg h2, by simp [key, h3], fun _ x hx => by injection hx with hx; rw [← hx]; exact hc⟩
      have hk := kind_sign c hg
      rw [shown, textG_sign c hg, show (kindOf (toInt c) == 0) = false by simpa using hk, h1]
      simp [hk]
    | dots b =>
      obtain ⟨l, U, h1, h2, h3, _⟩ := ih hr false (a + 2)
      refine ⟨46 :: 46 :: l, ⟨2, (a : Int), ⟨#[]⟩⟩ :: U, ?_, .dots l a U h2, by simp [key, h3], fun _ x hx => by injection hx with hx; rw [← hx]; exact dot_plain.1⟩
      rw [shown, textG_dots, show ((2 : Int) == 0) = false from rfl, h1]
      simp [toInt]

theorem text_key {t u : S32} (h : key t = key u) : textG t = textG u := by
  simp only [key, Prod.mk.injEq] at h
  unfold textG
  rw [h.1, h.2]

theorem shown_key : ∀ (T U : List S32) (p : Bool), T.map key = U.map key → shown p T = shown p U := by
  intro T
  induction T with
  | nil =>
    intro U p h
    cases U with
    | nil => rfl
    | cons u U => cases h
  | cons t T ih =>
    intro U p h
    cases U with
    | nil => cases h
    | cons u U =>
      rw [List.map_cons, List.map_cons] at h
      injection h with h1 h2
      have h0 : t.f0 = u.f0 := congrArg Prod.fst h1
      rw [shown, shown, text_key h1, h0, ih U _ h2]

theorem shown_end (n : Nat) : ∀ (T : List S32) (p : Bool), shown p (T ++ [endTok n]) = shown p T := by
  intro T
  induction T with
  | nil =>
    intro p
    rw [List.nil_append]
    simp [shown, textG, endTok]
  | cons t T ih =>
    intro p
    rw [List.cons_append, shown, shown, ih]

theorem shown_len {l : List UInt8} {a : Nat} {T : List S32} (h : Lx l a T) : ∀ p, (shown p T).length ≤ 2 * l.length := by
  induction h with
  | nil a => intro p; simp [shown]
  | word w l a T hne hw _ _ ih =>
    intro p
    have := List.length_pos_iff.2 hne
    have h2 := ih ((0 : Int) == 0)
    rw [shown, textG_word]
    have h3 : (if p = true ∧ (0 : Int) = 0 then [(32 : Int)] else []).length ≤ 1 := by split <;> simp
    show ((if p = true ∧ (0 : Int) = 0 then [(32 : Int)] else []) ++ w.map toInt ++ shown ((0 : Int) == 0) T).length ≤ _
    rw [List.length_append, List.length_append, List.length_append, List.length_map]
    omega
  | sign c l a T hc hg _ ih =>
    intro p
    have h2 := ih (kindOf (toInt c) == 0)
    rw [shown, textG_sign c hg]
    have hk := kind_sign c hg
    rw [if_neg (fun h => hk h.2)]
    simp
    omega
  | dots l a T _ ih =>
    intro p
    have h2 := ih ((2 : Int) == 0)
    rw [shown, textG_dots, if_neg (fun h => by cases h.2)]
    simp only [List.length_append, List.length_cons, List.length_nil]
    omega
  | blank l a T _ ih =>
    intro p
    have := ih p
    simp
    omega

theorem key_at {X Y : List S32} (h : X.map key = Y.map key) (i : Int) (h0 : 0 ≤ i) (h1 : i < X.length) : key (rd_T32 X i) = key (rd_T32 Y i) := by
  have hlen : X.length = Y.length := by
    have := congrArg List.length h
    simpa using this
  obtain ⟨a1, e1⟩ := rd_get (xs := X) h0 h1
  obtain ⟨a2, e2⟩ := rd_get (xs := Y) h0 (by omega)
  have := congrArg (fun l => l[i.toNat]?) h
  simp only [List.getElem?_map, List.getElem?_eq_getElem a1, List.getElem?_eq_getElem a2, Option.map_some] at this
  rw [e1, e2]
  exact Option.some.inj this

theorem back_loop (X Y : List S32) (t : ByteArray) (h : X.map key = Y.map key) (hY : Ev (fun k => lex_Show.f k Y) t) (hl : X.length ≤ 10000) : ∀ (d i : Nat), X.length - i = d → i ≤ X.length → Ev (fun k => lustrumlaw09_LexBack.l0 k true X t Y (i : Int)) true := by
  have hlen : X.length = Y.length := by
    have := congrArg List.length h
    simpa using this
  intro d
  induction d with
  | zero =>
    intro i hd hi
    refine Ev.step (f := fun k => (lex_Show.f k Y).bind fun x => some (x.toList == t.toList)) (fun k => ?_) ?_
    · rw [lustrumlaw09_LexBack.l0, if_neg (by omega), if_pos rfl]
    · refine Ev.bind hY ?_
      rw [show (t.toList == t.toList) = true by simp]
      exact Ev.now _
  | succ d ih =>
    intro i hd hi
    have h2 := ih (i + 1) (by omega) (by omega)
    have hk := key_at h (i : Int) (by omega) (by omega)
    simp only [key, Prod.mk.injEq] at hk
    refine Ev.step (fun k => ?_) h2
    rw [lustrumlaw09_LexBack.l0, if_pos (by omega), if_pos (by omega), if_pos (by omega), if_pos hk.1, if_pos (by rw [hk.2]), wrap_nat (by omega) (by omega)]
    rfl

theorem LexBack : lustrumlaw09_LexBack.Pure := by
  intro s _
  refine Ev.rounds (Ev.bind awake_ev ?_)
  by_cases hs : (s.size : Int) > 400
  · exact Ev.yes hs (Ev.now _)
  refine Ev.no hs ?_
  have hl0 : s.data.toList.length = s.size := by simp
  rcases read_any _ s.data.toList 0 (Nat.le_refl _) with ⟨T, hT⟩ | ⟨p, hp⟩
  · refine Ev.bind (All_ok s (by omega) hT) (Ev.yes rfl ?_)
    have hTl := hT.len.1
    have hsl := shown_len hT false
    obtain ⟨l, U, e1, e2, e3, _⟩ := relex T (lx_val hT) false 0
    have hS : Ev (fun k => lex_Show.f k (T ++ [endTok s.size])) (strOfNums (shown false T)) := by
      have := Show_ev (T ++ [endTok s.size]) (by rw [shown_end]; omega) (by simp; omega)
      rwa [shown_end] at this
    have hdat : (strOfNums (shown false T)).data.toList = l := by rw [nums_data, e1, back_map]
    have hsize : (strOfNums (shown false T)).size ≤ 2000 := by rw [nums_size]; omega
    refine Ev.bind hS ?_
    generalize hg : strOfNums (shown false T) = t at *
    refine Ev.bind (All_ok t hsize (by rw [hdat]; exact e2)) (Ev.yes rfl (Ev.yes rfl ?_))
    have hk : (T ++ [endTok s.size]).map key = (U ++ [endTok t.size]).map key := by
      rw [List.map_append, List.map_append, e3]
      rfl
    have hlen : (T ++ [endTok s.size]).length = (U ++ [endTok t.size]).length := by
      have := congrArg List.length hk
      simpa using this
    show Ev (fun n => lustrumlaw09_LexBack.j0 n true (T ++ [endTok s.size]) t (U ++ [endTok t.size]) (((T ++ [endTok s.size]).length : Int) != ((U ++ [endTok t.size]).length : Int))) true
    rw [hlen, show (((U ++ [endTok t.size]).length : Int) != ((U ++ [endTok t.size]).length : Int)) = false by simp]
    refine Ev.step (fun k => by rw [lustrumlaw09_LexBack.j0, if_neg (by simp)]) ?_
    refine back_loop _ _ t hk ?_ (by simp; omega) _ 0 rfl (by omega)
    have h9 : shown false (U ++ [endTok t.size]) = shown false T := by rw [shown_end, shown_key U T false e3]
    have := Show_ev (U ++ [endTok t.size]) (by rw [h9]; omega) (by rw [← hlen]; simp; omega)
    rw [h9, hg] at this
    exact this
  · exact Ev.bind (All_bad s (by omega) hp) (Ev.no (by simp) (Ev.yes rfl (Ev.now _)))
end Go.Proofs.Ytahijlmpdmlffaa.Pure
