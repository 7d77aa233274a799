/- Each token stands where it is said, with its bytes, between the tokens are blanks alone, and the last one is End: of any text (of at most 400 bytes) that is read; of any other the place that is told lies in it. -/
import Derived.Test.YtahijlmpdmlffaaPx7
import Derived.Test.YtahijlmpdmlffaaS2
namespace Go.Proofs.Ytahijlmpdmlffaa.Pure
open Go.RowKit Go.Proofs.Ytahijlmpdmlffaa.P Go.Proofs.YtahijlmpdmlffaaW.PrintWords Go.Proofs.YtahijlmpdmlffaaW.PrintLast Go.Proofs.Ytahijlmpdmlffaa.S

theorem blank_loop (s : ByteArray) (X : List S32) (i : Nat) (g : ByteArray) (t : S32) (r : List S32) (hX : X.drop i = t :: r) (hs : s.size ≤ 400) (hXl : X.length ≤ 1000) : ∀ (b at_ : Nat) (l : List UInt8), s.data.toList.drop at_ = List.replicate b 32 ++ l → at_ ≤ s.size → t.f1 = ((at_ + b : Nat) : Int) →
    Ev (fun k => lustrumlaw09_LexPlaces.l0 k s true X (wrap64 (((at_ + b : Nat) : Int) + (g.size : Int))) ((i + 1 : Nat) : Int)) true → Ev (fun k => lustrumlaw09_LexPlaces.l1 k s true X (at_ : Int) (i : Int) g) true := by
  obtain ⟨hr, hlt⟩ := rd_drop hX
  intro b
  induction b with
  | zero =>
    intro at_ l hd ha hf h
    refine Ev.step (fun k => ?_) h
    rw [lustrumlaw09_LexPlaces.l1, if_pos (by omega), if_pos (by omega), hr, if_neg (by omega), wrap_nat (i := (i : Int) + 1) (by omega) (by omega)]
    rfl
  | succ b ih =>
    intro at_ l hd ha hf h
    rw [List.replicate_succ] at hd
    obtain ⟨hb, hlt2⟩ := bt_drop hd
    have h2 := ih (at_ + 1) l (drop_more (w := [32]) hd) (by omega) (by rw [hf]; omega) (by rw [show at_ + 1 + b = at_ + (b + 1) by omega]; exact h)
    refine Ev.step (fun k => ?_) h2
    rw [lustrumlaw09_LexPlaces.l1, if_pos (by omega), if_pos (by omega), hr, if_pos (by omega), if_pos (by omega), if_pos (by omega), hb, if_pos (by rfl), wrap_nat (by omega) (by omega)]
    rfl

theorem take_one {X : List S32} {i : Nat} {t : S32} {r : List S32} (hX : X.drop i = t :: r) : (X.take (i + 1)).drop i = [t] := by
  have : (X.drop i).take 1 = [t] := by rw [hX]; rfl
  rw [← this, List.take_drop, Nat.add_comm]

theorem token_round (s : ByteArray) (X : List S32) (i : Nat) (t : S32) (r : List S32) (hX : X.drop i = t :: r) (hs : s.size ≤ 400) (hXl : X.length ≤ 1000) (at_ b : Nat) (tb l : List UInt8) (hd : s.data.toList.drop at_ = List.replicate b 32 ++ (tb ++ l)) (ha : at_ ≤ s.size) (hf : t.f1 = ((at_ + b : Nat) : Int)) (ht : textG t = tb.map toInt)
    (h : Ev (fun k => lustrumlaw09_LexPlaces.l0 k s true X ((at_ + b + tb.length : Nat) : Int) ((i + 1 : Nat) : Int)) true) : Ev (fun k => lustrumlaw09_LexPlaces.l0 k s true X (at_ : Int) (i : Int)) true := by
  obtain ⟨hr, hlt⟩ := rd_drop hX
  have hsz := size_of hd ha
  simp at hsz
  have hsh : shown false [t] = textG t := by simp [shown]
  have hS : Ev (fun k => lex_Show.f k [t]) (strOfNums (textG t)) := by
    have := Show_ev [t] (by rw [hsh, ht]; simp; omega) (by simp)
    rwa [hsh] at this
  have hz : (strOfNums (textG t)).size = tb.length := by rw [nums_size, ht, List.length_map]
  have ew : wrap64 ((i : Int) + 1) = ((i + 1 : Nat) : Int) := by rw [wrap_nat (by omega) (by omega)]; omega
  have eg : wrap64 (t.f1 + ((strOfNums (textG t)).size : Int)) = ((at_ + b + tb.length : Nat) : Int) := by
    rw [hz, hf, wrap_nat (by omega) (by omega)]
    omega
  have hE : (s.extract (t.f1).toNat (((at_ + b + tb.length : Nat) : Int)).toNat).toList = (strOfNums (textG t)).toList := by
    rw [hf, Int.toNat_natCast, Int.toNat_natCast, Lib.extract_toList, nums_list, ht, back_map]
    have := drop_more hd
    rw [List.length_replicate] at this
    rw [this, show at_ + b + tb.length - (at_ + b) = tb.length by omega, List.take_left]
  refine Ev.step (f := fun k => (lex_Show.f k [t]).bind fun x => (if t.f1 < (at_ : Int) then (lustrumlaw09_LexPlaces.j2 k s true X (at_ : Int) (i : Int) x true) else (if (wrap64 (t.f1 + (x.size : Int))) > (s.size : Int) then (lustrumlaw09_LexPlaces.j2 k s true X (at_ : Int) (i : Int) x true) else (if 0 ≤ t.f1 then (if t.f1 ≤ (wrap64 (t.f1 + (x.size : Int))) then (if (wrap64 (t.f1 + (x.size : Int))) ≤ (s.size : Int) then (lustrumlaw09_LexPlaces.j2 k s true X (at_ : Int) (i : Int) x ((s.extract (t.f1).toNat ((wrap64 (t.f1 + (x.size : Int))) : Int).toNat).toList != x.toList)) else (none)) else (none)) else (none))))) (fun k => ?_) ?_
  · rw [lustrumlaw09_LexPlaces.l0, if_pos (by omega), if_pos (by omega), ew, if_pos (by omega), if_pos (by omega), hr, Int.toNat_natCast, Int.toNat_natCast, take_one hX]
  · refine Ev.bind hS (Ev.no (by omega) (Ev.no (by rw [eg]; omega) (Ev.yes (by omega) (Ev.yes (by rw [eg]; omega) (Ev.yes (by rw [eg]; omega) ?_)))))
    rw [eg, hE]
    rw [show ((strOfNums (textG t)).toList != (strOfNums (textG t)).toList) = false by simp]
    refine Ev.step (fun k => by rw [lustrumlaw09_LexPlaces.j2, if_neg (by simp)]) ?_
    refine blank_loop s X i _ t r hX hs hXl b at_ _ hd ha hf ?_
    rw [hz, wrap_nat (by omega) (by omega)]
    exact h

theorem places_loop (s : ByteArray) (hs : s.size ≤ 400) (T : List S32) (hT : T.length ≤ 400) : ∀ (d i at_ : Nat) (l : List UInt8), T.length - i = d → i ≤ T.length → s.data.toList.drop at_ = l → at_ ≤ s.size → Lx l at_ (T.drop i) →
    Ev (fun k => lustrumlaw09_LexPlaces.l0 k s true (T ++ [endTok s.size]) (at_ : Int) (i : Int)) true := by
  intro d
  induction d with
  | zero =>
    intro i at_ l hd hi hl ha h
    have hi2 : i = T.length := by omega
    subst hi2
    rw [List.drop_length] at h
    obtain ⟨b, rfl⟩ := h.blanks rfl
    have hsz := size_of hl ha
    simp at hsz
    refine token_round s _ T.length (endTok s.size) [] (by simp) hs (by simp; omega) at_ b [] [] (by simpa using hl) ha (by simp [endTok]; omega) rfl ?_
    refine Ev.step (f := fun _ => some true) (fun k => ?_) (Ev.now _)
    rw [lustrumlaw09_LexPlaces.l0, if_neg (by simp), if_pos rfl]
    congr 1
    simp
    omega
  | succ d ih =>
    intro i at_ l hd hi hl ha h
    obtain ⟨t, r, hdr⟩ : ∃ t r, T.drop i = t :: r := by
      cases h : T.drop i with
      | nil => have := congrArg List.length h; simp at this; omega
      | cons t r => exact ⟨t, r, rfl⟩
    obtain ⟨b, tb, l', e1, e2, e3, e4⟩ := h.first t r hdr
    have hsz := size_of hl ha
    rw [e1] at hsz
    simp at hsz
    refine token_round s _ i t (r ++ [endTok s.size]) ?_ hs (by simp; omega) at_ b tb l' (by rw [hl, e1]) ha e2 e3 ?_
    · rw [List.drop_append_of_le_length hi, hdr]
      rfl
    · refine ih (i + 1) (at_ + b + tb.length) l' (by omega) (by omega) ?_ (by omega) (by rw [drop_next hdr]; exact e4)
      rw [e1] at hl
      have := drop_more hl
      rw [List.length_replicate] at this
      exact drop_more this

theorem Bad.place {l : List UInt8} {a p : Nat} (h : Bad l a p) : p < a + l.length := by
  induction h with
  | here c l a _ _ _ _ => simp
  | word w l a p _ _ _ _ ih => simp; omega
  | sign c l a p _ _ _ ih => simp; omega
  | dots l a p _ ih => simp; omega
  | blank l a p _ ih => simp; omega

theorem LexPlaces : lustrumlaw09_LexPlaces.Pure := by
  intro s _
  refine Ev.rounds (Ev.bind awake_ev ?_)
  by_cases hs : (s.size : Int) > 400
  · exact Ev.yes hs (Ev.now _)
  refine Ev.no hs ?_
  rcases read_any _ s.data.toList 0 (Nat.le_refl _) with ⟨T, hT⟩ | ⟨p, hp⟩
  · refine Ev.bind (All_ok s (by omega) hT) ?_
    have hTl := hT.len.1
    have hl0 : s.data.toList.length = s.size := by simp
    have e1 : wrap64 (((T ++ [endTok s.size]).length : Int) - 1) = (T.length : Int) := by
      rw [wrap_nat (by simp; try omega) (by simp; omega)]
      simp
    refine Ev.yes rfl (Ev.no (by simp; omega) (Ev.yes ?_ (Ev.yes ?_ (Ev.yes ?_ ?_))))
    · show 0 ≤ wrap64 (((T ++ [endTok s.size]).length : Int) - 1)
      rw [e1]
      omega
    · show wrap64 (((T ++ [endTok s.size]).length : Int) - 1) < ((T ++ [endTok s.size]).length : Int)
      rw [e1]
      simp
      omega
    · show (rd_T32 (T ++ [endTok s.size]) (wrap64 (((T ++ [endTok s.size]).length : Int) - 1))).f0 = 9
      rw [e1, get_right (j := 0) (by omega) (by omega)]
      rfl
    · show Ev (fun n => lustrumlaw09_LexPlaces.j0 n s true (T ++ [endTok s.size]) ((s.size : Int) != (s.size : Int))) true
      rw [show ((s.size : Int) != (s.size : Int)) = false by simp]
      refine Ev.step (fun k => by rw [lustrumlaw09_LexPlaces.j0, if_neg (by simp)]) ?_
      exact places_loop s (by omega) T (by omega) T.length 0 0 s.data.toList (by omega) (by omega) rfl (by omega) hT
  · refine Ev.bind (All_bad s (by omega) hp) (Ev.no (by simp) (Ev.yes rfl (Ev.yes (show (p : Int) ≥ 0 by omega) ?_)))
    have h2 := Bad.place hp
    simp at h2
    rw [show decide ((p : Int) < (s.size : Int)) = true by simpa using h2]
    exact Ev.now _
end Go.Proofs.Ytahijlmpdmlffaa.Pure
