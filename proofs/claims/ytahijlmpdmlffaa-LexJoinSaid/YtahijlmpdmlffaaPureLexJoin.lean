/- lex.All of two texts with a blank between them is what it is of the one, without the end, and of the other, further on: for any two texts (of at most 400 bytes each). -/
import Derived.Test.YtahijlmpdmlffaaPx9
import Derived.Test.YtahijlmpdmlffaaS1
namespace Go.Proofs.Ytahijlmpdmlffaa.Pure
open Go.RowKit Go.Proofs.Ytahijlmpdmlffaa.P Go.Proofs.YtahijlmpdmlffaaW.PrintWords Go.Proofs.YtahijlmpdmlffaaW.PrintLast Go.Proofs.Ytahijlmpdmlffaa.S

theorem join_loop (s : ByteArray) (T b : List S32) (e : S32) (hs : s.size ≤ 400) (hT : T.length ≤ 1000) (hb : b.length ≤ 1000) (hf : ∀ t ∈ b, 0 ≤ t.f1 ∧ t.f1 ≤ 1000) : ∀ (d i : Nat), T.length + b.length - i = d → i ≤ T.length + b.length →
    Ev (fun k => lustrumlaw09_LexJoin.l0 k s true (T ++ [e]) b (T ++ b.map (later (s.size + 1))) (i : Int)) true := by
  intro d
  induction d with
  | zero =>
    intro i hd hi
    refine Ev.step (f := fun _ => some true) (fun k => ?_) (Ev.now _)
    simp only [lustrumlaw09_LexJoin.l0]
    rw [if_neg (by simp; omega)]
  | succ d ih =>
    intro i hd hi
    have h2 := ih (i + 1) (by omega) (by omega)
    have ew : wrap64 ((i : Int) + 1) = ((i + 1 : Nat) : Int) := by rw [wrap_nat (by omega) (by omega)]; omega
    refine Ev.step (fun k => ?_) h2
    simp only [lustrumlaw09_LexJoin.l0]
    rw [if_pos (by simp; omega)]
    by_cases hlt : i < T.length
    · rw [if_pos (by rw [wrap_nat (by simp) (by simp; omega)]; simp; omega), if_pos (by omega), if_pos (by simp; omega)]
      rw [get_left (by omega) (by omega), get_left (by omega) (by omega), tok_same _ _ rfl, if_neg (by simp), ew]
    · have ej : wrap64 ((wrap64 ((i : Int) - ((T ++ [e]).length : Int))) + 1) = ((i - T.length : Nat) : Int) := by
        rw [wrap_nat (i := (i : Int) - _) (by simp; omega) (by simp; omega)]
        rw [wrap_nat (by simp; omega) (by simp; omega)]
        simp
        try omega
      rw [if_neg (by rw [wrap_nat (by simp; try omega) (by simp; try omega)]; simp; try omega), ej, if_pos (by omega), if_pos (by omega), if_pos (by omega)]
      rw [get_right (j := ((i - T.length : Nat) : Int)) (by omega) (by omega), get_map (by omega) (by omega)]
      have hin : rd_T32 b ((i - T.length : Nat) : Int) ∈ b := by
        obtain ⟨hh, hg⟩ := rd_get (xs := b) (i := ((i - T.length : Nat) : Int)) (by omega) (by omega)
        rw [hg]
        exact List.getElem_mem hh
      have hr := hf _ hin
      have ea : wrap64 ((wrap64 ((rd_T32 b ((i - T.length : Nat) : Int)).f1 + (s.size : Int))) + 1) = (rd_T32 b ((i - T.length : Nat) : Int)).f1 + ((s.size + 1 : Nat) : Int) := by
        rw [wrap_nat (i := (rd_T32 b ((i - T.length : Nat) : Int)).f1 + (s.size : Int)) (by omega) (by omega)]
        rw [wrap_nat (by omega) (by omega)]
        omega
      rw [ea, if_neg, ew]
      simp [later]

theorem LexJoin : lustrumlaw09_LexJoin.Pure := by
  intro s t _ _
  refine Ev.rounds (Ev.bind awake_ev ?_)
  have lim : ∀ b, b = true → Ev (fun k => lustrumlaw09_LexJoin.j0 k s t true b) true := by
    rintro b rfl
    exact Ev.step (f := fun _ => some true) (fun k => by rw [lustrumlaw09_LexJoin.j0, if_pos rfl]) (Ev.now _)
  by_cases hs : (s.size : Int) > 400
  · exact Ev.yes hs (lim true rfl)
  by_cases ht : (t.size : Int) > 400
  · exact Ev.no hs (lim _ (by simpa using ht))
  refine Ev.no hs ?_
  have hfl : decide ((t.size : Int) > 400) = false := by simpa using ht
  rw [hfl]
  have hsz : ((s ++ (⟨#[32]⟩ : ByteArray)) ++ t).size = s.size + 1 + t.size := by
    rw [ByteArray.size_append, ByteArray.size_append]
    rfl
  have hdata : ((s ++ (⟨#[32]⟩ : ByteArray)) ++ t).data.toList = s.data.toList ++ ([32] ++ t.data.toList) := by
    rw [data_app, data_app, List.append_assoc]
  have h1 : s.size + 1 ≤ 9223372036854775807 := by omega
  have h2 : (s ++ (⟨#[32]⟩ : ByteArray)).size + t.size ≤ 9223372036854775807 := by
    rw [ByteArray.size_append]
    show s.size + 1 + t.size ≤ _
    omega
  have hl0 : s.data.toList.length = s.size := by simp
  have hl1 : t.data.toList.length = t.size := by simp
  refine Ev.step (fun k => by rw [lustrumlaw09_LexJoin.j0, if_neg (by simp)]) ?_
  rcases read_any _ s.data.toList 0 (Nat.le_refl _) with ⟨T, hT⟩ | ⟨p, hp⟩
  · refine Ev.bind (All_ok s (by omega) hT) ?_
    rcases read_any _ t.data.toList 0 (Nat.le_refl _) with ⟨U, hU⟩ | ⟨q, hq⟩
    · refine Ev.bind (All_ok t (by omega) hU) (Ev.yes h1 (Ev.yes h2 ?_))
      have hJ : Lx ((s ++ (⟨#[32]⟩ : ByteArray)) ++ t).data.toList 0 (T ++ U.map (later (s.size + 1))) := by
        rw [hdata]
        refine hT.append (blank_head _) (.blank _ _ _ ?_)
        have := hU.later (s.size + 1)
        rw [hl0]
        simpa [Nat.add_comm] using this
      refine Ev.bind (All_ok _ (by omega) hJ) ?_
      have hn : ((((s ++ (⟨#[32]⟩ : ByteArray)) ++ t).size : Nat) : Int) = wrap64 ((wrap64 ((s.size : Int) + 1)) + (t.size : Int)) := by
        rw [hsz, wrap_nat (i := (s.size : Int) + 1) (by omega) (by omega), wrap_nat (by omega) (by omega)]
        omega
      have hTl := hT.len
      have hUl := hU.len
      refine Ev.yes rfl (Ev.yes rfl (Ev.yes rfl (Ev.yes hn (Ev.no (by simp; omega) ?_))))
      have hln : (((T ++ U.map (later (s.size + 1)) ++ [endTok ((s ++ (⟨#[32]⟩ : ByteArray)) ++ t).size]).length : Int) != wrap64 ((wrap64 (((T ++ [endTok s.size]).length : Int) - 1)) + ((U ++ [endTok t.size]).length : Int))) = false := by
        rw [wrap_nat (i := ((T ++ [endTok s.size]).length : Int) - 1) (by simp; try omega) (by simp; try omega), wrap_nat (by simp; try omega) (by simp; try omega)]
        simp
        try omega
      show Ev (fun n => lustrumlaw09_LexJoin.j1 n s true (T ++ [endTok s.size]) (U ++ [endTok t.size]) (T ++ U.map (later (s.size + 1)) ++ [endTok ((s ++ (⟨#[32]⟩ : ByteArray)) ++ t).size]) _) true
      rw [hln]
      refine Ev.step (fun k => by rw [lustrumlaw09_LexJoin.j1, if_neg (by simp)]) ?_
      have hlist : T ++ U.map (later (s.size + 1)) ++ [endTok ((s ++ (⟨#[32]⟩ : ByteArray)) ++ t).size] = T ++ (U ++ [endTok t.size]).map (later (s.size + 1)) := by
        rw [List.append_assoc, List.map_append]
        congr 2
        simp [endTok, later, hsz]
        omega
      rw [hlist]
      refine join_loop s T (U ++ [endTok t.size]) (endTok s.size) (by omega) (by omega) (by simp; omega) (fun x hx => ?_) _ 0 rfl (by omega)
      rcases List.mem_append.1 hx with hx | hx
      · have := hUl.2 x hx
        omega
      · simp at hx
        subst hx
        simp [endTok]
        omega
    · refine Ev.bind (All_bad t (by omega) hq) (Ev.yes h1 (Ev.yes h2 ?_))
      have hJ : Bad ((s ++ (⟨#[32]⟩ : ByteArray)) ++ t).data.toList 0 (q + (s.size + 1)) := by
        rw [hdata]
        refine hT.bad (blank_head _) (.blank _ _ _ ?_)
        have := hq.later (s.size + 1)
        rw [hl0]
        simpa [Nat.add_comm] using this
      refine Ev.bind (All_bad _ (by omega) hJ) ?_
      refine Ev.yes rfl (Ev.no (by simp) (Ev.yes rfl (Ev.now _)))
  · refine Ev.bind (All_bad s (by omega) hp) ?_
    have hJ : Bad ((s ++ (⟨#[32]⟩ : ByteArray)) ++ t).data.toList 0 p := by
      rw [hdata]
      exact hp.more (blank_head2 _)
    rcases read_any _ t.data.toList 0 (Nat.le_refl _) with ⟨U, hU⟩ | ⟨q, hq⟩
    · refine Ev.bind (All_ok t (by omega) hU) (Ev.yes h1 (Ev.yes h2 (Ev.bind (All_bad _ (by omega) hJ) (Ev.no (by simp) (Ev.yes rfl (Ev.now _))))))
    · refine Ev.bind (All_bad t (by omega) hq) (Ev.yes h1 (Ev.yes h2 (Ev.bind (All_bad _ (by omega) hJ) (Ev.no (by simp) (Ev.yes rfl (Ev.now _))))))
end Go.Proofs.Ytahijlmpdmlffaa.Pure
