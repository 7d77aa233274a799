/- A byte that no token has is told by its place (so is a point alone at the end, and a text that is too long): behind any text (of at most 400 bytes) that is read, whatever (of at most 400 bytes) stands behind it. -/
import Derived.Test.YtahijlmpdmlffaaPx8
import Derived.Test.YtahijlmpdmlffaaS1
namespace Go.Proofs.Ytahijlmpdmlffaa.Pure
open Go.RowKit Go.Proofs.Ytahijlmpdmlffaa.P Go.Proofs.YtahijlmpdmlffaaW.PrintWords Go.Proofs.YtahijlmpdmlffaaW.PrintLast Go.Proofs.Ytahijlmpdmlffaa.S

theorem long_loop (s : ByteArray) : ∀ (d i : Nat) (L : ByteArray), L.size = i → 2001 - i = d → i ≤ 2001 →
    Ev (fun k => lustrumlaw09_LexBad.l0 k s true [] (s.size : Int) 1 (s.size : Int) 1 L (i : Int)) true := by
  intro d
  induction d with
  | zero =>
    intro i L hL hd hi
    refine Ev.step (f := fun k => (lex_All.f k L).bind fun x => if true = true then (if (([] : List S32).length : Int) = 0 then (if (s.size : Int) = (s.size : Int) then (if (1 : Int) = 1 then (if (s.size : Int) = (s.size : Int) then (if (1 : Int) = 1 then (if x.2.1 = 2000 then (some (x.2.2 == 7)) else (some false)) else (some false)) else (some false)) else (some false)) else (some false)) else (some false)) else some false) (fun k => ?_) ?_
    · rw [lustrumlaw09_LexBad.l0, if_neg (by omega)]
    · exact Ev.bind (All_long L (by omega)) (Ev.yes rfl (Ev.yes rfl (Ev.yes rfl (Ev.yes rfl (Ev.yes rfl (Ev.yes rfl (Ev.yes rfl (Ev.now _))))))))
  | succ d ih =>
    intro i L hL hd hi
    have h := ih (i + 1) (L ++ (⟨#[49]⟩ : ByteArray)) (by rw [ByteArray.size_append, hL]; rfl) (by omega) (by omega)
    refine Ev.step (fun k => ?_) h
    rw [lustrumlaw09_LexBad.l0, if_pos (by omega), if_pos (by omega), wrap_nat (by omega) (by omega)]
    rfl

theorem odd_byte (x : UInt8) (h : x.toNat ≤ 31 ∨ 128 ≤ x.toNat ∨ x.toNat = 101) : letter x = false ∧ isSignB x = false ∧ x ≠ 32 ∧ x ≠ 46 := by
  have e : ∀ n : Nat, n < 256 → (n ≤ 31 ∨ 128 ≤ n ∨ n = 101) → letter (UInt8.ofNat n) = false ∧ isSignB (UInt8.ofNat n) = false ∧ UInt8.ofNat n ≠ 32 ∧ UInt8.ofNat n ≠ 46 := by decide +kernel
  have := e x.toNat x.toNat_lt h
  rwa [UInt8.ofNat_toNat] at this

theorem LexBad : lustrumlaw09_LexBad.Pure := by
  intro s c more _ hc _
  refine Ev.rounds (Ev.bind awake_ev ?_)
  have lim : ∀ b, b = true → Ev (fun k => lustrumlaw09_LexBad.j0 k s c more true b) true := by
    rintro b rfl
    exact Ev.step (f := fun _ => some true) (fun k => by rw [lustrumlaw09_LexBad.j0, if_pos rfl]) (Ev.now _)
  by_cases hs : (s.size : Int) > 400
  · exact Ev.yes hs (lim true rfl)
  by_cases ht : (more.size : Int) > 400
  · exact Ev.no hs (lim _ (by simpa using ht))
  refine Ev.no hs ?_
  have hfl : decide ((more.size : Int) > 400) = false := by simpa using ht
  rw [hfl]
  have fin : ∀ e x : Int, Ev (fun k => lustrumlaw09_LexBad.j3 k s more true x true) true := fun e x => Ev.step (f := fun _ => some true) (fun k => by rw [lustrumlaw09_LexBad.j3, if_pos rfl]) (Ev.now _)
  have hcr : 0 ≤ c ∧ c ≤ 255 := by
    have : (decide ((IntKind.u8).min ≤ c) && decide (c ≤ (IntKind.u8).max)) = true := hc
    simp at this
    exact this
  have key : ∀ (T : List S32), Lx s.data.toList 0 T → ∀ x : Int, 0 ≤ x → x ≤ 255 → (x ≤ 32 ∨ 128 ≤ x ∨ x = 101) → Ev (fun k => lustrumlaw09_LexBad.j2 k s more true 0 x) true := by
    intro T hT x h0 h1 hx
    refine Ev.step (fun k => by rw [lustrumlaw09_LexBad.j2, if_pos rfl]) ?_
    by_cases h32 : x = 32
    · subst h32
      exact fin 0 32
    rw [show (x == 32) = false by simpa using h32]
    refine Ev.step (fun k => by rw [lustrumlaw09_LexBad.j3, if_neg (by simp)]) ?_
    have hdat : (strOfNums [x]).data.toList = [UInt8.ofNat x.toNat] := by simp [strOfNums]
    have hsz1 : (strOfNums [x]).size = 1 := by simp [strOfNums, ByteArray.size]
    refine Ev.bind (Ev.now _) (Ev.yes (by omega) (Ev.yes (by rw [ByteArray.size_append]; omega) ?_))
    have hn : (UInt8.ofNat x.toNat).toNat = x.toNat := by
      rw [UInt8.toNat_ofNat']
      omega
    obtain ⟨o1, o2, o3, o4⟩ := odd_byte (UInt8.ofNat x.toNat) (by rw [hn]; omega)
    have hl0 : s.data.toList.length = s.size := by simp
    have hB : Bad ((s ++ strOfNums [x]) ++ more).data.toList 0 s.size := by
      rw [data_app, data_app, hdat, List.append_assoc]
      refine hT.bad (fun y hy => by injection hy with hy; rw [← hy]; exact o1) ?_
      rw [hl0, Nat.zero_add]
      exact .here _ _ _ o1 o2 o3 (fun h => absurd h o4)
    have hD : Bad (s ++ (⟨#[46]⟩ : ByteArray)).data.toList 0 s.size := by
      rw [data_app]
      refine hT.bad (fun y hy => by injection hy with hy; rw [← hy]; exact dot_plain.1) ?_
      rw [hl0, Nat.zero_add]
      exact .here 46 [] _ dot_plain.1 dot_plain.2 (by decide) (fun _ d h => by cases h)
    have z1 : ((s ++ strOfNums [x]) ++ more).size ≤ 2000 := by rw [ByteArray.size_append, ByteArray.size_append]; omega
    have z2 : (s ++ (⟨#[46]⟩ : ByteArray)).size ≤ 2000 := by rw [ByteArray.size_append]; show s.size + 1 ≤ _; omega
    refine Ev.bind (All_bad _ z1 hB) (Ev.yes (by omega) (Ev.bind (All_bad _ z2 hD) ?_))
    exact long_loop s 2001 0 _ rfl rfl (by omega)
  have bad : ∀ x : Int, Ev (fun k => lustrumlaw09_LexBad.j2 k s more true 1 x) true := by
    intro x
    exact Ev.step (fun k => by rw [lustrumlaw09_LexBad.j2, if_neg (by decide)]) (fin 1 x)
  refine Ev.step (fun k => by rw [lustrumlaw09_LexBad.j0, if_neg (by simp)]) ?_
  rcases read_any _ s.data.toList 0 (Nat.le_refl _) with ⟨T, hT⟩ | ⟨p, hp⟩
  · refine Ev.bind (All_ok s (by omega) hT) ?_
    by_cases h1 : c > 32
    · refine Ev.yes h1 ?_
      by_cases h2 : c < 128
      · rw [show decide (c < 128) = true by simpa using h2]
        exact Ev.step (fun k => by rw [lustrumlaw09_LexBad.j1, if_pos rfl]) (key T hT 101 (by omega) (by omega) (by omega))
      · rw [show decide (c < 128) = false by simpa using h2]
        exact Ev.step (fun k => by rw [lustrumlaw09_LexBad.j1, if_neg (by simp)]) (key T hT c (by omega) (by omega) (by omega))
    · refine Ev.no h1 ?_
      exact Ev.step (fun k => by rw [lustrumlaw09_LexBad.j1, if_neg (by simp)]) (key T hT c (by omega) (by omega) (by omega))
  · refine Ev.bind (All_bad s (by omega) hp) ?_
    by_cases h1 : c > 32
    · refine Ev.yes h1 ?_
      by_cases h2 : c < 128
      · rw [show decide (c < 128) = true by simpa using h2]
        exact Ev.step (fun k => by rw [lustrumlaw09_LexBad.j1, if_pos rfl]) (bad _)
      · rw [show decide (c < 128) = false by simpa using h2]
        exact Ev.step (fun k => by rw [lustrumlaw09_LexBad.j1, if_neg (by simp)]) (bad _)
    · exact Ev.no h1 (Ev.step (fun k => by rw [lustrumlaw09_LexBad.j1, if_neg (by simp)]) (bad _))
end Go.Proofs.Ytahijlmpdmlffaa.Pure
