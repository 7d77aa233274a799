/- Of any pairs, numbers, text and mask the relation, its inverse, the names and the masks are what the document says. -/
import Derived.Test.YtmcnmdihjdfpfaaDoorPx7
import Derived.Test.YtmcnmdihjdfpfaaDoorS1
namespace Go.Proofs.YtmcnmdihjdfpfaaDoor.Pure
open Go.RowKit Go.Proofs.YtmcnmdihjdfpfaaDoorW.PrintWords Go.Proofs.YtmcnmdihjdfpfaaDoorW.PrintLast Go.Proofs.YtmcnmdihjdfpfaaDoorW.PrintMore Go.Proofs.YtmcnmdihjdfpfaaDoor.P Go.Proofs.YtmcnmdihjdfpfaaDoor.S

theorem dec_yes {c : Prop} [Decidable c] (h : c) : decide c = true := by simpa using h
theorem dec_no {c : Prop} [Decidable c] (h : ¬ c) : decide c = false := by simpa using h

/-- What the reference's half says: the relation, where it is one of the first seven. -/
theorem half_low (a b c d : Int) (_ : I64 a) (hb : I64 b) (hc : I64 c) (_ : I64 d) (h1 : a ≤ b) (_ : c ≤ d) (h : rel a b c d ≤ 6) : Ev (fun k => lustrumref18_half.f k a b c d) (rel a b c d, true) := by
  unfold I64 at hb hc
  by_cases x1 : b < c
  · refine Ev.congr (fun k => by rw [lustrumref18_half.f, if_pos x1]) ?_
    rw [wrap_nat (by omega) (by omega)]
    by_cases x2 : b + 1 < c
    · rw [dec_yes x2]
      refine Ev.step (fun n => by rw [lustrumref18_half.j0]) (Ev.yes rfl ?_)
      rw [show rel a b c d = 0 from by unfold rel; rw [if_pos x2]]
      exact Ev.now _
    · rw [dec_no x2]
      refine Ev.step (fun n => by rw [lustrumref18_half.j0]) (Ev.no (by simp) (Ev.yes x1 ?_))
      rw [show rel a b c d = 1 from by unfold rel; rw [if_neg x2, if_pos (by omega)]]
      exact Ev.now _
  refine Ev.congr (fun k => by rw [lustrumref18_half.f, if_neg x1]) ?_
  refine Ev.step (fun n => by rw [lustrumref18_half.j0]) (Ev.no (by simp) (Ev.no x1 ?_))
  have e : rel a b c d = if d + 1 < a then 12 else if d + 1 = a then 11
      else if a < c then (if b < d then 2 else if b = d then 7 else 8)
      else if a = c then (if b < d then 3 else if b = d then 6 else 9)
      else (if b < d then 4 else if b = d then 5 else 10) := by
    unfold rel
    rw [if_neg (by omega), if_neg (by omega)]
  rw [e] at h ⊢
  by_cases x3 : d + 1 < a
  · rw [if_pos x3] at h; omega
  rw [if_neg x3] at h ⊢
  by_cases x4 : d + 1 = a
  · rw [if_pos x4] at h; omega
  rw [if_neg x4] at h ⊢
  clear e
  by_cases y1 : a < c
  · rw [if_pos y1] at h ⊢
    by_cases z1 : b < d
    · rw [if_pos z1] at h ⊢
      refine Ev.yes y1 (Ev.yes (by omega) ?_)
      rw [dec_yes z1]
      exact Ev.step (fun n => by rw [lustrumref18_half.j1]) (Ev.yes rfl (Ev.now _))
    · rw [if_neg z1] at h
      split at h <;> omega
  rw [if_neg y1] at h ⊢
  refine Ev.no y1 (Ev.step (fun n => by rw [lustrumref18_half.j1]) (Ev.no (by simp) ?_))
  by_cases y2 : a = c
  · rw [if_pos y2] at h ⊢
    refine Ev.yes y2 ?_
    by_cases z1 : b < d
    · rw [if_pos z1, dec_yes z1]
      exact Ev.step (fun n => by rw [lustrumref18_half.j2]) (Ev.yes rfl (Ev.now _))
    · rw [if_neg z1] at h ⊢
      rw [dec_no z1]
      by_cases z2 : b = d
      · rw [if_pos z2] at h ⊢
        refine Ev.step (fun n => by rw [lustrumref18_half.j2]) (Ev.no (by simp) (Ev.no (by omega) ?_))
        refine Ev.step (fun n => by rw [lustrumref18_half.j3]) (Ev.no (by simp) (Ev.no (by omega) ?_))
        refine Ev.step (fun n => by rw [lustrumref18_half.j4]) (Ev.no (by simp) (Ev.yes (by simp [y2, z2]) (Ev.now _)))
      · rw [if_neg z2] at h; omega
  · rw [if_neg y2] at h ⊢
    refine Ev.no y2 (Ev.step (fun n => by rw [lustrumref18_half.j2]) (Ev.no (by simp) (Ev.yes (by omega) ?_)))
    by_cases z1 : b < d
    · rw [if_pos z1, dec_yes z1]
      exact Ev.step (fun n => by rw [lustrumref18_half.j3]) (Ev.yes rfl (Ev.now _))
    · rw [if_neg z1] at h ⊢
      rw [dec_no z1]
      by_cases z2 : b = d
      · rw [if_pos z2] at h ⊢
        refine Ev.step (fun n => by rw [lustrumref18_half.j3]) (Ev.no (by simp) (Ev.yes (by omega) (Ev.yes (by omega) ?_)))
        rw [show (b == d) = true from by simp [z2]]
        exact Ev.step (fun n => by rw [lustrumref18_half.j4]) (Ev.yes rfl (Ev.now _))
      · rw [if_neg z2] at h; omega

theorem half_high (a b c d : Int) (h1 : a ≤ b) (h2 : c ≤ d) (h : 6 < rel a b c d) : Ev (fun k => lustrumref18_half.f k a b c d) (0, false) := by
  have e := rel_inv a b c d h1 h2
  have hr := rel_range c d a b
  have k1 : ¬ b < c := fun x => by
    unfold rel at h
    by_cases y : b + 1 < c
    · rw [if_pos y] at h; omega
    · rw [if_neg y, if_pos (by omega)] at h; omega
  have k2 : ¬ (a < c ∧ c ≤ b ∧ b < d) := fun ⟨x, y, z⟩ => by
    unfold rel at h
    rw [if_neg (by omega), if_neg (by omega), if_neg (by omega), if_neg (by omega), if_pos x, if_pos z] at h
    omega
  have k3 : ¬ (a = c ∧ b ≤ d) := fun ⟨x, y⟩ => by
    unfold rel at h
    rw [if_neg (by omega), if_neg (by omega), if_neg (by omega), if_neg (by omega), if_neg (by omega), if_pos x] at h
    split at h
    · omega
    · rw [if_pos (by omega)] at h; omega
  have k4 : ¬ (a > c ∧ a ≤ d ∧ b ≤ d) := fun ⟨x, y, z⟩ => by
    unfold rel at h
    rw [if_neg (by omega), if_neg (by omega), if_neg (by omega), if_neg (by omega), if_neg (by omega), if_neg (by omega)] at h
    split at h
    · omega
    · rw [if_pos (by omega)] at h; omega
  refine Ev.congr (fun k => by rw [lustrumref18_half.f, if_neg k1]) ?_
  refine Ev.step (fun n => by rw [lustrumref18_half.j0]) (Ev.no (by simp) (Ev.no k1 ?_))
  have tail4 : ∀ x : Bool, (x = true → False) → Ev (fun n => lustrumref18_half.j4 n x a b c d) (0, false) := fun x hx =>
    Ev.step (fun n => by rw [lustrumref18_half.j4]) (Ev.no hx (Ev.no (by
      intro hh
      simp only [Bool.and_eq_true, beq_iff_eq] at hh
      exact k3 ⟨hh.1, by omega⟩) (Ev.now _)))
  have tail3 : ∀ x : Bool, (x = true → False) → Ev (fun n => lustrumref18_half.j3 n x a b c d) (0, false) := fun x hx => by
    refine Ev.step (fun n => by rw [lustrumref18_half.j3]) (Ev.no hx ?_)
    by_cases y : a > c
    · refine Ev.yes y ?_
      by_cases z : a ≤ d
      · exact Ev.yes z (tail4 _ (fun hh => by
          have hh : b = d := by simpa using hh
          exact k4 ⟨y, z, by omega⟩))
      · exact Ev.no z (tail4 _ (by simp))
    · exact Ev.no y (tail4 _ (by simp))
  have tail2 : ∀ x : Bool, (x = true → False) → Ev (fun n => lustrumref18_half.j2 n x a b c d) (0, false) := fun x hx => by
    refine Ev.step (fun n => by rw [lustrumref18_half.j2]) (Ev.no hx ?_)
    by_cases y : a > c
    · exact Ev.yes y (tail3 _ (fun hh => by
        have hh : b < d := by simpa using hh
        exact k4 ⟨y, by omega, by omega⟩))
    · exact Ev.no y (tail3 _ (by simp))
  have tail1 : ∀ x : Bool, (x = true → False) → Ev (fun n => lustrumref18_half.j1 n x a b c d) (0, false) := fun x hx => by
    refine Ev.step (fun n => by rw [lustrumref18_half.j1]) (Ev.no hx ?_)
    by_cases y : a = c
    · exact Ev.yes y (tail2 _ (fun hh => by
        have hh : b < d := by simpa using hh
        exact k3 ⟨y, by omega⟩))
    · exact Ev.no y (tail2 _ (by simp))
  by_cases y : a < c
  · refine Ev.yes y ?_
    by_cases z : c ≤ b
    · exact Ev.yes z (tail1 _ (fun hh => k2 ⟨y, z, by simpa using hh⟩))
    · exact Ev.no z (tail1 _ (by simp))
  · exact Ev.no y (tail1 _ (by simp))

theorem ref_of (a b c d : Int) (ha : I64 a) (hb : I64 b) (hc : I64 c) (hd : I64 d) : Ev (fun k => lustrumref18_Of.f k a b c d) (ofI a b c d) := by
  by_cases hn : b < a ∨ d < c
  · rw [ofI_none a b c d hn]
    by_cases h1 : a > b
    · exact Ev.congr (fun k => by rw [lustrumref18_Of.f, if_pos h1]) (Ev.step (fun n => by rw [lustrumref18_Of.j0]) (Ev.yes rfl (Ev.now _)))
    · refine Ev.congr (fun k => by rw [lustrumref18_Of.f, if_neg h1]) ?_
      rw [dec_yes (show c > d by omega)]
      exact Ev.step (fun n => by rw [lustrumref18_Of.j0]) (Ev.yes rfl (Ev.now _))
  · have h1 : a ≤ b := by omega
    have h2 : c ≤ d := by omega
    rw [ofI_rel a b c d ha hb hc hd h1 h2]
    refine Ev.congr (fun k => by rw [lustrumref18_Of.f, if_neg (by omega)]) ?_
    rw [dec_no (show ¬ c > d by omega)]
    refine Ev.step (fun n => by rw [lustrumref18_Of.j0]) (Ev.no (by simp) ?_)
    by_cases h : rel a b c d ≤ 6
    · exact Ev.bind (f := fun k bt161 => if bt161.2 = true then some (bt161.1, true) else ((lustrumref18_half.f k c d a b).bind fun bt163 => (some (wrap64 (12 - bt163.1), true)))) (half_low a b c d ha hb hc hd h1 h2 h) (Ev.yes rfl (Ev.now _))
    · have hv := rel_inv a b c d h1 h2
      have hr := rel_range c d a b
      refine Ev.bind (f := fun k bt161 => if bt161.2 = true then some (bt161.1, true) else ((lustrumref18_half.f k c d a b).bind fun bt163 => (some (wrap64 (12 - bt163.1), true)))) (half_high a b c d h1 h2 (by omega)) (Ev.no (by simp) ?_)
      refine Ev.bind (f := fun _ bt163 => some (wrap64 (12 - bt163.1), true)) (half_low c d a b hc hd ha hb h2 h1 (by omega)) ?_
      rw [wrap_nat (by omega) (by omega), show (12 - rel c d a b) = rel a b c d from by omega]
      exact Ev.now _

theorem ref_inverse (r : Int) : lustrumref18_Inverse.f r = allen_Inverse.f r := by
  unfold lustrumref18_Inverse.f allen_Inverse.f
  by_cases h : r < 0
  · rw [if_pos h, if_pos h]
  · rw [if_neg h, if_neg h]
    by_cases h2 : r > 12
    · rw [if_pos h2, if_pos (by omega)]
    · rw [if_neg h2, if_neg (by omega)]
theorem inverse_some (r : Int) : ∃ p, allen_Inverse.f r = some p := by
  unfold allen_Inverse.f
  split
  · exact ⟨_, rfl⟩
  · split <;> exact ⟨_, rfl⟩
theorem names_is : lustrumref18_names.f = some namesL := rfl
theorem ref_name (r : Int) : lustrumref18_Name.f r = allen_Name.f r := by
  unfold lustrumref18_Name.f allen_Name.f
  by_cases h : r < 0
  · rw [if_pos h, if_pos h]
  · rw [if_neg h, if_neg h]
    by_cases h2 : r > 12
    · rw [if_pos h2, if_pos (by omega)]
    · rw [if_neg h2, if_neg (by omega), names_is, Option.bind_some, if_pos (by omega), if_pos (show r < ((namesL.length : Nat) : Int) from by have : namesL.length = 13 := rfl; omega)]
      rfl
theorem name_some (r : Int) : ∃ p, allen_Name.f r = some p := by
  unfold allen_Name.f
  split
  · exact ⟨_, rfl⟩
  · split <;> exact ⟨_, rfl⟩
theorem named_ev (s : ByteArray) : ∀ (l2 l1 : List ByteArray), (l1 ++ l2).length ≤ 100 → Ev (fun k => lustrumref18_Named.l0 k s (l1 ++ l2) (l1.length : Int)) (namedFrom l2 (l1.length : Int) s)
  | [], l1, _ => by
    refine Ev.step (fun n => by rw [lustrumref18_Named.l0]) (Ev.no (by simp) ?_)
    exact Ev.now _
  | x :: l2, l1, hn => by
    have hx : rdOf ByteArray.empty (l1 ++ x :: l2) (l1.length : Int) = x := by simp [rdOf]
    have hlen : ((l1 ++ x :: l2).length : Int) = l1.length + 1 + l2.length := by simp; omega
    simp at hn
    refine Ev.step (fun n => by rw [lustrumref18_Named.l0]) (Ev.yes (by omega) (Ev.yes (by omega) ?_))
    rw [hx, w64_add (by omega), namedFrom]
    by_cases h : x.toList = s.toList
    · rw [if_pos (by simpa using h)]
      exact Ev.yes h (Ev.now _)
    · rw [if_neg (by simpa using h)]
      have := named_ev s l2 (l1 ++ [x]) (by simp; omega)
      rw [List.append_assoc, List.length_append] at this
      exact Ev.no h this
theorem ref_named (s : ByteArray) : Ev (fun k => lustrumref18_Named.f k s) (namedFrom namesL 0 s) := by
  refine Ev.congr (fun k => by rw [lustrumref18_Named.f, names_is, Option.bind_some]) ?_
  exact named_ev s namesL [] (by decide)

theorem has_is (m : Int) (i : Nat) (h : i ≤ 12) : lustrumref18_Has.f m (i : Int) = some ((nm m).testBit i) := by
  unfold lustrumref18_Has.f
  rw [if_pos (by omega), if_pos (by omega), u64_small h, if_pos (by omega), bit_one m i h]
  by_cases hb : (nm m).testBit i = true
  · rw [if_pos hb, hb]; rfl
  · rw [if_neg hb]
    have : (nm m).testBit i = false := by simpa using hb
    rw [this]; rfl
theorem ref_list_ev (m : Int) : ∀ (d i : Nat) (acc : List Int), i + d = 13 → acc.length ≤ i → Ev (fun k => lustrumref18_List.l0 k m acc (i : Int)) (acc ++ ints (listFrom (nm m).testBit i d))
  | 0, i, acc, h, _ => by
    refine Ev.step (fun n => by rw [lustrumref18_List.l0]) (Ev.no (by omega) ?_)
    simp only [listFrom, ints, List.map_nil, List.append_nil]
    exact Ev.now _
  | d + 1, i, acc, h, hl => by
    refine Ev.step (fun n => by rw [lustrumref18_List.l0]) (Ev.yes (by omega) ?_)
    rw [has_is m i (by omega), w64_add (by omega)]
    simp only [Option.bind_some]
    unfold listFrom
    by_cases hb : (nm m).testBit i = true
    · rw [if_pos hb]
      refine Ev.yes hb (Ev.yes (by omega) ?_)
      have := ref_list_ev m d (i + 1) (acc ++ [(i : Int)]) (by omega) (by simp; omega)
      rw [List.append_assoc] at this
      exact this
    · rw [if_neg hb]
      exact Ev.no hb (ref_list_ev m d (i + 1) acc (by omega) (by omega))
theorem ref_list (m : Int) : Ev (fun k => lustrumref18_List.f k m) (ints (bitsOf (nm m))) := ref_list_ev m 13 0 [] rfl (by simp)
theorem ref_flip_ev (m : Int) : ∀ (d i acc : Nat), i + d = 13 → acc < 8192 → Ev (fun k => lustrumref18_Flip.l0 k m (acc : Int) (i : Int)) ((orAll acc (listFrom (nm m).testBit i d) : Nat) : Int)
  | 0, i, acc, h, _ => by
    refine Ev.step (fun n => by rw [lustrumref18_Flip.l0]) (Ev.no (by omega) ?_)
    exact Ev.now _
  | d + 1, i, acc, h, hl => by
    refine Ev.step (fun n => by rw [lustrumref18_Flip.l0]) (Ev.yes (by omega) ?_)
    rw [has_is m i (by omega), w64_add (by omega), w64_sub (by omega), u64_small (show 12 - i ≤ 12 by omega)]
    simp only [Option.bind_some]
    unfold listFrom
    by_cases hb : (nm m).testBit i = true
    · rw [if_pos hb]
      refine Ev.yes hb (Ev.yes (by omega) ?_)
      rw [shl_one _ (by omega), or_nat _ _ hl (Nat.lt_of_le_of_lt (Nat.pow_le_pow_right (by decide) (show 12 - i ≤ 12 by omega)) (by decide))]
      exact ref_flip_ev m d (i + 1) (acc ||| 2 ^ (12 - i)) (by omega) (or_lt hl)
    · rw [if_neg hb]
      exact Ev.no hb (ref_flip_ev m d (i + 1) acc (by omega) hl)
theorem ref_flip (m : Int) : Ev (fun k => lustrumref18_Flip.f k m) ((flip (nm m) : Nat) : Int) := ref_flip_ev m 13 0 0 rfl (by decide)
theorem ints_ev (l : List Int) (hn : l.length ≤ 100) : ∀ (d i : Nat), i + d = l.length → Ev (fun k => lustrumref18_Ints.l0 k l l (i : Int)) true
  | 0, i, h => by
    exact Ev.step (fun n => by rw [lustrumref18_Ints.l0]) (Ev.no (by omega) (Ev.now _))
  | d + 1, i, h => by
    refine Ev.step (fun n => by rw [lustrumref18_Ints.l0]) (Ev.yes (by omega) (Ev.yes (by omega) (Ev.yes (by omega) (Ev.yes rfl ?_))))
    rw [w64_add (by omega)]
    exact ints_ev l hn d (i + 1) (by omega)
theorem ref_ints (l : List Int) (hn : l.length ≤ 100) : Ev (fun k => lustrumref18_Ints.f k l l) true :=
  Ev.congr (f := fun k => lustrumref18_Ints.l0 k l l ((0 : Nat) : Int)) (fun k => by rw [lustrumref18_Ints.f, if_pos rfl]; rfl) (ints_ev l hn l.length 0 (by omega))

theorem AllenIs (a b c d r : Int) (s : ByteArray) (m : Int) (ha : I64 a) (hb : I64 b) (hc : I64 c) (hd : I64 d) (_hr : I64 r) (_hs : s.size ≤ 140737488351232) (_hm : I64 m) : ∃ n, lustrumlaw18_AllenIs.f n a b c d r s m = some true := by
  refine Ev.rounds (g := fun n => lustrumlaw18_AllenIs.f n a b c d r s m) ?_
  obtain ⟨pi, hpi⟩ := inverse_some r
  obtain ⟨pn, hpn⟩ := name_some r
  have hlast : Ev (fun k => lustrumlaw18_AllenIs.j0 k r m true false) true := by
    refine Ev.step (fun n => by rw [lustrumlaw18_AllenIs.j0]) (Ev.no (by simp) (Ev.yes rfl ?_))
    rw [ref_name, hpn]
    simp only [Option.bind_some]
    refine Ev.yes trivial ?_
    refine Ev.bind (f := fun n t200 => ((lustrumref18_Flip.f n m).bind fun t201 => (if t200 = t201 then ((allen_List.f n m).bind fun t202 => ((lustrumref18_List.f n m).bind fun t205 => ((lustrumref18_Ints.f n t202 t205).bind fun t208 => (some t208)))) else (some false)))) (allen_flip m) ?_
    refine Ev.bind (f := fun n t201 => (if ((flip (nm m) : Nat) : Int) = t201 then ((allen_List.f n m).bind fun t202 => ((lustrumref18_List.f n m).bind fun t205 => ((lustrumref18_Ints.f n t202 t205).bind fun t208 => (some t208)))) else (some false))) (ref_flip m) ?_
    refine Ev.yes rfl ?_
    refine Ev.bind (f := fun n t202 => ((lustrumref18_List.f n m).bind fun t205 => ((lustrumref18_Ints.f n t202 t205).bind fun t208 => (some t208)))) (allen_list m) ?_
    refine Ev.bind (f := fun n t205 => ((lustrumref18_Ints.f n (ints (bitsOf (nm m))) t205).bind fun t208 => (some t208))) (ref_list m) ?_
    refine Ev.bind (f := fun _ t208 => some t208) (ref_ints _ (by
      have := length_listFrom (nm m).testBit 13 0
      simp [ints, bitsOf]; omega)) ?_
    exact Ev.now _
  unfold lustrumlaw18_AllenIs.f
  refine Ev.bind (f := fun k t185 => _) awake_ev ?_
  simp only [allen_Of.f, Option.bind_some]
  refine Ev.bind (f := fun k bt188 => _) (ref_of a b c d ha hb hc hd) ?_
  rw [ref_inverse, hpi]
  simp only [allen_Named.f, Option.bind_some]
  refine Ev.bind (f := fun k bt196 => _) (ref_named s) ?_
  refine Ev.yes trivial (Ev.no (by simp) (Ev.yes trivial (Ev.no (by simp) (Ev.yes rfl ?_))))
  rw [bne_self_eq_false]
  exact hlast
end Go.Proofs.YtmcnmdihjdfpfaaDoor.Pure
