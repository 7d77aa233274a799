/- Each relation that follows is that of some three intervals of six days, and no other one is met. -/
import Derived.Test.YtficidiahlmimaaDoorPx6
import Derived.Test.YtficidiahlmimaaDoorS4
namespace Go.Proofs.YtficidiahlmimaaDoor.Pure
open Go.RowKit Go.Proofs.YtficidiahlmimaaDoorW.PrintWords Go.Proofs.YtficidiahlmimaaDoorW.PrintLast Go.Proofs.YtficidiahlmimaaDoorW.PrintMore Go.Proofs.YtficidiahlmimaaDoor.P Go.Proofs.YtficidiahlmimaaDoor.S

/-- The fifteen intervals within days 0 to 4. -/
def ones : List (Int × Int) := [(0, 0), (0, 1), (0, 2), (0, 3), (0, 4), (1, 1), (1, 2), (1, 3), (1, 4), (2, 2), (2, 3), (2, 4), (3, 3), (3, 4), (4, 4)]
def onesAt (x : Nat) : Int × Int := ones.getD x (0, 0)
theorem one_at : ∀ x, x < 15 → lustrumlaw19_one.f 12 ((x : Nat) : Int) = some (onesAt x) := by decide +kernel
theorem one_ev (x : Nat) (h : x < 15) : Ev (fun k => lustrumlaw19_one.f k (x : Int)) (onesAt x) := Ev.of (k := 12) (lustrumlaw19_one.mono _) (one_at x h)
theorem ones_ok : ∀ x, x < 15 → 0 ≤ (onesAt x).1 ∧ (onesAt x).1 ≤ (onesAt x).2 ∧ (onesAt x).2 ≤ 4 := by decide +kernel
def relOf (p q : Int × Int) : Int := rel p.1 p.2 q.1 q.2
def P1 (i : Nat) : Int × Int := onesAt (i % 15)
def P2 (i : Nat) : Int × Int := onesAt (i / 15 % 15)
def P3 (i : Nat) : Int × Int := onesAt (i / 225)
def fold (r s : Nat) : Nat → Nat → Nat → Nat
  | _, 0, acc => acc
  | i, d + 1, acc => fold r s (i + 1) d (if (relOf (P1 i) (P2 i)).toNat = r ∧ (relOf (P2 i) (P3 i)).toNat = s then acc ||| 2 ^ (relOf (P1 i) (P3 i)).toNat else acc)
theorem fold_bit (r s j : Nat) : ∀ d i acc, (fold r s i d acc).testBit j = true ↔ acc.testBit j = true ∨ ∃ q, i ≤ q ∧ q < i + d ∧ (relOf (P1 q) (P2 q)).toNat = r ∧ (relOf (P2 q) (P3 q)).toNat = s ∧ (relOf (P1 q) (P3 q)).toNat = j
  | 0, i, acc => by
    unfold fold
    constructor
    · exact fun h => .inl h
    · rintro (h | ⟨q, h1, h2, _⟩)
      · exact h
      · omega
  | d + 1, i, acc => by
    unfold fold
    rw [fold_bit r s j d (i + 1)]
    constructor
    · rintro (h | ⟨q, h1, h2, h3⟩)
      · by_cases c : (relOf (P1 i) (P2 i)).toNat = r ∧ (relOf (P2 i) (P3 i)).toNat = s
        · rw [if_pos c, Nat.testBit_or, Bool.or_eq_true, Nat.testBit_two_pow] at h
          rcases h with h | h
          · exact .inl h
          · exact .inr ⟨i, by omega, by omega, c.1, c.2, by simpa using h⟩
        · rw [if_neg c] at h
          exact .inl h
      · exact .inr ⟨q, by omega, by omega, h3⟩
    · rintro (h | ⟨q, h1, h2, h3, h4, h5⟩)
      · refine .inl ?_
        split
        · rw [Nat.testBit_or, h]; rfl
        · exact h
      · by_cases e : q = i
        · subst e
          rw [if_pos ⟨h3, h4⟩, Nat.testBit_or, Nat.testBit_two_pow, h5]
          exact .inl (by simp)
        · exact .inr ⟨q, by omega, by omega, h3, h4, h5⟩
def wits : List (List (List Nat)) := [[[3285], [2835], [3075], [2385], [2655, 1710, 1981, 810, 1085], [2430, 1485, 1756, 585, 860], [2160], [2850], [2865], [2175], [2445, 1500, 1771, 600, 875], [2205, 1260, 1531, 360, 635], [2235, 1305, 1561, 405, 665, 410, 135, 1306, 1337, 181, 441, 185, 219]],
  [[2775], [2100], [2340], [0, 1425], [0, 0, 1711, 525, 815], [0, 0, 1486, 300, 590], [0, 1200], [2115], [2130], [0, 1215], [0, 0, 1501, 315, 605], [0, 0, 0, 0, 0, 365, 75, 1261], [0, 0, 0, 0, 0, 0, 0, 0, 1307, 136, 411, 140, 189]],
  [[3241], [2791], [3031, 2341, 2582], [0, 0, 1666], [0, 0, 1952, 766, 1056], [0, 0, 1727, 541, 831], [0, 0, 1441], [2806, 2116, 2357], [2821, 2131, 2372, 0, 0, 0, 0, 2132, 2148], [0, 0, 1456, 0, 0, 0, 0, 1216, 1232], [0, 0, 1742, 556, 846, 606, 316, 1502, 1518, 332, 622], [0, 0, 0, 0, 0, 0, 0, 0, 1277, 91, 381], [0, 0, 0, 0, 0, 0, 0, 0, 1323, 152, 427, 156, 205]],
  [[2715], [2040], [2280, 1365, 1606], [0, 0, 0, 465], [0, 0, 0, 0, 770], [0, 0, 0, 0, 545], [0, 0, 0, 240], [2055, 1140, 1381], [2070, 1155, 1396, 0, 0, 0, 0, 1156, 1172], [0, 0, 0, 255, 0, 0, 15, 0, 0, 31], [0, 0, 0, 0, 560, 320, 0, 0, 0, 0, 336], [0, 0, 0, 0, 0, 0, 0, 0, 0, 0, 0, 95], [0, 0, 0, 0, 0, 0, 0, 0, 0, 0, 0, 0, 159]],
  [[3185], [2735], [2975, 2285, 2526, 1610, 1854], [0, 0, 0, 0, 710], [0, 0, 0, 0, 1014], [0, 0, 0, 0, 789], [0, 0, 0, 0, 485], [2750, 2060, 2301, 1385, 1629], [2765, 2075, 2316, 1400, 1644, 1404, 1160, 2076, 2092, 1176, 1420, 1179, 1197], [0, 0, 0, 0, 500, 260, 0, 0, 0, 0, 276, 35, 54], [0, 0, 0, 0, 804, 564, 0, 0, 0, 0, 580, 339, 357], [0, 0, 0, 0, 0, 0, 0, 0, 0, 0, 0, 0, 114], [0, 0, 0, 0, 0, 0, 0, 0, 0, 0, 0, 0, 177]],
  [[2720], [0, 2045], [0, 0, 2286, 1370, 1614], [0, 0, 0, 0, 470], [0, 0, 0, 0, 774], [0, 0, 0, 0, 0, 549], [0, 0, 0, 0, 0, 245], [0, 0, 0, 0, 0, 1389, 1145, 2061], [0, 0, 0, 0, 0, 0, 0, 0, 2077, 1161, 1405, 1164, 1182], [0, 0, 0, 0, 0, 0, 0, 0, 0, 0, 261, 20, 39], [0, 0, 0, 0, 0, 0, 0, 0, 0, 0, 565, 324, 342], [0, 0, 0, 0, 0, 0, 0, 0, 0, 0, 0, 0, 99], [0, 0, 0, 0, 0, 0, 0, 0, 0, 0, 0, 0, 162]],
  [[2025], [0, 1125], [0, 0, 1366], [0, 0, 0, 225], [0, 0, 0, 0, 530], [0, 0, 0, 0, 0, 305], [], [0, 0, 0, 0, 0, 0, 0, 1141], [0, 0, 0, 0, 0, 0, 0, 0, 1157], [0, 0, 0, 0, 0, 0, 0, 0, 0, 16], [0, 0, 0, 0, 0, 0, 0, 0, 0, 0, 321], [0, 0, 0, 0, 0, 0, 0, 0, 0, 0, 0, 80], [0, 0, 0, 0, 0, 0, 0, 0, 0, 0, 0, 0, 144]],
  [[2776], [0, 2101], [0, 0, 2342], [0, 0, 1426], [0, 0, 1712, 526, 816], [0, 0, 0, 0, 0, 591, 301, 1487], [0, 0, 0, 0, 0, 0, 0, 1201], [0, 0, 0, 0, 0, 0, 0, 2117], [0, 0, 0, 0, 0, 0, 0, 0, 2133], [0, 0, 0, 0, 0, 0, 0, 0, 1217], [0, 0, 0, 0, 0, 0, 0, 0, 1503, 317, 607], [0, 0, 0, 0, 0, 0, 0, 0, 1262, 76, 366], [0, 0, 0, 0, 0, 0, 0, 0, 1308, 137, 412, 141, 190]],
  [[3227, 2777, 3003, 0, 0, 0, 0, 2778, 2779], [0, 0, 2327, 0, 0, 0, 0, 2102, 2103], [0, 0, 2568, 0, 0, 0, 0, 2343, 2344], [0, 0, 1652, 0, 0, 0, 0, 1427, 1428], [0, 0, 1938, 752, 1042, 817, 527, 1713, 1714, 528, 818], [0, 0, 0, 0, 0, 0, 0, 0, 1488, 302, 592], [0, 0, 0, 0, 0, 0, 0, 0, 1202], [0, 0, 0, 0, 0, 0, 0, 0, 2118], [0, 0, 0, 0, 0, 0, 0, 0, 2134], [0, 0, 0, 0, 0, 0, 0, 0, 1218], [0, 0, 0, 0, 0, 0, 0, 0, 1504, 318, 608], [0, 0, 0, 0, 0, 0, 0, 0, 1263, 77, 367], [0, 0, 0, 0, 0, 0, 0, 0, 1309, 138, 413, 142, 191]],
  [[2701, 2026, 2252, 0, 0, 0, 0, 2027, 2028], [0, 0, 1351, 0, 0, 0, 0, 1126, 1127], [0, 0, 1592, 0, 0, 0, 0, 1367, 1368], [0, 0, 0, 451, 0, 0, 226, 0, 0, 227], [0, 0, 0, 0, 756, 531, 0, 0, 0, 0, 532], [0, 0, 0, 0, 0, 0, 0, 0, 0, 0, 306], [0, 0, 0, 0, 0, 0, 0, 0, 0, 1], [0, 0, 0, 0, 0, 0, 0, 0, 1142], [0, 0, 0, 0, 0, 0, 0, 0, 1158], [0, 0, 0, 0, 0, 0, 0, 0, 0, 17], [0, 0, 0, 0, 0, 0, 0, 0, 0, 0, 322], [0, 0, 0, 0, 0, 0, 0, 0, 0, 0, 0, 81], [0, 0, 0, 0, 0, 0, 0, 0, 0, 0, 0, 0, 145]],
  [[3171, 2721, 2947, 0, 0, 0, 0, 2722, 2723], [0, 0, 2271, 0, 0, 0, 0, 2046, 2047], [0, 0, 2512, 1596, 1840, 1615, 1371, 2287, 2288, 1372, 1616], [0, 0, 0, 0, 696, 471, 0, 0, 0, 0, 472], [0, 0, 0, 0, 1000, 775, 0, 0, 0, 0, 776], [0, 0, 0, 0, 0, 0, 0, 0, 0, 0, 550], [0, 0, 0, 0, 0, 0, 0, 0, 0, 0, 246], [0, 0, 0, 0, 0, 0, 0, 0, 2062, 1146, 1390], [0, 0, 0, 0, 0, 0, 0, 0, 2078, 1162, 1406, 1165, 1183], [0, 0, 0, 0, 0, 0, 0, 0, 0, 0, 262, 21, 40], [0, 0, 0, 0, 0, 0, 0, 0, 0, 0, 566, 325, 343], [0, 0, 0, 0, 0, 0, 0, 0, 0, 0, 0, 0, 100], [0, 0, 0, 0, 0, 0, 0, 0, 0, 0, 0, 0, 163]],
  [[2705, 2030, 2256, 0, 0, 0, 0, 2031, 2032], [0, 0, 0, 1355, 0, 0, 1130, 0, 0, 1131], [0, 0, 0, 0, 1599, 1374, 0, 0, 0, 0, 1375], [0, 0, 0, 0, 455, 230, 0, 0, 0, 0, 231], [0, 0, 0, 0, 759, 534, 0, 0, 0, 0, 535], [0, 0, 0, 0, 0, 0, 0, 0, 0, 0, 0, 309], [0, 0, 0, 0, 0, 0, 0, 0, 0, 0, 0, 5], [0, 0, 0, 0, 0, 0, 0, 0, 0, 0, 0, 1149], [0, 0, 0, 0, 0, 0, 0, 0, 0, 0, 0, 0, 1167], [0, 0, 0, 0, 0, 0, 0, 0, 0, 0, 0, 0, 24], [0, 0, 0, 0, 0, 0, 0, 0, 0, 0, 0, 0, 327], [0, 0, 0, 0, 0, 0, 0, 0, 0, 0, 0, 0, 84], [0, 0, 0, 0, 0, 0, 0, 0, 0, 0, 0, 0, 147]],
  [[3159, 2709, 2935, 2259, 2487, 2262, 2034, 2710, 2711, 2035, 2263, 2037, 2039], [0, 0, 0, 0, 1584, 1359, 0, 0, 0, 0, 1360, 1134, 1137], [0, 0, 0, 0, 1827, 1602, 0, 0, 0, 0, 1603, 1377, 1379], [0, 0, 0, 0, 684, 459, 0, 0, 0, 0, 460, 234, 237], [0, 0, 0, 0, 987, 762, 0, 0, 0, 0, 763, 537, 539], [0, 0, 0, 0, 0, 0, 0, 0, 0, 0, 0, 0, 312], [0, 0, 0, 0, 0, 0, 0, 0, 0, 0, 0, 0, 9], [0, 0, 0, 0, 0, 0, 0, 0, 0, 0, 0, 0, 1152], [0, 0, 0, 0, 0, 0, 0, 0, 0, 0, 0, 0, 1169], [0, 0, 0, 0, 0, 0, 0, 0, 0, 0, 0, 0, 27], [0, 0, 0, 0, 0, 0, 0, 0, 0, 0, 0, 0, 329], [0, 0, 0, 0, 0, 0, 0, 0, 0, 0, 0, 0, 87], [0, 0, 0, 0, 0, 0, 0, 0, 0, 0, 0, 0, 149]]]
def wit (r s j : Nat) : Nat := ((wits.getD r []).getD s []).getD j 0
def witOk (r : Nat) : Bool := (List.range 13).all fun s => (List.range 13).all fun j => !((tab r s).testBit j) || (decide (wit r s j < 3375) && decide ((relOf (P1 (wit r s j)) (P2 (wit r s j))).toNat = r) && decide ((relOf (P2 (wit r s j)) (P3 (wit r s j))).toNat = s) && decide ((relOf (P1 (wit r s j)) (P3 (wit r s j))).toNat = j))
theorem wit_all : ((List.range 13).all witOk) = true := by decide +kernel
theorem wit_at (r s j : Nat) (hr : r < 13) (hs : s < 13) (hj : j < 13) (h : (tab r s).testBit j = true) : ∃ q, q < 3375 ∧ (relOf (P1 q) (P2 q)).toNat = r ∧ (relOf (P2 q) (P3 q)).toNat = s ∧ (relOf (P1 q) (P3 q)).toNat = j := by
  have k := wit_all
  rw [List.all_eq_true] at k
  have k1 := k r (List.mem_range.2 hr)
  unfold witOk at k1
  rw [List.all_eq_true] at k1
  have k2 := k1 s (List.mem_range.2 hs)
  rw [List.all_eq_true] at k2
  have k3 := k2 j (List.mem_range.2 hj)
  rw [h] at k3
  simp only [Bool.not_true, Bool.false_or, Bool.and_eq_true, decide_eq_true_eq] at k3
  exact ⟨wit r s j, k3.1.1.1, k3.1.1.2, k3.1.2, k3.2⟩
theorem in1 (i : Nat) : i % 15 < 15 := Nat.mod_lt _ (by decide)
theorem in2 (i : Nat) : i / 15 % 15 < 15 := Nat.mod_lt _ (by decide)
theorem in3 (i : Nat) (h : i < 3375) : i / 225 < 15 := by omega
theorem fold_tab (r s : Nat) (hr : r < 13) (hs : s < 13) : fold r s 0 3375 0 = tab r s := by
  refine Nat.eq_of_testBit_eq fun j => ?_
  rw [Bool.eq_iff_iff, fold_bit]
  constructor
  · rintro (h | ⟨q, _, h2, h3, h4, h5⟩)
    · rw [Nat.zero_testBit] at h; cases h
    · have k1 := ones_ok _ (in1 q)
      have k2 := ones_ok _ (in2 q)
      have k3 := ones_ok _ (in3 q (by omega))
      have := sound (P1 q).1 (P1 q).2 (P2 q).1 (P2 q).2 (P3 q).1 (P3 q).2 k1.2.1 k2.2.1 k3.2.1
      unfold relOf at h3 h4 h5
      rw [h3, h4, h5] at this
      exact this
  · intro h
    obtain ⟨q, h1, h2⟩ := wit_at r s j hr hs (bit_lt (tab_lt r s (by omega) (by omega)) h) h
    exact .inr ⟨q, by omega, by omega, h2⟩
theorem fold_step_lt {acc : Nat} (i r s : Nat) (h : acc < 8192) : (if (relOf (P1 i) (P2 i)).toNat = r ∧ (relOf (P2 i) (P3 i)).toNat = s then acc ||| 2 ^ (relOf (P1 i) (P3 i)).toNat else acc) < 8192 := by
  split
  · refine or_lt2 h (Nat.lt_of_le_of_lt (Nat.pow_le_pow_right (by decide) (show (relOf (P1 i) (P3 i)).toNat ≤ 12 from ?_)) (by decide))
    have := rel_range (P1 i).1 (P1 i).2 (P3 i).1 (P3 i).2
    unfold relOf
    omega
  · exact h
theorem w64_next (i : Nat) (h : i < 3375) : wrap64 ((i : Int) + 1) = ((i + 1 : Nat) : Int) := by rw [wrap_nat (by omega) (by omega)]; omega
theorem met_ev (r s : Nat) (m : Int) : ∀ (d i acc : Nat), i + d = 3375 → acc < 8192 → Ev (fun k => lustrumlaw19_ComposeMet.l0 k (r : Int) (s : Int) true m (acc : Int) (i : Int)) (((fold r s i d acc : Nat) : Int) == m)
  | 0, i, acc, h, _ => by
    refine Ev.step (fun n => by rw [lustrumlaw19_ComposeMet.l0]) (Ev.no (by omega) (Ev.yes rfl ?_))
    exact Ev.now _
  | d + 1, i, acc, h, ha => by
    have e1 : Int.tmod (i : Int) 15 = ((i % 15 : Nat) : Int) := by
      rw [Int.tmod_eq_emod_of_nonneg (by omega)]; omega
    have e2 : Int.tdiv (i : Int) 15 = ((i / 15 : Nat) : Int) := by
      rw [Int.tdiv_eq_ediv_of_nonneg (by omega)]; omega
    have e3 : Int.tdiv (i : Int) 225 = ((i / 225 : Nat) : Int) := by
      rw [Int.tdiv_eq_ediv_of_nonneg (by omega)]; omega
    have e4 : Int.tmod ((i / 15 : Nat) : Int) 15 = ((i / 15 % 15 : Nat) : Int) := by
      rw [Int.tmod_eq_emod_of_nonneg (by omega)]; omega
    have k1 := ones_ok _ (in1 i)
    have k2 := ones_ok _ (in2 i)
    have k3 := ones_ok _ (in3 i (by omega))
    refine Ev.step (fun n => by rw [lustrumlaw19_ComposeMet.l0]) (Ev.yes (by omega) ?_)
    rw [e1, e2, e3, wrap_nat (i := ((i / 15 : Nat) : Int)) (by omega) (by omega), wrap_nat (i := ((i / 225 : Nat) : Int)) (by omega) (by omega), e4]
    refine Ev.bind (f := fun k bt183 => _) (one_ev _ (in1 i)) ?_
    refine Ev.bind (f := fun k bt183 => _) (one_ev _ (in2 i)) ?_
    refine Ev.bind (f := fun k bt183 => _) (one_ev _ (in3 i (by omega))) ?_
    simp only [allen_Of.f, Option.bind_some]
    have next := met_ev r s m d (i + 1) _ (by omega) (fold_step_lt i r s ha)
    have f1 : fold r s i (d + 1) acc = fold r s (i + 1) d (if (relOf (P1 i) (P2 i)).toNat = r ∧ (relOf (P2 i) (P3 i)).toNat = s then acc ||| 2 ^ (relOf (P1 i) (P3 i)).toNat else acc) := rfl
    rw [f1]
    have o : ∀ x y : Nat, x < 15 → y < 15 → ofI (onesAt x).1 (onesAt x).2 (onesAt y).1 (onesAt y).2 = (relOf (onesAt x) (onesAt y), true) := fun x y hx hy => by
      have kx := ones_ok x hx
      have ky := ones_ok y hy
      exact ofI_rel _ _ _ _ (by unfold I64; omega) (by unfold I64; omega) (by unfold I64; omega) (by unfold I64; omega) kx.2.1 ky.2.1
    rw [o _ _ (in1 i) (in2 i), o _ _ (in2 i) (in3 i (by omega)), o _ _ (in1 i) (in3 i (by omega))]
    have r1 : 0 ≤ relOf (onesAt (i % 15)) (onesAt (i / 15 % 15)) := (rel_range _ _ _ _).1
    have r2 : 0 ≤ relOf (onesAt (i / 15 % 15)) (onesAt (i / 225)) := (rel_range _ _ _ _).1
    have r3 : 0 ≤ relOf (onesAt (i % 15)) (onesAt (i / 225)) ∧ relOf (onesAt (i % 15)) (onesAt (i / 225)) ≤ 12 := rel_range _ _ _ _
    unfold P1 P2 P3 at next
    unfold P1 P2 P3
    obtain ⟨u, hu⟩ := Int.eq_ofNat_of_zero_le r1
    obtain ⟨v, hv⟩ := Int.eq_ofNat_of_zero_le r2
    obtain ⟨x, hx⟩ := Int.eq_ofNat_of_zero_le r3.1
    rw [hu, hv, hx] at next ⊢
    simp only [Int.toNat_natCast] at next ⊢
    rw [w64_next i (by omega)]
    by_cases c1 : u = r
    · refine Ev.yes (by omega) ?_
      by_cases c2 : v = s
      · refine Ev.yes (by omega) ?_
        rw [u64_small (show x ≤ 12 by omega), shl_one x (by omega), or_nat acc (2 ^ x) ha (Nat.lt_of_le_of_lt (Nat.pow_le_pow_right (by decide) (show x ≤ 12 by omega)) (by decide))]
        rw [if_pos ⟨c1, c2⟩] at next ⊢
        exact Ev.yes (by omega) next
      · refine Ev.no (by omega) ?_
        rw [if_neg (fun h => c2 h.2)] at next ⊢
        exact next
    · refine Ev.no (by omega) ?_
      rw [if_neg (fun h => c1 h.1)] at next ⊢
      exact next

theorem ComposeMet (r s : Int) (_hr : I64 r) (_hs : I64 s) : ∃ n, lustrumlaw19_ComposeMet.f n r s = some true := by
  refine Ev.rounds (g := fun n => lustrumlaw19_ComposeMet.f n r s) (Ev.bind (f := fun k t181 => _) awake_ev ?_)
  by_cases hn : r < 0 ∨ r > 12 ∨ s < 0 ∨ s > 12
  · refine Ev.bind (f := fun k t182 => _) (comp_none r s hn) ?_
    have key : Ev (fun k => lustrumlaw19_ComposeMet.j0 k r s true 0 true) true := by
      refine Ev.step (fun n => by rw [lustrumlaw19_ComposeMet.j0]) (Ev.yes rfl (Ev.yes rfl ?_))
      exact Ev.now _
    by_cases h1 : r < 0
    · exact Ev.yes h1 key
    refine Ev.no h1 ?_
    by_cases h2 : r > 12
    · exact Ev.yes h2 key
    refine Ev.no h2 ?_
    by_cases h3 : s < 0
    · exact Ev.yes h3 key
    refine Ev.no h3 ?_
    rw [show decide (s > 12) = true from by simp; omega]
    exact key
  · obtain ⟨u, rfl⟩ := Int.eq_ofNat_of_zero_le (show 0 ≤ r by omega)
    obtain ⟨v, rfl⟩ := Int.eq_ofNat_of_zero_le (show 0 ≤ s by omega)
    refine Ev.bind (f := fun k t182 => _) (comp_ev u v (by omega) (by omega)) ?_
    refine Ev.no (by omega) (Ev.no (by omega) (Ev.no (by omega) ?_))
    rw [show decide (((v : Nat) : Int) > 12) = false from by simp; omega]
    refine Ev.step (fun n => by rw [lustrumlaw19_ComposeMet.j0]) (Ev.no (by simp) ?_)
    have := met_ev u v ((tab u v : Nat) : Int) 3375 0 0 rfl (by decide)
    rw [fold_tab u v (by omega) (by omega), beq_self_eq_true] at this
    exact this
end Go.Proofs.YtficidiahlmimaaDoor.Pure
