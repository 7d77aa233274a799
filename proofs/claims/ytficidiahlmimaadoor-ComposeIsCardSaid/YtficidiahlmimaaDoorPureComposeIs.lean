/- The document's own answer for what follows: of two relations it is the table, and of two masks the union over the bits: compose answers the same. -/
import Derived.Test.YtficidiahlmimaaDoorRx8
import Derived.Test.YtficidiahlmimaaDoorRS3
namespace Go.Proofs.YtficidiahlmimaaDoor.Pure
open Go.RowKit Go.Proofs.YtficidiahlmimaaDoorW.PrintWords Go.Proofs.YtficidiahlmimaaDoorW.PrintLast Go.Proofs.YtficidiahlmimaaDoorW.PrintMore Go.Proofs.YtficidiahlmimaaDoor.P Go.Proofs.YtficidiahlmimaaDoor.S

def someL : List S26 := [⟨0, 0⟩, ⟨0, 1⟩, ⟨0, 2⟩, ⟨0, 3⟩, ⟨0, 4⟩, ⟨1, 1⟩, ⟨1, 2⟩, ⟨1, 3⟩, ⟨1, 4⟩, ⟨2, 2⟩, ⟨2, 3⟩, ⟨2, 4⟩, ⟨3, 3⟩, ⟨3, 4⟩, ⟨4, 4⟩]
def rows0 : List S44 := [⟨0, 9⟩, ⟨0, 10⟩, ⟨0, 11⟩, ⟨0, 12⟩, ⟨0, 13⟩, ⟨0, 14⟩, ⟨1, 12⟩, ⟨1, 13⟩, ⟨1, 14⟩, ⟨2, 14⟩, ⟨5, 12⟩, ⟨5, 13⟩, ⟨5, 14⟩, ⟨6, 14⟩, ⟨9, 14⟩]
def rows1 : List S44 := [⟨0, 5⟩, ⟨0, 6⟩, ⟨0, 7⟩, ⟨0, 8⟩, ⟨1, 9⟩, ⟨1, 10⟩, ⟨1, 11⟩, ⟨2, 12⟩, ⟨2, 13⟩, ⟨3, 14⟩, ⟨5, 9⟩, ⟨5, 10⟩, ⟨5, 11⟩, ⟨6, 12⟩, ⟨6, 13⟩, ⟨7, 14⟩, ⟨9, 12⟩, ⟨9, 13⟩, ⟨10, 14⟩, ⟨12, 14⟩]
def rows2 : List S44 := [⟨1, 6⟩, ⟨1, 7⟩, ⟨1, 8⟩, ⟨2, 7⟩, ⟨2, 8⟩, ⟨2, 10⟩, ⟨2, 11⟩, ⟨3, 8⟩, ⟨3, 11⟩, ⟨3, 13⟩, ⟨6, 10⟩, ⟨6, 11⟩, ⟨7, 11⟩, ⟨7, 13⟩, ⟨10, 13⟩]
def rows3 : List S44 := [⟨0, 1⟩, ⟨0, 2⟩, ⟨0, 3⟩, ⟨0, 4⟩, ⟨1, 2⟩, ⟨1, 3⟩, ⟨1, 4⟩, ⟨2, 3⟩, ⟨2, 4⟩, ⟨3, 4⟩, ⟨5, 6⟩, ⟨5, 7⟩, ⟨5, 8⟩, ⟨6, 7⟩, ⟨6, 8⟩, ⟨7, 8⟩, ⟨9, 10⟩, ⟨9, 11⟩, ⟨10, 11⟩, ⟨12, 13⟩]
def rows4 : List S44 := [⟨5, 2⟩, ⟨5, 3⟩, ⟨5, 4⟩, ⟨6, 3⟩, ⟨6, 4⟩, ⟨7, 4⟩, ⟨9, 3⟩, ⟨9, 4⟩, ⟨9, 7⟩, ⟨9, 8⟩, ⟨10, 4⟩, ⟨10, 8⟩, ⟨12, 4⟩, ⟨12, 8⟩, ⟨12, 11⟩]
def rows5 : List S44 := [⟨5, 1⟩, ⟨6, 2⟩, ⟨7, 3⟩, ⟨8, 4⟩, ⟨9, 2⟩, ⟨9, 6⟩, ⟨10, 3⟩, ⟨10, 7⟩, ⟨11, 4⟩, ⟨11, 8⟩, ⟨12, 3⟩, ⟨12, 7⟩, ⟨12, 10⟩, ⟨13, 4⟩, ⟨13, 8⟩, ⟨13, 11⟩, ⟨14, 4⟩, ⟨14, 8⟩, ⟨14, 11⟩, ⟨14, 13⟩]
def rows6 : List S44 := [⟨0, 0⟩, ⟨1, 1⟩, ⟨2, 2⟩, ⟨3, 3⟩, ⟨4, 4⟩, ⟨5, 5⟩, ⟨6, 6⟩, ⟨7, 7⟩, ⟨8, 8⟩, ⟨9, 9⟩, ⟨10, 10⟩, ⟨11, 11⟩, ⟨12, 12⟩, ⟨13, 13⟩, ⟨14, 14⟩]
def rows7 : List S44 := [⟨1, 5⟩, ⟨2, 6⟩, ⟨2, 9⟩, ⟨3, 7⟩, ⟨3, 10⟩, ⟨3, 12⟩, ⟨4, 8⟩, ⟨4, 11⟩, ⟨4, 13⟩, ⟨4, 14⟩, ⟨6, 9⟩, ⟨7, 10⟩, ⟨7, 12⟩, ⟨8, 11⟩, ⟨8, 13⟩, ⟨8, 14⟩, ⟨10, 12⟩, ⟨11, 13⟩, ⟨11, 14⟩, ⟨13, 14⟩]
def rows8 : List S44 := [⟨2, 5⟩, ⟨3, 5⟩, ⟨3, 6⟩, ⟨3, 9⟩, ⟨4, 5⟩, ⟨4, 6⟩, ⟨4, 7⟩, ⟨4, 9⟩, ⟨4, 10⟩, ⟨4, 12⟩, ⟨7, 9⟩, ⟨8, 9⟩, ⟨8, 10⟩, ⟨8, 12⟩, ⟨11, 12⟩]
def rows9 : List S44 := [⟨1, 0⟩, ⟨2, 0⟩, ⟨2, 1⟩, ⟨3, 0⟩, ⟨3, 1⟩, ⟨3, 2⟩, ⟨4, 0⟩, ⟨4, 1⟩, ⟨4, 2⟩, ⟨4, 3⟩, ⟨6, 5⟩, ⟨7, 5⟩, ⟨7, 6⟩, ⟨8, 5⟩, ⟨8, 6⟩, ⟨8, 7⟩, ⟨10, 9⟩, ⟨11, 9⟩, ⟨11, 10⟩, ⟨13, 12⟩]
def rows10 : List S44 := [⟨6, 1⟩, ⟨7, 1⟩, ⟨7, 2⟩, ⟨8, 1⟩, ⟨8, 2⟩, ⟨8, 3⟩, ⟨10, 2⟩, ⟨10, 6⟩, ⟨11, 2⟩, ⟨11, 3⟩, ⟨11, 6⟩, ⟨11, 7⟩, ⟨13, 3⟩, ⟨13, 7⟩, ⟨13, 10⟩]
def rows11 : List S44 := [⟨5, 0⟩, ⟨6, 0⟩, ⟨7, 0⟩, ⟨8, 0⟩, ⟨9, 1⟩, ⟨9, 5⟩, ⟨10, 1⟩, ⟨10, 5⟩, ⟨11, 1⟩, ⟨11, 5⟩, ⟨12, 2⟩, ⟨12, 6⟩, ⟨12, 9⟩, ⟨13, 2⟩, ⟨13, 6⟩, ⟨13, 9⟩, ⟨14, 3⟩, ⟨14, 7⟩, ⟨14, 10⟩, ⟨14, 12⟩]
def rows12 : List S44 := [⟨9, 0⟩, ⟨10, 0⟩, ⟨11, 0⟩, ⟨12, 0⟩, ⟨12, 1⟩, ⟨12, 5⟩, ⟨13, 0⟩, ⟨13, 1⟩, ⟨13, 5⟩, ⟨14, 0⟩, ⟨14, 1⟩, ⟨14, 2⟩, ⟨14, 5⟩, ⟨14, 6⟩, ⟨14, 9⟩]
def rowsL (r : Nat) : List S44 := match r with
  | 0 => rows0
  | 1 => rows1
  | 2 => rows2
  | 3 => rows3
  | 4 => rows4
  | 5 => rows5
  | 6 => rows6
  | 7 => rows7
  | 8 => rows8
  | 9 => rows9
  | 10 => rows10
  | 11 => rows11
  | _ => rows12
theorem some_at : lustrumref19_some.f 100 = some someL := by kernel_rfl
theorem some_ev : Ev (fun k => lustrumref19_some.f k) someL := Ev.of (k := 100) lustrumref19_some.mono some_at
theorem rows_at0 : lustrumref19_rows.f 600 someL 0 = some rows0 := by kernel_rfl
theorem rows_at1 : lustrumref19_rows.f 600 someL 1 = some rows1 := by kernel_rfl
theorem rows_at2 : lustrumref19_rows.f 600 someL 2 = some rows2 := by kernel_rfl
theorem rows_at3 : lustrumref19_rows.f 600 someL 3 = some rows3 := by kernel_rfl
theorem rows_at4 : lustrumref19_rows.f 600 someL 4 = some rows4 := by kernel_rfl
theorem rows_at5 : lustrumref19_rows.f 600 someL 5 = some rows5 := by kernel_rfl
theorem rows_at6 : lustrumref19_rows.f 600 someL 6 = some rows6 := by kernel_rfl
theorem rows_at7 : lustrumref19_rows.f 600 someL 7 = some rows7 := by kernel_rfl
theorem rows_at8 : lustrumref19_rows.f 600 someL 8 = some rows8 := by kernel_rfl
theorem rows_at9 : lustrumref19_rows.f 600 someL 9 = some rows9 := by kernel_rfl
theorem rows_at10 : lustrumref19_rows.f 600 someL 10 = some rows10 := by kernel_rfl
theorem rows_at11 : lustrumref19_rows.f 600 someL 11 = some rows11 := by kernel_rfl
theorem rows_at12 : lustrumref19_rows.f 600 someL 12 = some rows12 := by kernel_rfl
theorem rows_at (r : Nat) (h : r ≤ 12) : lustrumref19_rows.f 600 someL (r : Int) = some (rowsL r) := by
  have : r = 0 ∨ r = 1 ∨ r = 2 ∨ r = 3 ∨ r = 4 ∨ r = 5 ∨ r = 6 ∨ r = 7 ∨ r = 8 ∨ r = 9 ∨ r = 10 ∨ r = 11 ∨ r = 12 := by omega
  rcases this with rfl | rfl | rfl | rfl | rfl | rfl | rfl | rfl | rfl | rfl | rfl | rfl | rfl
  · exact rows_at0
  · exact rows_at1
  · exact rows_at2
  · exact rows_at3
  · exact rows_at4
  · exact rows_at5
  · exact rows_at6
  · exact rows_at7
  · exact rows_at8
  · exact rows_at9
  · exact rows_at10
  · exact rows_at11
  · exact rows_at12
theorem rows_ev (r : Nat) (h : r ≤ 12) : Ev (fun k => lustrumref19_rows.f k someL (r : Int)) (rowsL r) := Ev.of (k := 600) (lustrumref19_rows.mono _ _) (rows_at r h)
def loopOk (r : Nat) : Bool := (List.range 13).all fun s => decide (lustrumref19_Compose.l0 4000 someL (rowsL r) (rowsL s) 0 0 = some ((tab r s : Nat) : Int))
theorem loop0 : loopOk 0 = true := by decide +kernel
theorem loop1 : loopOk 1 = true := by decide +kernel
theorem loop2 : loopOk 2 = true := by decide +kernel
theorem loop3 : loopOk 3 = true := by decide +kernel
theorem loop4 : loopOk 4 = true := by decide +kernel
theorem loop5 : loopOk 5 = true := by decide +kernel
theorem loop6 : loopOk 6 = true := by decide +kernel
theorem loop7 : loopOk 7 = true := by decide +kernel
theorem loop8 : loopOk 8 = true := by decide +kernel
theorem loop9 : loopOk 9 = true := by decide +kernel
theorem loop10 : loopOk 10 = true := by decide +kernel
theorem loop11 : loopOk 11 = true := by decide +kernel
theorem loop12 : loopOk 12 = true := by decide +kernel
theorem loop_ok (r : Nat) (h : r ≤ 12) : loopOk r = true := by
  have : r = 0 ∨ r = 1 ∨ r = 2 ∨ r = 3 ∨ r = 4 ∨ r = 5 ∨ r = 6 ∨ r = 7 ∨ r = 8 ∨ r = 9 ∨ r = 10 ∨ r = 11 ∨ r = 12 := by omega
  rcases this with rfl | rfl | rfl | rfl | rfl | rfl | rfl | rfl | rfl | rfl | rfl | rfl | rfl
  · exact loop0
  · exact loop1
  · exact loop2
  · exact loop3
  · exact loop4
  · exact loop5
  · exact loop6
  · exact loop7
  · exact loop8
  · exact loop9
  · exact loop10
  · exact loop11
  · exact loop12
theorem loop_mono (l0 : List S26) (l1 l2 : List S44) (a b : Int) (k : Nat) : LeO (lustrumref19_Compose.l0 k l0 l1 l2 a b) (lustrumref19_Compose.l0 (k + 1) l0 l1 l2 a b) := (lustrumref19_Compose.mono_l k).2.1 _ _ _ _ _
theorem loop_ev (r s : Nat) (hr : r ≤ 12) (hs : s ≤ 12) : Ev (fun k => lustrumref19_Compose.l0 k someL (rowsL r) (rowsL s) 0 0) ((tab r s : Nat) : Int) := by
  refine Ev.of (k := 4000) (loop_mono _ _ _ _ _) ?_
  have := loop_ok r hr
  unfold loopOk at this
  rw [List.all_eq_true] at this
  exact of_decide_eq_true (this s (List.mem_range.2 (by omega)))
theorem ref_comp (r s : Nat) (hr : r ≤ 12) (hs : s ≤ 12) : Ev (fun k => lustrumref19_Compose.f k (r : Int) (s : Int)) ((tab r s : Nat) : Int) := by
  refine Ev.congr (fun k => by rw [lustrumref19_Compose.f, if_neg (by omega), if_neg (by omega), if_neg (by omega)]) ?_
  rw [show decide (((s : Nat) : Int) > 12) = false from by simp; omega]
  refine Ev.step (fun n => by rw [lustrumref19_Compose.j0]) (Ev.no (by simp) ?_)
  refine Ev.bind (f := fun k t => _) some_ev ?_
  refine Ev.bind (f := fun k t => _) (rows_ev r hr) ?_
  refine Ev.bind (f := fun k t => _) (rows_ev s hs) ?_
  exact loop_ev r s hr hs
theorem ref_none (r s : Int) (h : r < 0 ∨ r > 12 ∨ s < 0 ∨ s > 12) : Ev (fun k => lustrumref19_Compose.f k r s) 0 := by
  have key : Ev (fun k => lustrumref19_Compose.j0 k r s true) 0 := Ev.step (fun n => by rw [lustrumref19_Compose.j0]) (Ev.yes rfl (Ev.now _))
  by_cases h1 : r < 0
  · exact Ev.congr (fun k => by rw [lustrumref19_Compose.f, if_pos h1]) key
  by_cases h2 : r > 12
  · exact Ev.congr (fun k => by rw [lustrumref19_Compose.f, if_neg h1, if_pos h2]) key
  by_cases h3 : s < 0
  · exact Ev.congr (fun k => by rw [lustrumref19_Compose.f, if_neg h1, if_neg h2, if_pos h3]) key
  refine Ev.congr (fun k => by rw [lustrumref19_Compose.f, if_neg h1, if_neg h2, if_neg h3]) ?_
  rw [show decide (s > 12) = true from by simp; omega]
  exact key

theorem has_is (m : Int) (i : Nat) (h : i ≤ 12) : lustrumref18_Has.f m (i : Int) = some ((nm m).testBit i) := by
  unfold lustrumref18_Has.f
  rw [if_pos (by omega), if_pos (by omega), u64_small h, if_pos (by omega), bit_one m i h]
  by_cases hb : (nm m).testBit i = true
  · rw [if_pos hb, hb]; rfl
  · rw [if_neg hb]
    have : (nm m).testBit i = false := by simpa using hb
    rw [this]; rfl
theorem inner_ev (a b : Int) (r : Nat) (hr : r ≤ 12) (res : Int) : ∀ (d s acc : Nat), s + d = 13 → acc < 8192 →
    Ev (fun k => lustrumref19_Both.l0 k a b ((if (nm a).testBit r = true then orRow r acc (listFrom (nm b).testBit s d) else acc : Nat) : Int) (wrap64 ((r : Int) + 1))) res →
    Ev (fun k => lustrumref19_Both.l1 k a b (acc : Int) (r : Int) (s : Int)) res
  | 0, s, acc, h, ha, he => by
    refine Ev.step (fun n => by rw [lustrumref19_Both.l1]) (Ev.no (by omega) ?_)
    simp only [listFrom, orRow, ite_self] at he
    exact he
  | d + 1, s, acc, h, ha, he => by
    refine Ev.step (fun n => by rw [lustrumref19_Both.l1]) (Ev.yes (by omega) ?_)
    rw [has_is a r hr, has_is b s (by omega), w64_add (by omega)]
    simp only [Option.bind_some]
    by_cases c1 : (nm a).testBit r = true
    · rw [if_pos c1] at he
      refine Ev.yes c1 ?_
      by_cases c2 : (nm b).testBit s = true
      · rw [listFrom, if_pos c2, orRow] at he
        refine Ev.yes c2 ?_
        refine Ev.bind (f := fun k t => _) (ref_comp r s hr (by omega)) ?_
        rw [or_nat _ _ ha (tab_lt r s hr (by omega))]
        exact inner_ev a b r hr res d (s + 1) (acc ||| tab r s) (by omega) (or_lt2 ha (tab_lt r s hr (by omega))) (by rw [if_pos c1]; exact he)
      · rw [listFrom, if_neg c2] at he
        exact Ev.no c2 (inner_ev a b r hr res d (s + 1) acc (by omega) ha (by rw [if_pos c1]; exact he))
    · rw [if_neg c1] at he
      exact Ev.no c1 (inner_ev a b r hr res d (s + 1) acc (by omega) ha (by rw [if_neg c1]; exact he))
theorem outer_ev (a b : Int) : ∀ (d r acc : Nat), r + d = 13 → acc < 8192 → Ev (fun k => lustrumref19_Both.l0 k a b (acc : Int) (r : Int)) ((orTab (bitsOf (nm b)) acc (listFrom (nm a).testBit r d) : Nat) : Int)
  | 0, r, acc, h, ha => by
    refine Ev.step (fun n => by rw [lustrumref19_Both.l0]) (Ev.no (by omega) ?_)
    exact Ev.now _
  | d + 1, r, acc, h, ha => by
    refine Ev.step (fun n => by rw [lustrumref19_Both.l0]) (Ev.yes (by omega) ?_)
    refine inner_ev a b r (by omega) _ 13 0 acc rfl ha ?_
    rw [w64_add (by omega)]
    by_cases c : (nm a).testBit r = true
    · have e : listFrom (nm a).testBit r (d + 1) = r :: listFrom (nm a).testBit (r + 1) d := by rw [listFrom, if_pos c]
      rw [if_pos c, e]
      exact outer_ev a b d (r + 1) (orRow r acc (bitsOf (nm b))) (by omega) (orRow_lt r (by omega) _ _ (bitsOf_le _) ha)
    · have e : listFrom (nm a).testBit r (d + 1) = listFrom (nm a).testBit (r + 1) d := by rw [listFrom, if_neg c]
      rw [if_neg c, e]
      exact outer_ev a b d (r + 1) acc (by omega) ha
theorem ref_both (a b : Int) : Ev (fun k => lustrumref19_Both.f k a b) ((both (nm a) (nm b) : Nat) : Int) := outer_ev a b 13 0 0 rfl (by decide)

theorem ComposeIs (r s a b : Int) (_hr : I64 r) (_hs : I64 s) (_ha : I64 a) (_hb : I64 b) : ∃ n, lustrumlaw19_ComposeIs.f n r s a b = some true := by
  refine Ev.rounds (g := fun n => lustrumlaw19_ComposeIs.f n r s a b) (Ev.bind (f := fun k t => _) awake_ev (Ev.yes rfl ?_))
  have last : Ev (fun n => (compose_Both.f n a b).bind fun t192 => (lustrumref19_Both.f n a b).bind fun t193 => some (t192 == t193)) true := by
    refine Ev.bind (f := fun k t => _) (both_ev a b) ?_
    refine Ev.bind (f := fun _ t => _) (ref_both a b) ?_
    simp only [beq_self_eq_true]
    exact Ev.now _
  by_cases hn : r < 0 ∨ r > 12 ∨ s < 0 ∨ s > 12
  · refine Ev.bind (f := fun k t => _) (comp_none r s hn) ?_
    refine Ev.bind (f := fun k t => _) (ref_none r s hn) ?_
    exact Ev.yes rfl last
  · obtain ⟨u, rfl⟩ := Int.eq_ofNat_of_zero_le (show 0 ≤ r by omega)
    obtain ⟨v, rfl⟩ := Int.eq_ofNat_of_zero_le (show 0 ≤ s by omega)
    refine Ev.bind (f := fun k t => _) (comp_ev u v (by omega) (by omega)) ?_
    refine Ev.bind (f := fun k t => _) (ref_comp u v (by omega) (by omega)) ?_
    exact Ev.yes rfl last
end Go.Proofs.YtficidiahlmimaaDoor.Pure
