import Derived.Test.YtahijlmpdmlffaaPx3
import Derived.Test.YtahijlmpdmlffaaS0
namespace Go.Proofs.Ytahijlmpdmlffaa.S
open Go.RowKit Go.Proofs.YtahijlmpdmlffaaW.PrintWords Go.Proofs.YtahijlmpdmlffaaW.PrintLast Go.Proofs.Ytahijlmpdmlffaa.P

theorem awake_ev : Ev (fun k => lustrumlaw09_awake.f k) true :=
  Ev.of (k := 30) lustrumlaw09_awake.mono (by decide +kernel)

theorem head_app {l rest : List UInt8} (hl : ∀ x, l.head? = some x → letter x = false) (hr : ∀ x, rest.head? = some x → letter x = false) : ∀ x, (l ++ rest).head? = some x → letter x = false := by
  cases l with
  | nil => exact hr
  | cons c l => exact hl

theorem Lx.append {l : List UInt8} {a : Nat} {T : List S32} (h : Lx l a T) : ∀ {rest : List UInt8} {U : List S32}, (∀ x, rest.head? = some x → letter x = false) → Lx rest (a + l.length) U → Lx (l ++ rest) a (T ++ U) := by
  induction h with
  | nil a => intro rest U _ hU; exact hU
  | word w l a T hne hw hl _ ih =>
    intro rest U hr hU
    rw [List.append_assoc]
    exact .word w _ a _ hne hw (head_app hl hr) (ih hr (by simpa [Nat.add_assoc] using hU))
  | sign c l a T hc hg _ ih => intro rest U hr hU; exact .sign c _ a _ hc hg (ih hr (by simpa [Nat.add_assoc, Nat.add_comm, Nat.add_left_comm] using hU))
  | dots l a T _ ih => intro rest U hr hU; exact .dots _ a _ (ih hr (by simpa [Nat.add_assoc, Nat.add_comm, Nat.add_left_comm] using hU))
  | blank l a T _ ih => intro rest U hr hU; exact .blank _ a _ (ih hr (by simpa [Nat.add_assoc, Nat.add_comm, Nat.add_left_comm] using hU))

theorem Lx.bad {l : List UInt8} {a : Nat} {T : List S32} (h : Lx l a T) : ∀ {rest : List UInt8} {p : Nat}, (∀ x, rest.head? = some x → letter x = false) → Bad rest (a + l.length) p → Bad (l ++ rest) a p := by
  induction h with
  | nil a => intro rest U _ hU; exact hU
  | word w l a T hne hw hl _ ih =>
    intro rest U hr hU
    rw [List.append_assoc]
    exact .word w _ a _ hne hw (head_app hl hr) (ih hr (by simpa [Nat.add_assoc] using hU))
  | sign c l a T hc hg _ ih => intro rest U hr hU; exact .sign c _ a _ hc hg (ih hr (by simpa [Nat.add_assoc, Nat.add_comm, Nat.add_left_comm] using hU))
  | dots l a T _ ih => intro rest U hr hU; exact .dots _ a _ (ih hr (by simpa [Nat.add_assoc, Nat.add_comm, Nat.add_left_comm] using hU))
  | blank l a T _ ih => intro rest U hr hU; exact .blank _ a _ (ih hr (by simpa [Nat.add_assoc, Nat.add_comm, Nat.add_left_comm] using hU))

theorem Bad.more {l : List UInt8} {a p : Nat} (h : Bad l a p) : ∀ {rest : List UInt8}, (∀ x, rest.head? = some x → letter x = false ∧ x ≠ 46) → Bad (l ++ rest) a p := by
  induction h with
  | here c l a hc hg hb hd =>
    intro rest hr
    refine .here c _ a hc hg hb fun e d h => ?_
    cases l with
    | nil => exact (hr d h).2
    | cons x l => exact hd e d h
  | word w l a p hne hw hl _ ih =>
    intro rest hr
    rw [List.append_assoc]
    exact .word w _ a _ hne hw (head_app hl (fun x hx => (hr x hx).1)) (ih hr)
  | sign c l a T hc hg _ ih => intro rest hr; exact .sign c _ a _ hc hg (ih hr)
  | dots l a T _ ih => intro rest hr; exact .dots _ a _ (ih hr)
  | blank l a T _ ih => intro rest hr; exact .blank _ a _ (ih hr)

def later (d : Nat) (t : S32) : S32 := ⟨t.f0, t.f1 + d, t.f2⟩

theorem Lx.later {l : List UInt8} {a : Nat} {T : List S32} (h : Lx l a T) (d : Nat) : Lx l (a + d) (T.map (S.later d)) := by
  have e : ∀ a : Nat, (a : Int) + (d : Int) = ((a + d : Nat) : Int) := fun a => by omega
  induction h with
  | nil a => exact .nil _
  | word w l a T hne hw hl _ ih =>
    rw [List.map_cons, S.later, e]
    exact .word w l (a + d) _ hne hw hl (by rw [show a + d + w.length = a + w.length + d by omega]; exact ih)
  | sign c l a T hc hg _ ih =>
    rw [List.map_cons, S.later, e]
    exact .sign c l (a + d) _ hc hg (by rw [show a + d + 1 = a + 1 + d by omega]; exact ih)
  | dots l a T _ ih =>
    rw [List.map_cons, S.later, e]
    exact .dots l (a + d) _ (by rw [show a + d + 2 = a + 2 + d by omega]; exact ih)
  | blank l a T _ ih => exact .blank l (a + d) _ (by rw [show a + d + 1 = a + 1 + d by omega]; exact ih)

theorem Bad.later {l : List UInt8} {a p : Nat} (h : Bad l a p) (d : Nat) : Bad l (a + d) (p + d) := by
  induction h with
  | here c l a hc hg hb hd => exact .here c l _ hc hg hb hd
  | word w l a p hne hw hl _ ih => exact .word w l (a + d) _ hne hw hl (by rw [show a + d + w.length = a + w.length + d by omega]; exact ih)
  | sign c l a p hc hg _ ih => exact .sign c l (a + d) _ hc hg (by rw [show a + d + 1 = a + 1 + d by omega]; exact ih)
  | dots l a p _ ih => exact .dots l (a + d) _ (by rw [show a + d + 2 = a + 2 + d by omega]; exact ih)
  | blank l a p _ ih => exact .blank l (a + d) _ (by rw [show a + d + 1 = a + 1 + d by omega]; exact ih)

theorem data_app (a b : ByteArray) : (a ++ b).data.toList = a.data.toList ++ b.data.toList := by
  simp [ByteArray.data_append]

theorem rd_get {xs : List S32} {i : Int} (h0 : 0 ≤ i) (h : i < xs.length) : ∃ hh : i.toNat < xs.length, rd_T32 xs i = xs[i.toNat] := by
  refine ⟨by omega, ?_⟩
  unfold rd_T32
  rw [List.getD_eq_getElem?_getD, List.getElem?_eq_getElem (by omega)]
  rfl

theorem tok_same (x y : S32) (h : x = y) : (!(x.f0 == y.f0) || (!(x.f1 == y.f1) || (!(x.f2.toList == y.f2.toList)))) = false := by
  subst h
  simp

theorem Ev.yes {α : Type} {c : Prop} [Decidable c] {g f : Nat → Option α} {r : α} (h : c) (k : Ev g r) : Ev (fun n => if c then g n else f n) r := Ev.congr (fun _ => if_pos h) k
theorem Ev.no {α : Type} {c : Prop} [Decidable c] {g f : Nat → Option α} {r : α} (h : ¬ c) (k : Ev f r) : Ev (fun n => if c then g n else f n) r := Ev.congr (fun _ => if_neg h) k
theorem Lx.len {l : List UInt8} {a : Nat} {T : List S32} (h : Lx l a T) : T.length ≤ l.length ∧ ∀ t ∈ T, (a : Int) ≤ t.f1 ∧ t.f1 ≤ (a + l.length : Nat) := by
  induction h with
  | nil a => exact ⟨by simp, by simp⟩
  | word w l a T hne _ _ _ ih =>
    have := List.length_pos_iff.2 hne
    refine ⟨by simp; omega, fun t ht => ?_⟩
    rcases List.mem_cons.1 ht with rfl | ht
    · simp; omega
    · have := ih.2 t ht
      simp at *
      omega
  | sign c l a T _ _ _ ih =>
    refine ⟨by simp; omega, fun t ht => ?_⟩
    rcases List.mem_cons.1 ht with rfl | ht
    · simp; omega
    · have := ih.2 t ht
      simp at *
      omega
  | dots l a T _ ih =>
    refine ⟨by simp; omega, fun t ht => ?_⟩
    rcases List.mem_cons.1 ht with rfl | ht
    · simp; omega
    · have := ih.2 t ht
      simp at *
      omega
  | blank l a T _ ih =>
    refine ⟨by simp; omega, fun t ht => ?_⟩
    have := ih.2 t ht
    simp at *
    omega

theorem blank_head (r : List UInt8) : ∀ x, ([32] ++ r).head? = some x → letter x = false := by
  intro x h
  injection h with h
  rw [← h]
  exact blank_plain.1

theorem blank_head2 (r : List UInt8) : ∀ x, ([32] ++ r).head? = some x → letter x = false ∧ x ≠ 46 := by
  intro x h
  injection h with h
  rw [← h]
  exact ⟨blank_plain.1, by decide⟩

theorem get_left {xs ys : List S32} {i : Int} (h0 : 0 ≤ i) (h : i < xs.length) : rd_T32 (xs ++ ys) i = rd_T32 xs i := by
  unfold rd_T32
  rw [List.getD_eq_getElem?_getD, List.getD_eq_getElem?_getD, List.getElem?_append_left (by omega)]

theorem get_right {xs ys : List S32} {i j : Int} (h0 : 0 ≤ j) (h : i = xs.length + j) : rd_T32 (xs ++ ys) i = rd_T32 ys j := by
  unfold rd_T32
  rw [List.getD_eq_getElem?_getD, List.getD_eq_getElem?_getD, List.getElem?_append_right (by omega)]
  congr 2
  omega

theorem get_map {ys : List S32} {j : Int} {d : Nat} (h0 : 0 ≤ j) (h : j < ys.length) : rd_T32 (ys.map (later d)) j = later d (rd_T32 ys j) := by
  unfold rd_T32
  rw [List.getD_eq_getElem?_getD, List.getD_eq_getElem?_getD, List.getElem?_map, List.getElem?_eq_getElem (by omega)]
  rfl

end Go.Proofs.Ytahijlmpdmlffaa.S
