/- What follows of two masks together is what follows of each, together. -/
import Derived.Test.YtficidiahlmimaaDoorS3
namespace Go.Proofs.YtficidiahlmimaaDoor.Pure
open Go.RowKit Go.Proofs.YtficidiahlmimaaDoorW.PrintWords Go.Proofs.YtficidiahlmimaaDoorW.PrintLast Go.Proofs.YtficidiahlmimaaDoorW.PrintMore Go.Proofs.YtficidiahlmimaaDoor.P Go.Proofs.YtficidiahlmimaaDoor.S

theorem ComposeMore (a b c : Int) (_ha : I64 a) (_hb : I64 b) (_hc : I64 c) : ∃ n, lustrumlaw19_ComposeMore.f n a b c = some true := by
  refine Ev.rounds (g := fun n => lustrumlaw19_ComposeMore.f n a b c) (Ev.bind (f := fun k t198 => _) awake_ev (Ev.yes rfl ?_))
  refine Ev.bind (f := fun k t => _) (both_ev _ c) ?_
  refine Ev.bind (f := fun k t => _) (both_ev a c) ?_
  refine Ev.bind (f := fun k t => _) (both_ev b c) ?_
  rw [nm_or, both_or_left, or_nat _ _ (both_lt _ _) (both_lt _ _)]
  refine Ev.yes rfl ?_
  refine Ev.bind (f := fun k t => _) (both_ev c _) ?_
  refine Ev.bind (f := fun k t => _) (both_ev c a) ?_
  refine Ev.bind (f := fun _ t => _) (both_ev c b) ?_
  rw [nm_or, both_or_right, or_nat _ _ (both_lt _ _) (both_lt _ _)]
  simp only [beq_self_eq_true]
  exact Ev.now _
end Go.Proofs.YtficidiahlmimaaDoor.Pure
