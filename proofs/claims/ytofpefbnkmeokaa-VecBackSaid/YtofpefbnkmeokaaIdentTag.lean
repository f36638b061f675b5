/- Contracts of CompareTag, of package ident and of the reference. -/
import Derived.Test.YtofpefbnkmeokaaIdent
namespace Go.Proofs.Ytofpefbnkmeokaa
open Go.RowKit
attribute [local go_sem ↓] Go.wp_at_zero Go.wp_at_succ
theorem keepA {W : World} {a : Addr} {v : Value} {o : Obj} (h : W.cell? a = some v) : (W.alloc o).cell? a = some v := by simp [World.cell?_alloc_some, h]
def tagCmp (a1 b1 c1 a2 b2 c2 : Int) : Int := or2 (or2 (ordI a1 a2) (ordI b1 b2)) (ordI c1 c2)
end Go.Proofs.Ytofpefbnkmeokaa
