/- A region in the order of the text, walked as a drawn one is: its callees make memory, its operations only read. -/
import Derived.Test.YtfpaojkcmijfgaaProg
import Derived.Lib.QuietBelow
import Derived.BigQuiet
import Derived.Deep.QuietTactic
import Derived.Tactics
import Derived.Deep.MidRow
import Derived.Test.YtfpaojkcmijfgaaBlk
namespace Go.Proofs.Ytfpaojkcmijfgaa
open Go Go.RowKit Go.Sort
theorem wpList_of_quiet {P : Program} {ops : Array Oper} {C : World → Prop} {Q : Act → Prop} {Q' : Exit → Act → World → Prop} (hQ : ∀ a w, C w → Q a → Q' .normal a w) : ∀ (l : List Oper) (a : Act) (w : World), C w → wpQuiet P ops C Q l a → wpList P ops Q' l a w
  | [], a, w, hw, h => hQ a w hw h
  | o :: rest, a, w, hw, h => by
    unfold wpQuiet at h
    unfold wpList
    by_cases hg : Region.wanted o (yielded ops a.tmps) = true
    · rw [if_pos hg] at h ⊢
      exact .inl (Oper.wp_of_quiet hw (fun a' w' hw' hk => wpList_of_quiet hQ rest a' w' hw' hk) h)
    · rw [if_neg hg] at h ⊢
      exact wpList_of_quiet hQ rest _ w hw h
/-- A region in the order of the text, whose operations only read and whose callees make memory: walked with the world's class, as a drawn one. -/
theorem wp_region_lex_below {P : Program} {id : Nat} {Q : Exit → Act → World → Prop} {a : Act} {w : World} {l : List Oper}
    (h : wpQuiet P l.toArray (fun w' => ∃ p : Regrown, w' = grow (redrawn w p.d) p.os) (fun a' => ∀ w', (∃ p : Regrown, w' = grow (redrawn w p.d) p.os) → Q .normal a' w') l a) : (Code.region id l.toArray false).wp P Q a w :=
  wp_region_lit (wpList_of_quiet (C := fun w' => ∃ p : Regrown, w' = grow (redrawn w p.d) p.os) (fun a' w' hw' hq => hq w' hw') l a w ⟨⟨w.drawn, #[]⟩, by rw [grow_empty]; rfl⟩ h)
theorem blk_load {P : Program} {w : World} {b : Nat} {T : TypeId} {cs : List Value} {d : TypeDesc} (h : Blk w b T cs.toArray) (hu : P.underlying T = some d) (hd : d.isRow = true) (hi : (P.info? T).map (·.size) = some cs.length) :
    (Instr.loadAt T (.pointer (some ⟨b, 0, none⟩))).run P w = .ok (.agg cs.toArray) w :=
  run_loadAt_mid w b 0 T cs d (fun j v hv => by rw [Nat.zero_add, h.cell j]; simpa using hv) hu hd hi
theorem vec_load {w : World} {b : Nat} {x0 x1 x2 x3 x4 x5 x6 x7 : Int} (h : Blk w b 64 #[.int .u32 x0, .int .u32 x1, .int .u32 x2, .int .u32 x3, .int .u32 x4, .int .u32 x5, .int .u32 x6, .int .u32 x7]) :
    ∀ (d : Nat) (os : Array Obj), (Instr.loadAt 64 (.pointer (some ⟨b, 0, none⟩))).run Try.prog (grow (redrawn w d) os) = .ok (.agg #[.int .u32 x0, .int .u32 x1, .int .u32 x2, .int .u32 x3, .int .u32 x4, .int .u32 x5, .int .u32 x6, .int .u32 x7]) (grow (redrawn w d) os) := fun d os =>
  blk_load (cs := [.int .u32 x0, .int .u32 x1, .int .u32 x2, .int .u32 x3, .int .u32 x4, .int .u32 x5, .int .u32 x6, .int .u32 x7]) (h.keep (below_regrown w d os)) Try.underlying64 rfl (by kernel_rfl)
end Go.Proofs.Ytfpaojkcmijfgaa
