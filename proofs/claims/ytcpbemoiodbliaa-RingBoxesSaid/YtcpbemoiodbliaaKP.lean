/- A point as a map's key; a set of points that a call makes. -/
import Derived.Test.YtcpbemoiodbliaaMW
import Derived.Maps.OwnSet
import Derived.DeepKeys4
import Derived.WalkKit
namespace Go.Proofs.Ytcpbemoiodbliaa
open Go.RowKit Go.Proofs.Geo Go.Maps

theorem laidOutK : laidOutB Try.prog = true := by kernel_rfl
theorem widePt : (match Try.prog.underlying 25 with | some (.array _ _) | some (.struct _) => true | _ => false) = true := by kernel_rfl
theorem lawPt : Keyed Try.prog 25 := Keyed.of_law (deep_law_laid laidOutK (m := 3) (by omega) (of_decide_eq_true (by kernel_rfl)) (by kernel_rfl) widePt)
/-- How a point reads as a key. -/
def keyP (p : Pt) : Lit := .string (keyBytes [.int .i64 p.1, .int .i64 p.2])
theorem wf_ok {x : Int} (h : -1099511627775 ≤ x ∧ x ≤ 1099511627775) : (Lit.int .i64 x).wf = true := by
  simp [Lit.wf, IntKind.min, IntKind.max, IntKind.signed, IntKind.bits]; omega
theorem cellsPtK : Try.prog.cellsOf 25 = 2 := by kernel_rfl
theorem cellsIntK : Try.prog.cellsOf 3 = 1 := by kernel_rfl
theorem keyOf_pt {p : Pt} (h : okP p = true) : keyOf Try.prog 25 (.agg #[.int .i64 p.1, .int .i64 p.2]) = some (keyP p) := by
  rw [okP_iff] at h
  have h1 := wf_ok h.1
  have h2 := wf_ok h.2
  have hk : Try.prog.keyType 25 = true := by kernel_rfl
  obtain ⟨m, hm⟩ : ∃ m, Try.prog.types.size + 1 = m + 1 + 1 := ⟨Try.prog.types.size - 1, by have : 1 ≤ Try.prog.types.size := of_decide_eq_true (by kernel_rfl); omega⟩
  have hf : (Value.agg #[.int .i64 p.1, .int .i64 p.2]).formed Try.prog 25 = true := by
    simp [Value.formed, Try.underlying25, cellsPtK]
  unfold keyOf keyP
  simp only [Try.underlying25, hk, hf, hm, Bool.and_self, if_true]
  simp [Program.keyLits, Try.underlying25, Try.underlying3, cellsPtK, cellsIntK, Value.cells, h1, h2]
theorem keyP_inj {p q : Pt} (hp : okP p = true) (hq : okP q = true) (h : keyP p = keyP q) : p = q := by
  have e1 := keyOf_pt hp
  have e2 := keyOf_pt hq
  rw [h] at e1
  have := lawPt.inj e1 e2
  simp at this
  exact Prod.ext this.1 this.2
end Go.Proofs.Ytcpbemoiodbliaa
