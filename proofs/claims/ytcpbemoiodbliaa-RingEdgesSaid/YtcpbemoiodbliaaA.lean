/- An argument that is a slice of points, opened. -/
import Derived.Test.YtcpbemoiodbliaaMW
import Derived.Deep.SlicePairs
import Derived.OpenShut
import Derived.ChangeOld
import Derived.ProofKit
import Derived.SizedLaws
namespace Go.Proofs.Ytcpbemoiodbliaa
open Go.RowKit Go.Proofs.Geo Go.ChangeShapes Go.WideShapes Go.Deep

def numV : Value → Int | .int _ n => n | _ => 0

theorem bytesPt : Try.prog.bytesOf 25 = 16 := by kernel_rfl
theorem pts_arg {H : Type} {enc : TypeId × Value → H} {W : World} {spare : Nat → Bool} {held : Bool} {fuel : Nat} {a0 : Option Addr} {len cap : Nat} {x : DataW H × List MemPlace}
    (h : DataW.trod enc Try.prog W 0 spare held fuel 23 [.slice a0 len cap] = some x) (hs : ∀ el sp, x.1 = .slice el sp → (el.length + sp.length) * 16 ≤ reachBytes) : ∃ l : List Pt, len = l.length ∧ RdC W (.slice a0 len cap) l := by
  rcases open_slice_pairs Try.underlying23 Try.underlying25 (by kernel_rfl) rfl rfl (by kernel_rfl) (by kernel_rfl) h with ⟨hcs, _⟩ | ⟨a, len', cap', m, n, V0, V1, D0, D1, P0, P1, hcs, _, hl, _, hm, hxe, hx⟩
  · simp at hcs
    obtain ⟨rfl, rfl, rfl⟩ := hcs
    exact ⟨[], rfl, by simp, .inl ⟨rfl, rfl⟩⟩
  · simp at hcs
    obtain ⟨rfl, rfl, rfl⟩ := hcs
    have hlm : len ≤ m := by rw [hm]; split <;> omega
    have hb : len ≤ 10000000000000 := by
      have := hs _ _ (by rw [hxe])
      simp only [List.length_map, List.length_range, reachBytes] at this
      omega
    refine ⟨(List.range len).map fun i => (numV (V0 i), numV (V1 i)), by simp, by simpa using hb, .inr ⟨a, cap, by simp, fun j u hj => ?_⟩⟩
    have hj2 : j < len * 2 := by have := (List.getElem?_eq_some_iff.1 hj).1; rwa [flat_len, List.length_map, List.length_range] at this
    obtain ⟨h0, h1, h2, h3⟩ := hx (j / 2) (by omega)
    obtain ⟨y0, e0, _, _⟩ := DataW.trod_int Try.underlying3 h2
    obtain ⟨y1, e1, _, _⟩ := DataW.trod_int Try.underlying3 h3
    simp at e0 e1
    have hf := flat_get ((List.range len).map fun i => (numV (V0 i), numV (V1 i))) (j / 2) (by simp; omega)
    simp only [List.getElem_map, List.getElem_range] at hf
    have v0 : numV (V0 (j / 2)) = y0 := by rw [e0]; rfl
    have v1 : numV (V1 (j / 2)) = y1 := by rw [e1]; rfl
    rw [v0, v1] at hf
    rcases Nat.mod_two_eq_zero_or_one j with e | e
    · have ej : j / 2 * 2 = j := by omega
      rw [ej] at hf h0
      rw [hj] at hf
      rw [h0, e0]; exact hf.1.symm
    · have ej : j / 2 * 2 + 1 = j := by omega
      rw [ej] at hf h1
      rw [hj] at hf
      rw [h1, e1]; exact hf.2.symm
end Go.Proofs.Ytcpbemoiodbliaa
