/- Slices of ints that read as lists; arguments that are ints or slices of ints, opened. -/
import Derived.Test.YtcmijedhjebpkaaW4
import Derived.Test.YtcmijedhjebpkaaK0
import Derived.OpenShut
import Derived.ChangeOld
import Derived.ProofKit
import Derived.SizedLaws
namespace Go.Proofs.Ytcmijedhjebpkaa
open Go.RowKit Go.Proofs.Geo Go.ChangeShapes Go.WideShapes

theorem i64_of_wf {n : Int} (h : (Lit.int .i64 n).wf = true) : I64 n := by
  simp [Lit.wf, IntKind.min, IntKind.max, IntKind.signed, IntKind.bits] at h
  exact ⟨by omega, by omega⟩
/-- A slice that reads as a list of ints. -/
def RdI (w : World) (v : Value) (l : List Int) : Prop :=
  l.length ≤ 20000000000000 ∧ (∀ x ∈ l, I64 x) ∧ ((v = .slice none 0 0 ∧ l = []) ∨ ∃ (ad : Addr) (cap : Nat), v = .slice (some ad) l.length cap ∧ ∀ i, i < l.length → w.cell? (ad.add i) = some (.int .i64 (l.getD i 0)))
theorem RdI.kp {w w' : World} {v : Value} {l : List Int} (h : RdI w v l) (k : Kp w w') : RdI w' v l := by
  obtain ⟨h1, h2, h | ⟨ad, cap, hv, h⟩⟩ := h
  · exact ⟨h1, h2, .inl h⟩
  · exact ⟨h1, h2, .inr ⟨ad, cap, hv, fun i hi => kp_cell k (h i hi)⟩⟩
/-- Ints lie in a block from a place on. -/
def IntsAt (w : World) (b off : Nat) (l : List Int) : Prop := ∀ i (h : i < l.length), w.cell? ⟨b, off + i, none⟩ = some (.int .i64 l[i])
theorem IntsAt.kp {w w' : World} {b off : Nat} {l : List Int} (h : IntsAt w b off l) (k : Kp w w') : IntsAt w' b off l := fun i hi => kp_cell k (h i hi)
theorem RdI.shape {w : World} {v : Value} {l : List Int} (h : RdI w v l) : ∃ a cap, v = .slice a l.length cap ∧ (l = [] ∨ ∃ b off, a = some ⟨b, off, none⟩ ∧ IntsAt w b off l) := by
  obtain ⟨h1, h2, ⟨rfl, rfl⟩ | ⟨ad, cap, rfl, h⟩⟩ := h
  · exact ⟨none, 0, rfl, .inl rfl⟩
  · refine ⟨some ad, cap, rfl, ?_⟩
    by_cases e : l = []
    · exact .inl e
    · obtain ⟨b, off, rfl, hh⟩ := ints_at h (by cases l with | nil => exact absurd rfl e | cons a l => simp)
      exact .inr ⟨b, off, rfl, fun i hi => by have := hh i hi; rwa [List.getD_eq_getElem?_getD, List.getElem?_eq_getElem hi] at this⟩
theorem rdI_of {w : World} {b off cap : Nat} {l : List Int} (hl : l.length ≤ 20000000000000) (hi : ∀ x ∈ l, I64 x) (h : IntsAt w b off l) : RdI w (.slice (some ⟨b, off, none⟩) l.length cap) l :=
  ⟨hl, hi, .inr ⟨_, cap, rfl, fun i hi => by have e : (⟨b, off, none⟩ : Addr).add i = ⟨b, off + i, none⟩ := by unfold Addr.add; split <;> simp_all
                                             rw [e, h i hi, List.getD_eq_getElem?_getD, List.getElem?_eq_getElem hi]; rfl⟩⟩
theorem bytesInt : Try.prog.bytesOf 3 = 8 := by kernel_rfl
theorem ints_arg {H : Type} {enc : TypeId × Value → H} {W : World} {spare : Nat → Bool} {held : Bool} {fuel : Nat} {a0 : Option Addr} {len cap : Nat} {x : DataW H × List MemPlace}
    (h : DataW.trod enc Try.prog W 0 spare held fuel 22 [.slice a0 len cap] = some x) (hs : ∀ el sp, x.1 = .slice el sp → (el.length + sp.length) * 8 ≤ reachBytes) : ∃ l : List Int, len = l.length ∧ RdI W (.slice a0 len cap) l := by
  rcases open_ints Try.underlying22 Try.underlying3 (by kernel_rfl) h with ⟨hcs, _⟩ | ⟨a, len', cap', zs, hcs, _, hl, hm, hlen, hxe, hx, hwf⟩
  · simp at hcs
    obtain ⟨rfl, rfl, rfl⟩ := hcs
    exact ⟨[], rfl, by simp, by simp, .inl ⟨rfl, rfl⟩⟩
  · simp at hcs
    obtain ⟨rfl, rfl, rfl⟩ := hcs
    have hlz : len ≤ zs.length := by rw [hlen]; split <;> omega
    have hb : len ≤ 20000000000000 := by
      have := hs _ _ (by rw [hxe])
      simp only [lits, List.length_map, List.length_take, List.length_drop, reachBytes] at this
      omega
    refine ⟨zs.take len, by simp; omega, by simp; omega, fun n hn => i64_of_wf (hwf n (List.mem_of_mem_take hn)), .inr ⟨a, cap, by simp; omega, fun i hi => ?_⟩⟩
    have hi' : i < len := by simp at hi; omega
    rw [hx i (by omega)]
    simp [List.getD_eq_getElem?_getD, hi']
end Go.Proofs.Ytcmijedhjebpkaa
