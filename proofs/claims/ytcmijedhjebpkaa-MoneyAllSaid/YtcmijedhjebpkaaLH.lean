/- The law file's helpers: tax, split, fault, awake. -/
import Derived.Test.YtcmijedhjebpkaaPB
import Derived.Test.YtcmijedhjebpkaaSA
import Derived.Test.YtcmijedhjebpkaaWS
namespace Go.Proofs.Ytcmijedhjebpkaa
open Go.RowKit Go.Proofs.Geo Go.Proofs.Mon
set_option linter.unusedVariables false
def RetT (w : World) (e : Ending) (w' : World) : Prop := e = .returned (.bool true) ∧ Kp w w'
set_option maxHeartbeats 4000000 in
theorem ltax_true (a r n : Int) (w : World) (h : taxR a r = (n, 0)) : Calls Try.prog 19 #[.int .i64 a, .int .i64 r, .int .i64 n] w (RetT w) := by
  have K : Kp w w := kp_refl _
  have c1 := fun w => tax_any a r w
  rw [h] at c1
  have C1 := Lib.hid c1
  clear c1 h
  go_enter Try.func19, Try.ntmps19
  go_wp2_with (go_at_call 15; refine (C1.out _).mono ?_; rintro e wk ⟨rfl, hk⟩; replace K := kp_trans K hk; clear hk)
  go_ret
  exact ⟨rfl, K⟩
theorem splitR_bd' (t : Int) (l m : List Int) (h : splitR t l = m) (hb : ∀ x ∈ m, I64 x) : ∀ x ∈ splitR t l, I64 x := by rw [h]; exact hb
set_option maxHeartbeats 4000000 in
theorem lsplit_true (t : Int) (v u : Value) (l m : List Int) (w : World) (hv : RdI w v l) (hu : RdI w u m) (hl : l.length ≤ 1100) (he : splitE t l = 0) (hr : splitR t l = m) (hm : m.length ≤ 100000) (hso : SortC l.length (rL t.natAbs l.sum.toNat l)) :
    Calls Try.prog 20 #[.int .i64 t, v, u] w (RetT w) := by
  have K : Kp w w := kp_refl _
  have c1 := split_any t v l w hv hl (fun _ => hso)
  rw [hr, he] at c1
  have C1 := Lib.hid c1
  have C2 := Lib.hid (sameI_any)
  have HU := Lib.hid hu
  have HM := Lib.hid hm
  clear c1 hso hr he hv hl hu hm
  go_enter Try.func20, Try.ntmps20
  go_wp2_with (first
    | (go_at_call 8; refine C1.out.mono ?_; rintro e wk ⟨⟨x, rfl, ho⟩, hk⟩; have HO := Lib.hid (ho.rd (by have := HM.out; omega) HU.out.2.1); replace K := kp_trans K hk; clear hk ho)
    | (go_at_call 10; refine (C2.out _ _ m m _ HO.out (HU.out.kp K) HM.out).mono ?_; rintro e wk ⟨rfl, hk⟩; replace K := kp_trans K hk; clear hk; rw [decide_eq_true (p := m = m) rfl]))
  go_ret
  exact ⟨rfl, K⟩
set_option maxHeartbeats 4000000 in
theorem lfault_true (s : ByteArray) (e a : Int) (w : World) (hs : s.size ≤ 1000000) (h : parseR (bts s) = (0, e, a)) : Calls Try.prog 21 #[.string s, .int .i64 e, .int .i64 a] w (RetT w) := by
  have K : Kp w w := kp_refl _
  have c1 := fun w => parse_any s w hs
  rw [h] at c1
  have C1 := Lib.hid c1
  clear c1 h
  go_enter Try.func21, Try.ntmps21
  go_wp2_with (go_at_call 31; refine (C1.out _).mono ?_; rintro e wk ⟨rfl, hk⟩; replace K := kp_trans K hk; clear hk)
  go_ret
  exact ⟨rfl, kp_alloc K _⟩
theorem aw1 (w : World) : Calls Try.prog 19 #[.int .i64 1000, .int .i64 72500, .int .i64 72] w (RetT w) := ltax_true 1000 72500 72 w (by decide)
theorem aw2 (v u : Value) (w : World) (h1 : RdI w v [1, 1, 1]) (h2 : RdI w u [34, 33, 33]) : Calls Try.prog 20 #[.int .i64 100, v, u] w (RetT w) :=
  lsplit_true 100 v u [1, 1, 1] [34, 33, 33] w h1 h2 (by decide) (by decide) (by decide) (by decide) (sortC_small 2 (by omega) (by omega) _ (by decide))
theorem aw3 (w : World) : Calls Try.prog 21 #[.string ⟨#[49, 50, 46, 51]⟩, .int .i64 4, .int .i64 4] w (RetT w) := lfault_true ⟨#[49, 50, 46, 51]⟩ 4 4 w (by decide) (by decide)
theorem i64s {l : List Int} (h : l.all (fun x => decide (-9223372036854775808 ≤ x) && decide (x ≤ 9223372036854775807)) = true) : ∀ x ∈ l, I64 x := by
  intro x hx
  have := List.all_eq_true.1 h x hx
  rw [Bool.and_eq_true, decide_eq_true_eq, decide_eq_true_eq] at this
  unfold I64; omega
theorem size_alloc' (w : World) (o : Obj) : (w.alloc o).heap.size = w.heap.size + 1 := by simp [go_sem]
/-- Two slice literals, one behind the other. -/
theorem lits2 (w : World) (l m : List Int) (cl cm : Array Value) (nl nm : Nat) (t : TypeId) (hl : cl = (l.map (Value.int .i64)).toArray) (hm : cm = (m.map (Value.int .i64)).toArray) (al : l.length ≤ 10000000) (am : m.length ≤ 10000000) (bl : ∀ x ∈ l, I64 x) (bm : ∀ x ∈ m, I64 x) (el : nl = l.length) (em : nm = m.length) :
    RdI ((w.alloc (.cells cl t)).alloc (.cells cm t)) (.slice (some ⟨w.heap.size, 0, none⟩) nl nl) l ∧ RdI ((w.alloc (.cells cl t)).alloc (.cells cm t)) (.slice (some ⟨w.heap.size + 1, 0, none⟩) nm nm) m := by
  subst hl hm
  have h := rdI_lit (w.alloc (.cells (l.map (Value.int .i64)).toArray t)) m t nm am bm em
  rw [size_alloc'] at h
  exact ⟨(rdI_lit w l t nl al bl el).kp (kp_alloc (kp_refl _) _), h⟩
theorem RetT.of2 {w : World} {o1 o2 : Obj} {e : Ending} {w' : World} (h : RetT ((w.alloc o1).alloc o2) e w') : RetT w e w' := ⟨h.1, kp_trans (kp_alloc (kp_alloc (kp_refl _) _) _) h.2⟩
theorem aw2' (w : World) : Calls Try.prog 20 #[.int .i64 100, .slice (some ⟨w.heap.size, 0, none⟩) 3 3, .slice (some ⟨w.heap.size + 1, 0, none⟩) 3 3] ((w.alloc (.cells #[.int .i64 1, .int .i64 1, .int .i64 1] 3)).alloc (.cells #[.int .i64 34, .int .i64 33, .int .i64 33] 3)) (RetT w) := by
  obtain ⟨h1, h2⟩ := lits2 w [1, 1, 1] [34, 33, 33] _ _ 3 3 3 rfl rfl (by decide) (by decide) (i64s (by decide)) (i64s (by decide)) rfl rfl
  exact (aw2 _ _ _ h1 h2).mono fun _ _ h => h.of2
set_option maxHeartbeats 4000000 in
theorem awake_any (w : World) : Calls Try.prog 7 #[] w (RetT w) := by
  have K : Kp w w := kp_refl _
  have C1 := Lib.hid aw1
  have C2 := Lib.hid aw2'
  have C3 := Lib.hid aw3
  go_enter Try.func7, Try.ntmps7
  go_wp2_with (first
    | (go_at_call 19; refine (C1.out _).mono ?_; rintro e wk ⟨rfl, hk⟩; replace K := kp_trans K hk; clear hk)
    | (go_at_call 20; refine (C2.out _).mono ?_; rintro e wk ⟨rfl, hk⟩; replace K := kp_trans K hk; clear hk)
    | (go_at_call 21; refine (C3.out _).mono ?_; rintro e wk ⟨rfl, hk⟩; replace K := kp_trans K hk; clear hk))
  go_ret
  exact ⟨rfl, K⟩
end Go.Proofs.Ytcmijedhjebpkaa
