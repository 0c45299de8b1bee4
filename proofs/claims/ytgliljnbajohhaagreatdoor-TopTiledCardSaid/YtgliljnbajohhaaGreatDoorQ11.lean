import Derived.Test.YtgliljnbajohhaaGreatDoorQ10
set_option linter.unusedVariables false
set_option linter.unusedSimpArgs false
namespace Go.Proofs.YtgliljnbajohhaaGreatDoor
open Go.RowKit Go.Proofs.Top
def WrB (gw:Nat) (bs:List Int) (S:List Nat) (w:World):Prop:=∃ u,w.heap[gw]? = some (.cells #[u] 143 (0,0))∧OwnU w (gw+1) u bs∧S=gw :: u.ownBlock.toList
def WX (gw:Nat) (bs:List Int) (S:List Nat) (w w':World):Prop:=∃ S',WrB gw bs S' w'∧KX S w w'∧∀ b∈S',b∈S∨w.heap.size≤b
section
variable {gw:Nat} {bs bs2:List Int} {S S1:List Nat} {w w1 w2 w' W:World}
theorem WrB.lt (h:WrB gw bs S w):gw<w.heap.size:=by obtain ⟨u,hp,ho,rfl⟩:=h;exact (Array.getElem?_eq_some_iff.1 hp).1
theorem WrB.ge (h:WrB gw bs S w):∀ b∈S,gw≤b∧b<w.heap.size:=by
 have hl:=h.lt
 obtain ⟨u,hp,ho,rfl⟩:=h
 intro b hb
 simp only [List.mem_cons,Option.mem_toList] at hb
 rcases hb with rfl | hb
 ·exact ⟨Nat.le_refl _,hl⟩
 ·have:=ho.lt hb;omega
theorem WrB.kx {S2:List Nat} (h:WrB gw bs S w) (k:KX S2 w w') (hs:∀ b∈S,b∉S2):WrB gw bs S w':=by
 obtain ⟨u,hp,ho,rfl⟩:=h
 exact ⟨u,k.row hp (hs gw (by simp)),ho.kx k (fun g hg=>hs g (by simp only [List.mem_cons,Option.mem_toList];exact .inr hg)),rfl⟩
theorem WrB.kp (h:WrB gw bs S w) (k:Kp w w'):WrB gw bs S w':=h.kx (S2:=[]) (.of k) (by simp)
theorem WX.trans (k1:KX S w w1) (s1:∀ b∈S1,b∈S∨w.heap.size≤b) (h:WX gw bs S1 w1 w2):WX gw bs S w w2:=by
 obtain ⟨S2,h2,k2,s2⟩:=h
 exact ⟨S2,h2,k1.trans k2 s1,fun b hb=>(s2 b hb).elim (s1 b) (fun h=>.inr (Nat.le_trans k1.size h))⟩
theorem WX.pre (k:Kp w w1) (h:WX gw bs S w1 w2):WX gw bs S w w2:=WX.trans (.of k) (fun b hb=>.inl hb) h
theorem WX.refl (h:WrB gw bs S w) (k:Kp w w'):WX gw bs S w w':=⟨S,h.kp k,.of k,fun b hb=>.inl hb⟩
theorem WX.keeps (h:WX gw bs S w w') (hS:∀ b∈S,W.heap.size≤b) (k:Kp W w):Kp W w':=by
 obtain ⟨S2,h2,k2,s2⟩:=h
 exact KX.after k k2 hS
end
theorem encs_len {ns:List Nat} {m k:Nat} (hs:∀ k,k<m→ns.getD k 0<1048576) (hn:ns.length=m) (hk:k≤m):(encs (ns.take k)).length≤3 * k:=by
 induction k with
 | zero=>simp [encs]
 | succ k ih =>
  rw [encs_take ns (by omega),List.length_append]
  have:=ih (by omega)
  have:=(enc_len (hs k (by omega))).2
  omega
theorem mth_wnumber (p:Option Addr) (w:World):(method 799 141 (.pointer p) "apportion/config.number").run Tryz.prog w=.ok (516,.pointer p) w:=by kernel_rfl
theorem mth_wcount (p:Option Addr) (w:World):(method 799 141 (.pointer p) "apportion/config.count").run Tryz.prog w=.ok (514,.pointer p) w:=by kernel_rfl
theorem mth_wfine (p:Option Addr) (w:World):(method 799 141 (.pointer p) "apportion/config.fine").run Tryz.prog w=.ok (515,.pointer p) w:=by kernel_rfl
theorem nil_wcount (a:Addr) (w:World):(nilAhead 799 141 (.pointer (some a)) "apportion/config.count").run Tryz.prog w=.ok (some false) w:=by kernel_rfl
set_option maxHeartbeats 8000000 in
set_option maxRecDepth 100000 in
theorem cw_number (gw nb no n:Nat) (bs:List Int) (S:List Nat) (hlt:n<1048576) (hl:bs.length≤100000) (w:World) (hw:WrB gw bs S w) (hn:w.cell? ⟨nb,no,none⟩=some (.int .i64 n)) (hns:nb∉S) :
  Calls Tryz.prog 516 #[.pointer (some ⟨gw,0,none⟩),.pointer (some ⟨nb,no,none⟩)] w fun e w'=>e=.returned (.tuple #[])∧WX gw (bs++enc n) S w w':=by
 obtain ⟨u,hp,ho,rfl⟩:=hw
 obtain ⟨i0,hi,hz0,hz1,hz2⟩:=info_parts infoU8
 have HI:=Lib.hid hi;have HZ0:=Lib.hid hz0;have HZ1:=Lib.hid hz1;have HZ2:=Lib.hid hz2;clear hi hz0 hz1 hz2
 have HP:=Lib.hid hp;have HO:=Lib.hid ho
 have c0:w.cell? ⟨gw,0,none⟩=some u:=by rw [cell_of_row w gw _ _ _ _ hp];rfl
 have f0:w.frozen? ⟨gw,0,none⟩=false:=frozen_of_row w gw _ _ _ hp
 have lgw:gw<w.heap.size:=cell_lt c0
 have lnb:nb<w.heap.size:=cell_lt hn
 have hen:=enc_len hlt
 clear hp ho
 go_enter Tryz.func516,Tryz.ntmps516
 go_upto_region 0 with fail
 refine wp_region_noPanic ?_
 refine wp_region_held_drew (S:=fun w'=>KX (gw :: u.ownBlock.toList) w w') (by kernel_rfl) ?_ (fun hHeld=>?_)
 ·exact (KX.refl _).drew
 obtain ⟨WD,hWD⟩:∃ W,w.drew=W:=⟨_,rfl⟩
 have KD:Kp w WD:=by rw [← hWD];exact kp_drew (kp_refl _)
 have cD:=kp_cell KD c0
 have fD:=kp_froz KD c0 f0
 rw [hWD] at hHeld ⊢
 refine take_yes (i:=0) (d:=4) (v:=?_) rfl rfl (by kernel_rfl) (by kernel_rfl) (by kernel_rfl) (fun _ _ _ h=>h) (by rfl) ?_ hHeld ?_
 rotate_left
 ·intro wq hSw;(try dsimp only at hSw);go_simp;(try with_reducible rfl)
 (try simp only [Act.put,List.setIfInBounds_toArray,List.set_cons_zero,List.set_cons_succ])
 refine take_yes (i:=1) (d:=5) (v:=?_) rfl rfl (by kernel_rfl) (by kernel_rfl) (by kernel_rfl) (fun _ _ _ h=>h) (by rfl) ?_ hHeld ?_
 rotate_left
 ·intro wq hSw;(try dsimp only at hSw);go_simp;(try with_reducible rfl)
 (try simp only [Act.put,List.setIfInBounds_toArray,List.set_cons_zero,List.set_cons_succ])
 refine take_yes (i:=2) (d:=6) (v:=?_) rfl rfl (by kernel_rfl) (by kernel_rfl) (by kernel_rfl) (fun _ _ _ h=>h) (by rfl) ?_ hHeld ?_
 rotate_left
 ·intro wq hSw;(try dsimp only at hSw);go_simp;(try with_reducible rfl)
 (try simp only [Act.put,List.setIfInBounds_toArray,List.set_cons_zero,List.set_cons_succ])
 refine take_yes (i:=3) (d:=7) (v:=?_) rfl rfl (by kernel_rfl) (by kernel_rfl) (by kernel_rfl) (fun _ _ _ h=>h) (by rfl) ?_ hHeld ?_
 rotate_left
 ·intro wq hSw;(try dsimp only at hSw);go_simp;(try with_reducible rfl)
 (try simp only [Act.put,List.setIfInBounds_toArray,List.set_cons_zero,List.set_cons_succ])
 refine take_yes (i:=5) (d:=9) (v:=?_) rfl rfl (by kernel_rfl) (by kernel_rfl) (by kernel_rfl) (fun _ _ _ h=>h) (by rfl) ?_ hHeld ?_
 rotate_left
 ·intro wq hSw;(try dsimp only at hSw);go_simp;(try with_reducible rfl)
 (try simp only [Act.put,List.setIfInBounds_toArray,List.set_cons_zero,List.set_cons_succ])
 refine take_yes (i:=6) (d:=10) (v:=?_) rfl rfl (by kernel_rfl) (by kernel_rfl) (by kernel_rfl) (fun _ _ _ h=>h) (by rfl) ?_ hHeld ?_
 rotate_left
 ·intro wq hSw;(try dsimp only at hSw);go_simp;(try with_reducible rfl)
 (try simp only [Act.put,List.setIfInBounds_toArray,List.set_cons_zero,List.set_cons_succ])
 refine take_yes (i:=7) (d:=11) (v:=?_) rfl rfl (by kernel_rfl) (by kernel_rfl) (by kernel_rfl) (fun _ _ _ h=>h) (by rfl) ?_ hHeld ?_
 rotate_left
 ·intro wq hSw;(try dsimp only at hSw);have q0:=hSw.cell hn hns;go_simp;(try with_reducible rfl)
 (try simp only [Act.put,List.setIfInBounds_toArray,List.set_cons_zero,List.set_cons_succ])
 refine wpAnyH_ready (rs:=[4,8]) (by kernel_rfl) (by simp) ?_
 refine (AllReadyH.cons rfl (fun K' hK=>?_) (AllReadyH.cons rfl (fun K' hK=>?_) AllReadyH.nil))
 ·go_simp
  refine hK.out _ _ ?_ (fun hHeld=>?_)
  ·exact KX.of KD
  clear hK K'
  (try simp only [Act.put,List.setIfInBounds_toArray,List.set_cons_zero,List.set_cons_succ])
  refine wpAnyH_ready (rs:=[8]) (by kernel_rfl) (by simp) ?_
  refine (AllReadyH.cons rfl (fun K' hK=>?_) AllReadyH.nil)
  go_simp
  go_at_call 263
  refine (put_any n hlt _).mono ?_
  rintro e w4 ⟨v4,rfl,hv4,hk4⟩
  obtain ⟨hr4,g4,cap4,rfl,hg4,hg5⟩:=hv4.rdU (enc_len hlt).1
  have K4:Kp w w4:=kp_trans KD hk4
  have c4:=kp_cell hk4 cD
  have f4:=kp_froz hk4 cD fD
  have l4:gw<w4.heap.size:=cell_lt c4
  have HO4:=Lib.hid (HO.out.kp K4)
  have p4:=(K4.block gw lgw).trans HP.out
  have szw4:=Below.size K4
  clear hk4
  refine hK.out _ _ ?_ (fun hHeld=>?_)
  ·exact KX.of K4
  clear hK K'
  (try simp only [Act.put,List.setIfInBounds_toArray,List.set_cons_zero,List.set_cons_succ])
  refine wpAnyH_ready (rs:=[9]) (by kernel_rfl) (by simp) ?_
  refine (AllReadyH.cons rfl (fun K' hK=>?_) AllReadyH.nil)
  refine arm_append_own_at _ _ 74 rfl (gw+1) 5 i0 (.int .u8 0) 1 1 Tryz.underlying74 HI.out HZ0.out HZ1.out HZ2.out rfl (by decide) _ _ _ rfl HO4.out ⟨g4,0,none⟩ (enc n).length cap4 (u8V (enc n)) rfl (by simp [u8V]) hr4.cells (u8V_one _) (by unfold maxLen;omega) (by omega) (by omega) ?_
  intro v' w5 hown hgrow hnil hat
  have HO5:=Lib.hid (OwnU.snoc hown)
  have hvc:v'.cells = #[v']:=by rcases hown.2 with ⟨hv,_⟩ | ⟨g',cap,cur,hv,_⟩ <;> subst hv <;> rfl
  simp only [Value.cells] at hvc
  have hv1:v'.oneCell'=true:=by rcases hown.2 with ⟨hv,_⟩ | ⟨g',cap,cur,hv,_⟩ <;> subst hv <;> rfl
  have hS5:=(KX.of (S:=gw :: u.ownBlock.toList) K4).grown hgrow (fun b hb=>.inl (by simp only [List.mem_cons,Option.mem_toList];exact .inr hb))
  have p5:w5.heap[gw]? = some (.cells #[u] 143 (0,0)):=(hgrow.block gw l4 (fun e=>by have:=HO4.out.lt e.symm;omega)).trans p4
  have c5:w5.cell? ⟨gw,0,none⟩=some u:=by rw [cell_of_row w5 gw _ _ _ _ p5];rfl
  have f5:w5.frozen? ⟨gw,0,none⟩=false:=frozen_of_row w5 gw _ _ _ p5
  have l5:gw<w5.heap.size:=cell_lt c5
  have HL5:=Lib.hid (fun g=>HO5.out.lt (g:=g))
  have hat':v'.ownBlock=u.ownBlock∨v'.ownBlock=some w4.heap.size:=hat
  have HAT:Hid (∀ b,v'.ownBlock=some b→u.ownBlock=some b∨w.heap.size≤b):=Lib.hid (fun b hb=>by rcases hat' with h | h;exact .inl (by rw [← h];exact hb);exact .inr (by rw [h] at hb;simp at hb;omega))
  clear hown hgrow hnil hat hat' HO4 p4 c4 f4 l4 K4 KD cD fD hr4
  refine hK.out _ _ ?_ (fun hHeld=>?_)
  ·exact hS5
  clear hK K'
  (try simp only [Act.put,List.setIfInBounds_toArray,List.set_cons_zero,List.set_cons_succ])
  refine take_yes (i:=10) (d:=14) (v:=?_) rfl rfl (by kernel_rfl) (by kernel_rfl) (by kernel_rfl) (fun _ _ _ h=>h) (by rfl) ?_ hHeld ?_
  rotate_left
  ·intro wq hSw;(try dsimp only at hSw);go_simp;(try with_reducible rfl)
  (try simp only [Act.put,List.setIfInBounds_toArray,List.set_cons_zero,List.set_cons_succ])
  refine take_yes (i:=11) (d:=15) (v:=?_) rfl rfl (by kernel_rfl) (by kernel_rfl) (by kernel_rfl) (fun _ _ _ h=>h) (by rfl) ?_ hHeld ?_
  rotate_left
  ·intro wq hSw;(try dsimp only at hSw);go_simp;(try with_reducible rfl)
  (try simp only [Act.put,List.setIfInBounds_toArray,List.set_cons_zero,List.set_cons_succ])
  refine wpAnyH_ready (rs:=[12]) (by kernel_rfl) (by simp) ?_
  refine (AllReadyH.cons rfl (fun K' hK=>?_) AllReadyH.nil)
  go_simp
  rw [run_store _ _ _ _ _ hv1]
  go_simp
  refine hK.out _ _ ?_ (fun hHeld=>?_)
  ·exact hS5.set (.inl (by simp)) _
  clear hK K'
  (try simp only [Act.put,List.setIfInBounds_toArray,List.set_cons_zero,List.set_cons_succ])
  refine wpAnyH_done (by kernel_rfl) ?_ _
  refine NoPanic.normal ?_
  go_wp2_with fail
  go_end0
  have hK5:KX [gw] w5 (w5.setCell ⟨gw,0,none⟩ v'):=(KX.refl w5).set (.inl (by simp)) _
  refine ⟨rfl,gw :: v'.ownBlock.toList,⟨v',by rw [heap_setCell_same w5 gw _ _ _ _ p5];rfl,HO5.out.kx hK5 (fun b hb=>by have:=HL5.out b hb;simp;omega),rfl⟩,hS5.set (.inl (by simp)) _,?_⟩
  intro b hb
  simp only [List.mem_cons,Option.mem_toList] at hb ⊢
  rcases hb with rfl | hb
  ·exact .inl (.inl rfl)
  ·exact (HAT.out b hb).elim (fun h=>.inl (.inr h)) .inr
 ·go_simp
  go_at_call 263
  refine (put_any n hlt _).mono ?_
  rintro e w4 ⟨v4,rfl,hv4,hk4⟩
  obtain ⟨hr4,g4,cap4,rfl,hg4,hg5⟩:=hv4.rdU (enc_len hlt).1
  have K4:Kp w w4:=kp_trans KD hk4
  have c4:=kp_cell hk4 cD
  have f4:=kp_froz hk4 cD fD
  have l4:gw<w4.heap.size:=cell_lt c4
  have HO4:=Lib.hid (HO.out.kp K4)
  have p4:=(K4.block gw lgw).trans HP.out
  have szw4:=Below.size K4
  clear hk4
  refine hK.out _ _ ?_ (fun hHeld=>?_)
  ·exact KX.of K4
  clear hK K'
  (try simp only [Act.put,List.setIfInBounds_toArray,List.set_cons_zero,List.set_cons_succ])
  refine wpAnyH_ready (rs:=[4]) (by kernel_rfl) (by simp) ?_
  refine (AllReadyH.cons rfl (fun K' hK=>?_) AllReadyH.nil)
  go_simp
  refine hK.out _ _ ?_ (fun hHeld=>?_)
  ·exact KX.of K4
  clear hK K'
  (try simp only [Act.put,List.setIfInBounds_toArray,List.set_cons_zero,List.set_cons_succ])
  refine wpAnyH_ready (rs:=[9]) (by kernel_rfl) (by simp) ?_
  refine (AllReadyH.cons rfl (fun K' hK=>?_) AllReadyH.nil)
  refine arm_append_own_at _ _ 74 rfl (gw+1) 5 i0 (.int .u8 0) 1 1 Tryz.underlying74 HI.out HZ0.out HZ1.out HZ2.out rfl (by decide) _ _ _ rfl HO4.out ⟨g4,0,none⟩ (enc n).length cap4 (u8V (enc n)) rfl (by simp [u8V]) hr4.cells (u8V_one _) (by unfold maxLen;omega) (by omega) (by omega) ?_
  intro v' w5 hown hgrow hnil hat
  have HO5:=Lib.hid (OwnU.snoc hown)
  have hvc:v'.cells = #[v']:=by rcases hown.2 with ⟨hv,_⟩ | ⟨g',cap,cur,hv,_⟩ <;> subst hv <;> rfl
  simp only [Value.cells] at hvc
  have hv1:v'.oneCell'=true:=by rcases hown.2 with ⟨hv,_⟩ | ⟨g',cap,cur,hv,_⟩ <;> subst hv <;> rfl
  have hS5:=(KX.of (S:=gw :: u.ownBlock.toList) K4).grown hgrow (fun b hb=>.inl (by simp only [List.mem_cons,Option.mem_toList];exact .inr hb))
  have p5:w5.heap[gw]? = some (.cells #[u] 143 (0,0)):=(hgrow.block gw l4 (fun e=>by have:=HO4.out.lt e.symm;omega)).trans p4
  have c5:w5.cell? ⟨gw,0,none⟩=some u:=by rw [cell_of_row w5 gw _ _ _ _ p5];rfl
  have f5:w5.frozen? ⟨gw,0,none⟩=false:=frozen_of_row w5 gw _ _ _ p5
  have l5:gw<w5.heap.size:=cell_lt c5
  have HL5:=Lib.hid (fun g=>HO5.out.lt (g:=g))
  have hat':v'.ownBlock=u.ownBlock∨v'.ownBlock=some w4.heap.size:=hat
  have HAT:Hid (∀ b,v'.ownBlock=some b→u.ownBlock=some b∨w.heap.size≤b):=Lib.hid (fun b hb=>by rcases hat' with h | h;exact .inl (by rw [← h];exact hb);exact .inr (by rw [h] at hb;simp at hb;omega))
  clear hown hgrow hnil hat hat' HO4 p4 c4 f4 l4 K4 KD cD fD hr4
  refine hK.out _ _ ?_ (fun hHeld=>?_)
  ·exact hS5
  clear hK K'
  (try simp only [Act.put,List.setIfInBounds_toArray,List.set_cons_zero,List.set_cons_succ])
  refine take_yes (i:=10) (d:=14) (v:=?_) rfl rfl (by kernel_rfl) (by kernel_rfl) (by kernel_rfl) (fun _ _ _ h=>h) (by rfl) ?_ hHeld ?_
  rotate_left
  ·intro wq hSw;(try dsimp only at hSw);go_simp;(try with_reducible rfl)
  (try simp only [Act.put,List.setIfInBounds_toArray,List.set_cons_zero,List.set_cons_succ])
  refine take_yes (i:=11) (d:=15) (v:=?_) rfl rfl (by kernel_rfl) (by kernel_rfl) (by kernel_rfl) (fun _ _ _ h=>h) (by rfl) ?_ hHeld ?_
  rotate_left
  ·intro wq hSw;(try dsimp only at hSw);go_simp;(try with_reducible rfl)
  (try simp only [Act.put,List.setIfInBounds_toArray,List.set_cons_zero,List.set_cons_succ])
  refine wpAnyH_ready (rs:=[12]) (by kernel_rfl) (by simp) ?_
  refine (AllReadyH.cons rfl (fun K' hK=>?_) AllReadyH.nil)
  go_simp
  rw [run_store _ _ _ _ _ hv1]
  go_simp
  refine hK.out _ _ ?_ (fun hHeld=>?_)
  ·exact hS5.set (.inl (by simp)) _
  clear hK K'
  (try simp only [Act.put,List.setIfInBounds_toArray,List.set_cons_zero,List.set_cons_succ])
  refine wpAnyH_done (by kernel_rfl) ?_ _
  refine NoPanic.normal ?_
  go_wp2_with fail
  go_end0
  have hK5:KX [gw] w5 (w5.setCell ⟨gw,0,none⟩ v'):=(KX.refl w5).set (.inl (by simp)) _
  refine ⟨rfl,gw :: v'.ownBlock.toList,⟨v',by rw [heap_setCell_same w5 gw _ _ _ _ p5];rfl,HO5.out.kx hK5 (fun b hb=>by have:=HL5.out b hb;simp;omega),rfl⟩,hS5.set (.inl (by simp)) _,?_⟩
  intro b hb
  simp only [List.mem_cons,Option.mem_toList] at hb ⊢
  rcases hb with rfl | hb
  ·exact .inl (.inl rfl)
  ·exact (HAT.out b hb).elim (fun h=>.inl (.inr h)) .inr
set_option maxHeartbeats 8000000 in
set_option maxRecDepth 100000 in
theorem cw_count (gw n:Nat) (bs:List Int) (S:List Nat) (hlt:n<1048576) (hl:bs.length≤100000) (w:World) (hw:WrB gw bs S w) :
  Calls Tryz.prog 514 #[.pointer (some ⟨gw,0,none⟩),.int .i64 n] w fun e w'=>e=.returned (.int .i64 n)∧WX gw (bs++enc n) S w w':=by
 have hge:=hw.ge
 have lgw:=hw.lt
 have HC:=Lib.hid (fun w' (k:Kp w w') (hc:w'.cell? ⟨w.heap.size,0,none⟩=some (.int .i64 n))=>cw_number gw w.heap.size 0 n bs S hlt hl w' (hw.kp k) hc (fun hm=>by have:=hge _ hm;omega))
 have hgs:w.heap.size∉S:=fun hm=>by have:=hge _ hm;omega
 clear hw hge
 go_enter Tryz.func514,Tryz.ntmps514
 go_wp2_with (go_at_call 516;refine (HC.out _ (kp_alloc (kp_refl _) _) (by simp [go_sem])).mono ?_;rintro e w4 ⟨rfl,h4⟩;have cn:w4.cell? ⟨w.heap.size,0,none⟩=some (.int .i64 n):=(by obtain ⟨S2,a,b,c⟩:=h4;exact b.cell (by simp [go_sem]) hgs);have ln:=cell_lt cn)
 go_ret
 exact ⟨rfl,h4.pre (kp_alloc (kp_refl _) _)⟩
theorem cw_fine (gw:Nat) (w:World) :
  Calls Tryz.prog 515 #[.pointer (some ⟨gw,0,none⟩)] w fun e w'=>e=.returned (.bool true)∧Kp w w':=by
 go_enter Tryz.func515,Tryz.ntmps515
 go_wp2_with fail
 go_ret
 exact ⟨rfl,kp_refl _⟩
set_option maxHeartbeats 8000000 in
set_option maxRecDepth 100000 in
theorem cw_numbers (gw pb po lb m cap:Nat) (bs:List Int) (S:List Nat) (ns:List Nat) (hn:ns.length=m) (hm10:m≤10) (hns:∀ k,k<m→ns.getD k 0<1048576) (hl:bs.length≤90000)
  (w:World) (hw:WrB gw bs S w) (hp:∀ k,k<m→w.cell? ⟨pb,po+k,none⟩=some (.int .i64 (ns.getD k 0:Nat))) (hpS:pb∉S) (hlb:∀ k,k<m→w.cell? ⟨lb,k,none⟩=some (.pointer (some ⟨pb,po+k,none⟩))) (hlS:lb∉S) :
  Calls Tryz.prog 202 #[.iface 141 (.pointer (some ⟨gw,0,none⟩)),.slice (some ⟨lb,0,none⟩) m cap] w fun e w'=>e=.returned (.tuple #[])∧WX gw (bs++encs ns) S w w':=by
 have HN:=Lib.hid hn;have HNS:=Lib.hid hns;have HP:=Lib.hid hp;have HLB:=Lib.hid hlb;have HW:=Lib.hid hw
 have HPS:Hid (pb∉S∧lb∉S):=Lib.hid ⟨hpS,hlS⟩
 have hpl:0<m→pb<w.heap.size∧lb<w.heap.size:=fun h=>⟨cell_lt (hp 0 h),cell_lt (hlb 0 h)⟩
 have HPL:=Lib.hid hpl
 have hmth:=mth_wnumber (some ⟨gw,0,none⟩)
 clear hn hns hp hlb hw hpS hlS hpl
 go_enter Tryz.func202,Tryz.ntmps202
 go_wp2_with fail
 go_loopw [8] (fun i wr=>∃ k:Nat,k≤m∧i=.int .i64 k∧WX gw (bs++encs (ns.take k)) S w wr) (fun i _=>m - (intOf i).toNat)
 case atStart=>exact ⟨0,by omega,rfl,by have h:=WX.refl HW.out (kp_refl _);simpa [encs] using h⟩
 case round =>
  obtain ⟨k,hk,rfl,hwx⟩:=hrel
  by_cases hlt:k<m
  ·have z1:(0:Int)≤(k:Int):=by omega
   have z2:(k:Int)<(m:Int):=by omega
   have wi:IntKind.i64.wrap ((k:Int)+1)=(k:Int)+1:=IntWalk.i64_in _ (by omega)
   obtain ⟨S1,h1,k1,s1⟩:=hwx
   have hlc:=k1.cell (HLB.out k hlt) HPS.out.2
   have hpc:=k1.cell (HP.out k hlt) HPS.out.1
   have llb:=cell_lt hlc
   have hel:(encs (ns.take k)).length≤3 * k:=encs_len HNS.out HN.out (by omega)
   have HC:=Lib.hid (cw_number gw pb (po+k) (ns.getD k 0) (bs++encs (ns.take k)) S1 (HNS.out k hlt) (by simp only [List.length_append];omega) wr h1 hpc (fun hm=>by rcases s1 _ hm with h | h;exact HPS.out.1 h;have:=(HPL.out (by omega)).1;omega))
   have HK1:=Lib.hid k1;have HS1:=Lib.hid s1
   clear h1 k1 s1 hpc hel
   go_wp2_with (go_at_call 516;refine HC.out.mono ?_;rintro e w2 ⟨rfl,h2⟩)
   refine ⟨⟨k+1,by omega,by go_num,?_⟩,by simp [intOf];omega⟩
   rw [encs_take ns (by rw [HN.out];exact hlt),← List.append_assoc]
   exact WX.trans HK1.out HS1.out h2
  ·obtain rfl:k=m:=by omega
   have z2:¬ (k:Int)<(k:Int):=by omega
   have e1:ns.take k=ns:=List.take_of_length_le (by rw [HN.out];exact Nat.le_refl _)
   rw [e1] at hwx
   have HX:=Lib.hid hwx
   clear hwx e1
   go_wp2_with fail
   go_end0
   exact ⟨rfl,HX.out⟩
end Go.Proofs.YtgliljnbajohhaaGreatDoor
namespace Go.Proofs.YtgliljnbajohhaaGreatDoor
open Go.RowKit Go.Proofs.Top Go.Proofs.Geo
def encL {α:Type} (f:α→List Int) (l:List α):List Int:=(l.map f).flatten
theorem take_snoc {α:Type} {l:List α} {k:Nat} {a:α} (h:l[k]? = some a):l.take (k+1)=l.take k++[a]:=by
 obtain ⟨hk,e⟩:=List.getElem?_eq_some_iff.1 h
 rw [List.take_succ_eq_append_getElem hk,e]
theorem encL_snoc {α:Type} (f:α→List Int) {l:List α} {k:Nat} {a:α} (h:l[k]? = some a):encL f (l.take (k+1))=encL f (l.take k)++f a:=by
 unfold encL
 rw [take_snoc h]
 simp
theorem encL_split {α:Type} (f:α→List Int) {l:List α} {k:Nat} {a:α} (h:l[k]? = some a):encL f l=encL f (l.take k)++(f a++encL f (l.drop (k+1))):=by
 have e:l=l.take (k+1)++l.drop (k+1):=(List.take_append_drop _ _).symm
 have h1:encL f l=encL f (l.take (k+1))++encL f (l.drop (k+1)):=by
  conv=>lhs;rw [e]
  unfold encL
  rw [List.map_append,List.flatten_append]
 rw [h1,encL_snoc f h,List.append_assoc]
structure ItemLaw {α:Type} (I:World→List Nat→List Value→α→Prop):Prop where
 keep:∀ {w w':World} {bl:List Nat} {c:List Value} {a:α},I w bl c a→(∀ b∈bl,w'.heap[b]? = w.heap[b]?)→I w' bl c a
 mono:∀ {w:World} {bl bl':List Nat} {c:List Value} {a:α},I w bl c a→(∀ b∈bl,b∈bl')→I w bl' c a
def ListIs {α:Type} (I:World→List Nat→List Value→α→Prop) (e:TypeId) (size B:Nat) (w:World) (bl:List Nat) (u:Value) (l:List α):Prop :=
 ∃ css:List (List Value),css.length=l.length∧(∀ (k:Nat) (c:List Value) (a:α),css[k]? = some c→l[k]? = some a→I w bl c a)∧w.ownsRow B e size u l.length css.flatten∧∀ b∈bl,B≤b∧b<w.heap.size∧u.ownBlock≠some b
section
variable {α:Type} {I:World→List Nat→List Value→α→Prop} {e:TypeId} {size B:Nat} {w w':World} {bl:List Nat} {u:Value} {l:List α}
theorem ListIs.nil (w:World):ListIs I e size B w [] (.slice none 0 0) []:=⟨[],rfl,by simp,World.ownsRow_nil _ _ _ _,by simp⟩
theorem ownsRow_kx {S:List Nat} {n:Nat} {xs:List Value} (h:w.ownsRow B e size u n xs) (k:KX S w w') (hs:∀ g,u.ownBlock=some g→g∉S):w'.ownsRow B e size u n xs:=by
 obtain ⟨h1,⟨hv,hn⟩ | ⟨g,cap,cur,hv,hb,hg,rest⟩⟩:=h
 ·exact ⟨h1,.inl ⟨hv,hn⟩⟩
 ·exact ⟨h1,.inr ⟨g,cap,cur,hv,hb,k.row hg (hs g (by rw [hv];rfl)),rest⟩⟩
theorem ownsRow_mono {B':Nat} {n:Nat} {xs:List Value} (h:w.ownsRow B e size u n xs) (hB:B'≤B):w.ownsRow B' e size u n xs:=by
 obtain ⟨h1,h2⟩:=h
 refine ⟨h1,?_⟩
 rcases h2 with h2 | ⟨g,cap,cur,a,b,c⟩
 ·exact .inl h2
 ·exact .inr ⟨g,cap,cur,a,Nat.le_trans hB b,c⟩
theorem ownsRow_slice {n:Nat} {xs:List Value} (h:w.ownsRow B e size u n xs):∃ p c,u=.slice p n c:=by
 obtain ⟨h1,⟨hv,hn⟩ | ⟨g,cap,cur,hv,_⟩⟩:=h
 ·subst hn;exact ⟨none,0,hv⟩
 ·exact ⟨_,cap,hv⟩
theorem ListIs.kx (L:ItemLaw I) {S:List Nat} (h:ListIs I e size B w bl u l) (k:KX S w w') (hs:∀ b∈S,b<B):ListIs I e size B w' bl u l:=by
 obtain ⟨css,hcl,hci,how,hbb⟩:=h
 refine ⟨css,hcl,fun j c a hc ha=>L.keep (hci j c a hc ha) fun b hb=>?_,?_,fun b hb=>⟨(hbb b hb).1,Nat.lt_of_lt_of_le (hbb b hb).2.1 k.size,(hbb b hb).2.2⟩⟩
 ·exact k.block b (hbb b hb).2.1 fun hm=>by have:=hs b hm;have:=(hbb b hb).1;omega
 ·exact ownsRow_kx how k fun g hg hm=>by have:=hs g hm;have:=(World.ownsRow.lt how g hg).1;omega
theorem ListIs.kp (L:ItemLaw I) (h:ListIs I e size B w bl u l) (k:Kp w w'):ListIs I e size B w' bl u l:=h.kx L (S:=[]) (.of k) (by simp)
theorem ListIs.mono {B':Nat} (h:ListIs I e size B w bl u l) (hB:B'≤B):ListIs I e size B' w bl u l:=by
 obtain ⟨css,hcl,hci,how,hbb⟩:=h
 exact ⟨css,hcl,hci,ownsRow_mono how hB,fun b hb=>⟨Nat.le_trans hB (hbb b hb).1,(hbb b hb).2⟩⟩
theorem ListIs.lt (h:ListIs I e size B w bl u l):∀ b,u.ownBlock=some b→B≤b∧b<w.heap.size:=by
 obtain ⟨css,hcl,hci,how,hbb⟩:=h
 exact World.ownsRow.lt how
theorem ListIs.slice (h:ListIs I e size B w bl u l):∃ p c,u=.slice p l.length c:=by
 obtain ⟨css,hcl,hci,how,hbb⟩:=h
 exact ownsRow_slice how
theorem ListIs.keep (L:ItemLaw I) (h:ListIs I e size B w bl u l) (hs:∀ b,b∈bl∨u.ownBlock=some b→w'.heap[b]? = w.heap[b]?):ListIs I e size B w' bl u l:=by
 obtain ⟨css,hcl,hci,how,hbb⟩:=h
 refine ⟨css,hcl,fun j c a hc ha=>L.keep (hci j c a hc ha) fun b hb=>hs b (.inl hb),?_,fun b hb=>⟨(hbb b hb).1,?_,(hbb b hb).2.2⟩⟩
 ·obtain ⟨h1,⟨hv,hn⟩ | ⟨g,cap,cur,hv,hb,hg,rest⟩⟩:=how
  ·exact ⟨h1,.inl ⟨hv,hn⟩⟩
  ·exact ⟨h1,.inr ⟨g,cap,cur,hv,hb,(hs g (.inr (by rw [hv];rfl))).trans hg,rest⟩⟩
 ·have e1:=hs b (.inl hb)
  rw [Array.getElem?_eq_getElem (hbb b hb).2.1] at e1
  exact (Array.getElem?_eq_some_iff.1 e1).1
theorem ListIs.snoc (L:ItemLaw I) {bl2:List Nat} {v':Value} {a:α} {c:List Value} {css:List (List Value)}
  (hcl:css.length=l.length) (hci:∀ (k:Nat) (c:List Value) (a:α),css[k]? = some c→l[k]? = some a→I w bl c a) (hbb:∀ b∈bl,B≤b∧b<w.heap.size∧u.ownBlock≠some b)
  (hI:I w bl2 c a) (hb2:∀ b∈bl2,B≤b∧b<w.heap.size∧u.ownBlock≠some b)
  (hg:w.grownBy w' u.ownBlock) (hat:v'.ownBlock=u.ownBlock∨v'.ownBlock=some w.heap.size)
  (hown:w'.ownsRow B e size v' (l.length+1) (css.flatten++c)):ListIs I e size B w' (bl++bl2) v' (l++[a]):=by
 have hall:∀ b∈bl++bl2,B≤b∧b<w.heap.size∧u.ownBlock≠some b:=fun b hb=>(List.mem_append.1 hb).elim (hbb b) (hb2 b)
 have hkeep:∀ b∈bl++bl2,w'.heap[b]? = w.heap[b]?:=fun b hb=>hg.block b (hall b hb).2.1 (fun e=>(hall b hb).2.2 e.symm)
 refine ⟨css++[c],by simp [hcl],?_,by simpa using hown,fun b hb=>⟨(hall b hb).1,Nat.lt_of_lt_of_le (hall b hb).2.1 hg.size,?_⟩⟩
 ·intro k c' a' hc ha
  by_cases hk:k<css.length
  ·rw [List.getElem?_append_left hk] at hc
   rw [List.getElem?_append_left (by omega)] at ha
   exact L.keep (L.mono (hci k c' a' hc ha) fun b hb=>List.mem_append_left _ hb) hkeep
  ·have hk2:k<(css++[c]).length:=(List.getElem?_eq_some_iff.1 hc).1
   have e1:k=css.length:=by simp at hk2;omega
   subst e1
   rw [List.getElem?_append_right (Nat.le_refl _)] at hc
   rw [List.getElem?_append_right (by omega)] at ha
   simp at hc
   rw [hcl] at ha
   simp at ha
   subst hc;subst ha
   exact L.keep (L.mono hI fun b hb=>List.mem_append_right _ hb) hkeep
 ·rcases hat with h | h
  ·rw [h];exact (hall b hb).2.2
  ·rw [h];intro e1;simp at e1;have:=(hall b hb).2.1;omega
end
theorem cells_new (w:World) (cs:List Value) (t:TypeId):∀ j u,cs[j]? = some u→(w.alloc (.cells cs.toArray t)).cell? ((⟨w.heap.size,0,none⟩:Addr).add j)=some u:=by
 intro j u hj
 have e:(⟨w.heap.size,0,none⟩:Addr).add j=⟨w.heap.size,j,none⟩:=by rw [add_off,Nat.zero_add]
 rw [e,cell_of_row _ _ _ _ _ _ (heap_alloc_new w _)]
 simpa using hj
def ItemC {α:Type} (F:Nat) (T:TypeId) (Z:Array Value) (gr g:Nat) (v:Value) (bs:List Int) (I:World→List Nat→List Value→α→Prop) (encI:α→List Int) (a:α):Prop :=
 ∀ (px:Nat) (pr po:List Int) (w:World),RdU w v bs→bs=pr++(encI a++po)→RdrB g v pr.length w→(∀ b off n c,v=.slice (some ⟨b,off,none⟩) n c→b≠g∧b≠px) →
  w.cell? ⟨gr,0,none⟩=some (.pointer (some ⟨g,0,none⟩))→w.heap[px]? = some (.cells Z T (0,0))→px≠g→(gr≠g∧gr≠px) →
  Calls Tryz.prog F #[.iface 146 (.pointer (some ⟨gr,0,none⟩)),.pointer (some ⟨px,0,none⟩)] w fun e w' =>
   e=.returned (.tuple #[])∧RdrB g v (pr++encI a).length w'∧(∃ c bl,w'.heap[px]? = some (.cells c.toArray T (0,0))∧I w' bl c a∧∀ b∈bl,w.heap.size≤b∧b<w'.heap.size)∧KX [g,px] w w'
end Go.Proofs.YtgliljnbajohhaaGreatDoor
