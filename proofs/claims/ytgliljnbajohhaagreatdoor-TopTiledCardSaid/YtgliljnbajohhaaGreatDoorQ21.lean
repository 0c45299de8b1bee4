import Derived.Test.YtgliljnbajohhaaGreatDoorQ20
import Derived.RegionTactic
import Derived.BigRegion
set_option linter.unusedVariables false
set_option linter.unusedSimpArgs false
namespace Go.Proofs.YtgliljnbajohhaaGreatDoor
open Go.RowKit Go.Proofs.Top Go.Proofs.Geo
def RowT (g:Nat) (L:List Int) (w:World):Prop:=∃ cur,w.heap[g]? = some (.cells cur 3 (0,0))∧∀ j,j<L.length→cur[j]? = some (.int .i64 (L.getD j 0))
section
variable {g:Nat} {L:List Int} {w w':World}
theorem RowT.cell (h:RowT g L w) {i:Nat} (hi:i<L.length):w.cell? ⟨g,i,none⟩=some (.int .i64 (L.getD i 0)):=by
 obtain ⟨cur,hg,hc⟩:=h
 rw [cell_of_row w g _ _ _ _ hg];exact hc i hi
theorem RowT.froz (h:RowT g L w) (o:Nat):w.frozen? ⟨g,o,none⟩=false:=by obtain ⟨cur,hg,hc⟩:=h;exact frozen_of_row w g o _ _ hg
theorem RowT.kx {S:List Nat} (h:RowT g L w) (k:KX S w w') (hn:g∉S):RowT g L w':=by obtain ⟨cur,hg,hc⟩:=h;exact ⟨cur,k.row hg hn,hc⟩
theorem RowT.kp (h:RowT g L w) (k:Kp w w'):RowT g L w':=h.kx (S:=[]) (.of k) (by simp)
theorem RowT.set (h:RowT g L w) (i:Nat) (v:Int):RowT g (L.set i v) (w.setCell ⟨g,i,none⟩ (.int .i64 v)):=by
 obtain ⟨cur,hg,hc⟩:=h
 refine ⟨cur.setIfInBounds i (.int .i64 v),heap_setCell_same w g i cur _ _ hg,fun j hj=>?_⟩
 rw [List.length_set] at hj
 have h1:=hc j hj
 have hjs:j<cur.size:=(Array.getElem?_eq_some_iff.1 h1).1
 rw [Array.getElem?_setIfInBounds,List.getD_eq_getElem?_getD,List.getElem?_set]
 by_cases e:i=j
 ·subst e
  simp [hjs,hj]
 ·simp only [e,if_false]
  rw [h1,List.getD_eq_getElem?_getD]
end
theorem set_mid (P M S:List Int) (j:Nat) (v:Int) (h:j<M.length):(P++M++S).set (P.length+j) v=P++M.set j v++S:=by
 rw [List.append_assoc,List.set_append_right _ _ (by omega),Nat.add_sub_cancel_left,List.set_append_left _ _ h,List.append_assoc]
theorem get_mid (P M S:List Int) (j:Nat) (h:j<M.length):(P++M++S).getD (P.length+j) 0=M.getD j 0:=by
 simp only [List.getD_eq_getElem?_getD]
 rw [List.append_assoc,List.getElem?_append_right (by omega),Nat.add_sub_cancel_left,List.getElem?_append_left h]
theorem swap_perm (M:List Int) (j:Nat) (h:j+1<M.length):((M.set (j+1) (M.getD j 0)).set j (M.getD (j+1) 0)).Perm M:=by
 have h1:M.getD j 0=M[j]:=by rw [List.getD_eq_getElem?_getD,List.getElem?_eq_getElem (by omega)];rfl
 have h2:M.getD (j+1) 0=M[j+1]:=by rw [List.getD_eq_getElem?_getD,List.getElem?_eq_getElem h];rfl
 rw [h1,h2]
 exact List.set_set_perm (by omega) (by omega)
structure PcW (pt pa tb gl n cap:Nat) (l:List Bx) (across:Bool) (w:World):Prop where
 pt:w.cell? ⟨pt,0,none⟩=some (.pointer (some ⟨tb,0,none⟩))
 pa:w.cell? ⟨pa,0,none⟩=some (.bool across)
 tl:w.cell? ⟨tb,1,none⟩=some (.slice (some ⟨gl,0,none⟩) n cap)
 b:BxAt w gl l
section
variable {pt pa tb gl n cap:Nat} {l:List Bx} {across:Bool} {w w':World}
theorem PcW.kx {S:List Nat} (h:PcW pt pa tb gl n cap l across w) (k:KX S w w') (hs:pt∉S∧pa∉S∧tb∉S∧gl∉S):PcW pt pa tb gl n cap l across w' :=
 ⟨k.cell h.pt hs.1,k.cell h.pa hs.2.1,k.cell h.tl hs.2.2.1,h.b.kx k hs.2.2.2⟩
end
def Plc (n:Nat) (M:List Int):Prop:=∀ k,k<M.length→∃ i:Nat,M.getD k 0=i∧i<n
theorem Plc.mem {n:Nat} {M:List Int} (h:Plc n M):∀ x∈M,∃ i:Nat,x=i∧i<n:=by
 intro x hx
 obtain ⟨k,hk,e⟩:=List.mem_iff_getElem.1 hx
 obtain ⟨i,h1,h2⟩:=h k hk
 rw [List.getD_eq_getElem?_getD,List.getElem?_eq_getElem hk,e] at h1
 exact ⟨i,h1,h2⟩
theorem plc_mem {n:Nat} {M:List Int} (h:∀ x∈M,∃ i:Nat,x=i∧i<n):Plc n M:=by
 intro k hk
 rw [List.getD_eq_getElem?_getD,List.getElem?_eq_getElem hk]
 exact h _ (List.getElem_mem hk)
theorem Plc.perm {n:Nat} {M M':List Int} (h:Plc n M) (p:M'.Perm M):Plc n M':=plc_mem fun x hx=>h.mem x (p.mem_iff.1 hx)
set_option maxHeartbeats 8000000 in
set_option maxRecDepth 100000 in
theorem ins_any (pt pa tb gl n cap:Nat) (l:List Bx) (across:Bool) (hln:l.length=n) (hn:n≤1000) (hok:∀ x∈l,BxOk x) (go cp m fr:Nat) (P M S:List Int) (w:World) (hw:PcW pt pa tb gl n cap l across w)
  (hr:RowT go (P++M++S) w) (hM:M.length=m) (hP:P.length=fr) (hm:m≤12) (hpl:Plc n M) (hne:pt≠go∧pa≠go∧tb≠go∧gl≠go) :
  Calls Tryz.prog 300 #[.slice (some ⟨go,fr,none⟩) m cp,.int .i64 0,.int .i64 m,.func (.func 221) #[] #[.pointer (some ⟨pt,0,none⟩),.pointer (some ⟨pa,0,none⟩)]] w fun e w' =>
   e=.returned (.tuple #[])∧∃ M',RowT go (P++M'++S) w'∧M'.Perm M∧KX [go] w w':=by
 have hns:pt∉[go]∧pa∉[go]∧tb∉[go]∧gl∉[go]:=by simp;exact hne
 have HC:=Lib.hid (fun W i j (k:KX [go] w W) (hi:i<n) (hj:j<n)=>pcmp_any pt pa tb gl n cap l across i j W hln hn hok hi hj (hw.kx k hns).pt (hw.kx k hns).pa (hw.kx k hns).tl (hw.kx k hns).b)
 have HR:=Lib.hid hr;have HM:=Lib.hid hM;have HP:=Lib.hid hP;have HPL:=Lib.hid hpl
 clear hln hok hw hr hM hP hpl hns
 go_enter Tryz.func300,Tryz.ntmps300
 go_wp2_with fail
 go_loopw [8] (fun i wr=>∃ (k:Nat) (M':List Int),i=.int .i64 k∧1≤k∧(m≤k→k≤m+1)∧RowT go (P++M'++S) wr∧M'.Perm M∧KX [go] w wr) (fun i _=>m+1 - (intOf i).toNat)
 case atStart=>exact ⟨1,M,rfl,by omega,by omega,HR.out,List.Perm.refl _,KX.refl _⟩
 case round =>
  obtain ⟨k,M',rfl,hk1,hk2,hrow,hperm,hkx⟩:=hrel
  by_cases hlt:k<m
  ·have z1:(k:Int)<(m:Int):=by omega
   have wi:IntKind.i64.wrap ((k:Int)+1)=(k:Int)+1:=IntWalk.i64_in _ (by omega)
   have HROW:=Lib.hid hrow;have HPERM:=Lib.hid hperm;have HKX:=Lib.hid hkx
   clear hrow hperm hkx
   go_wp2_with fail
   go_loopw [9] (fun j wr=>∃ (q:Nat) (M':List Int),q≤k∧j=.int .i64 q∧RowT go (P++M'++S) wr∧M'.Perm M∧KX [go] w wr) (fun j _=>(intOf j).toNat)
   case atStart=>exact ⟨k,M',Nat.le_refl _,rfl,HROW.out,HPERM.out,HKX.out⟩
   case round =>
    obtain ⟨q,M2,hq,rfl,hrow,hperm,hkx⟩:=hrel
    cases q with
    | zero =>
     have HROW2:=Lib.hid hrow;have HPERM2:=Lib.hid hperm;have HKX2:=Lib.hid hkx
     have c4:¬ (0:Int)<0:=by omega
     clear hrow hperm hkx
     go_upto_region 4 with fail
     refine wp_region_noPanic ?_
     refine wp_region_held_drew (S:=fun w'=>Kp wr w') (by kernel_rfl) ?_ (fun hHeld=>?_)
     ·exact kp_drew (kp_refl _)
     refine take_yes (i:=0) (d:=18) (v:=?_) rfl rfl (by kernel_rfl) (by kernel_rfl) (by kernel_rfl) (fun _ _ _ h=>h) (by rfl) ?_ hHeld ?_
     rotate_left
     ·intro wq hSw;(try dsimp only at hSw);go_simp;(try with_reducible rfl)
     (try simp only [Act.put,List.setIfInBounds_toArray,List.set_cons_zero,List.set_cons_succ])
     refine take_yes (i:=1) (d:=19) (v:=?_) rfl rfl (by kernel_rfl) (by kernel_rfl) (by kernel_rfl) (fun _ _ _ h=>h) (by rfl) ?_ hHeld ?_
     rotate_left
     ·intro wq hSw;(try dsimp only at hSw);go_simp;(try with_reducible rfl)
     (try simp only [Act.put,List.setIfInBounds_toArray,List.set_cons_zero,List.set_cons_succ])
     refine take_yes (i:=2) (d:=20) (v:=?_) rfl rfl (by kernel_rfl) (by kernel_rfl) (by kernel_rfl) (fun _ _ _ h=>h) (by rfl) ?_ hHeld ?_
     rotate_left
     ·intro wq hSw;(try dsimp only at hSw);go_simp;(try with_reducible rfl)
     (try simp only [Act.put,List.setIfInBounds_toArray,List.set_cons_zero,List.set_cons_succ])
     refine take_yes (i:=3) (d:=21) (v:=?_) rfl rfl (by kernel_rfl) (by kernel_rfl) (by kernel_rfl) (fun _ _ _ h=>h) (by rfl) ?_ hHeld ?_
     rotate_left
     ·intro wq hSw;(try dsimp only at hSw);go_simp;(try with_reducible rfl)
     (try simp only [Act.put,List.setIfInBounds_toArray,List.set_cons_zero,List.set_cons_succ])
     refine take_no (i:=4) (d:=22) rfl rfl (by kernel_rfl) (by kernel_rfl) (by kernel_rfl) (fun _ _ _ h=>h) (by rfl) hHeld ?_
     (try simp only [Act.put,List.setIfInBounds_toArray,List.set_cons_zero,List.set_cons_succ])
     refine take_no (i:=5) (d:=23) rfl rfl (by kernel_rfl) (by kernel_rfl) (by kernel_rfl) (fun _ _ _ h=>h) (by rfl) hHeld ?_
     (try simp only [Act.put,List.setIfInBounds_toArray,List.set_cons_zero,List.set_cons_succ])
     refine take_no (i:=6) (d:=24) rfl rfl (by kernel_rfl) (by kernel_rfl) (by kernel_rfl) (fun _ _ _ h=>h) (by rfl) hHeld ?_
     (try simp only [Act.put,List.setIfInBounds_toArray,List.set_cons_zero,List.set_cons_succ])
     refine take_no (i:=7) (d:=25) rfl rfl (by kernel_rfl) (by kernel_rfl) (by kernel_rfl) (fun _ _ _ h=>h) (by rfl) hHeld ?_
     (try simp only [Act.put,List.setIfInBounds_toArray,List.set_cons_zero,List.set_cons_succ])
     refine take_no (i:=8) (d:=26) rfl rfl (by kernel_rfl) (by kernel_rfl) (by kernel_rfl) (fun _ _ _ h=>h) (by rfl) hHeld ?_
     (try simp only [Act.put,List.setIfInBounds_toArray,List.set_cons_zero,List.set_cons_succ])
     refine take_no (i:=9) (d:=27) rfl rfl (by kernel_rfl) (by kernel_rfl) (by kernel_rfl) (fun _ _ _ h=>h) (by rfl) hHeld ?_
     (try simp only [Act.put,List.setIfInBounds_toArray,List.set_cons_zero,List.set_cons_succ])
     refine take_no (i:=10) (d:=28) rfl rfl (by kernel_rfl) (by kernel_rfl) (by kernel_rfl) (fun _ _ _ h=>h) (by rfl) hHeld ?_
     (try simp only [Act.put,List.setIfInBounds_toArray,List.set_cons_zero,List.set_cons_succ])
     refine take_no (i:=11) (d:=29) rfl rfl (by kernel_rfl) (by kernel_rfl) (by kernel_rfl) (fun _ _ _ h=>h) (by rfl) hHeld ?_
     (try simp only [Act.put,List.setIfInBounds_toArray,List.set_cons_zero,List.set_cons_succ])
     refine take_no (i:=12) (d:=30) rfl rfl (by kernel_rfl) (by kernel_rfl) (by kernel_rfl) (fun _ _ _ h=>h) (by rfl) hHeld ?_
     (try simp only [Act.put,List.setIfInBounds_toArray,List.set_cons_zero,List.set_cons_succ])
     refine take_no (i:=13) (d:=31) rfl rfl (by kernel_rfl) (by kernel_rfl) (by kernel_rfl) (fun _ _ _ h=>h) (by rfl) hHeld ?_
     (try simp only [Act.put,List.setIfInBounds_toArray,List.set_cons_zero,List.set_cons_succ])
     refine take_no (i:=14) (d:=32) rfl rfl (by kernel_rfl) (by kernel_rfl) (by kernel_rfl) (fun _ _ _ h=>h) (by rfl) hHeld ?_
     (try simp only [Act.put,List.setIfInBounds_toArray,List.set_cons_zero,List.set_cons_succ])
     refine take_no (i:=15) (d:=33) rfl rfl (by kernel_rfl) (by kernel_rfl) (by kernel_rfl) (fun _ _ _ h=>h) (by rfl) hHeld ?_
     (try simp only [Act.put,List.setIfInBounds_toArray,List.set_cons_zero,List.set_cons_succ])
     refine take_yes (i:=16) (d:=34) (v:=?_) rfl rfl (by kernel_rfl) (by kernel_rfl) (by kernel_rfl) (fun _ _ _ h=>h) (by rfl) ?_ hHeld ?_
     rotate_left
     ·intro wq hSw;(try dsimp only at hSw);go_simp;(try with_reducible rfl)
     (try simp only [Act.put,List.setIfInBounds_toArray,List.set_cons_zero,List.set_cons_succ])
     refine wpAnyH_done (by kernel_rfl) ?_ _
     refine NoPanic.normal ?_
     go_wp2_with fail
     exact ⟨⟨k+1,M2,by go_num,by omega,by omega,HROW2.out.kp hHeld,HPERM2.out,HKX2.out.kp hHeld⟩,by simp [intOf];omega⟩
    | succ j =>
     have hM2:M2.length=m:=hperm.length_eq.trans HM.out
     have hpl2:=HPL.out.perm hperm
     obtain ⟨a,ha,han⟩:=hpl2 (j+1) (by omega)
     obtain ⟨b,hb,hbn⟩:=hpl2 j (by omega)
     have g1:=hrow.cell (i:=fr+(j+1)) (by simp only [List.length_append,List.length_set,HP.out,hM2];omega)
     have g2:=hrow.cell (i:=fr+j) (by simp only [List.length_append,List.length_set,HP.out,hM2];omega)
     rw [← HP.out,get_mid _ _ _ _ (by omega)] at g1 g2
     rw [HP.out,ha] at g1
     rw [HP.out,hb] at g2
     have lg:=cell_lt g1
     have c1:(0:Int)≤(j:Int):=by omega
     have c2:(j:Int)<(m:Int):=by omega
     have c3:(j:Int)+1<(m:Int):=by omega
     have c4:(0:Int)<(j:Int)+1:=by omega
     have c5:(0:Int)≤(j:Int)+1:=by omega
     have wj:IntKind.i64.wrap ((j:Int)+1 - 1)=(j:Int):=by rw [IntWalk.i64_in _ (by omega)];omega
     have wj2:IntKind.i64.wrap (j:Int)=(j:Int):=IntWalk.i64_in _ (by omega)
     have CV:=Lib.hid (fun W (k2:Kp wr W)=>HC.out W a b (hkx.kp k2) han hbn)
     have HROW2:=Lib.hid hrow;have HPERM2:=Lib.hid hperm;have HKX2:=Lib.hid hkx
     have HA:=Lib.hid ha;have HB:=Lib.hid hb
     clear hrow hperm hkx hpl2 ha hb
     go_upto_region 4 with fail
     refine wp_region_noPanic ?_
     refine wp_region_held_drew (S:=fun w'=>Kp wr w') (by kernel_rfl) ?_ (fun hHeld=>?_)
     ·exact kp_drew (kp_refl _)
     refine take_yes (i:=0) (d:=18) (v:=?_) rfl rfl (by kernel_rfl) (by kernel_rfl) (by kernel_rfl) (fun _ _ _ h=>h) (by rfl) ?_ hHeld ?_
     rotate_left
     ·intro wq hSw;(try dsimp only at hSw);go_simp;(try with_reducible rfl)
     (try simp only [Act.put,List.setIfInBounds_toArray,List.set_cons_zero,List.set_cons_succ])
     refine take_yes (i:=1) (d:=19) (v:=?_) rfl rfl (by kernel_rfl) (by kernel_rfl) (by kernel_rfl) (fun _ _ _ h=>h) (by rfl) ?_ hHeld ?_
     rotate_left
     ·intro wq hSw;(try dsimp only at hSw);go_simp;(try with_reducible rfl)
     (try simp only [Act.put,List.setIfInBounds_toArray,List.set_cons_zero,List.set_cons_succ])
     refine take_yes (i:=2) (d:=20) (v:=?_) rfl rfl (by kernel_rfl) (by kernel_rfl) (by kernel_rfl) (fun _ _ _ h=>h) (by rfl) ?_ hHeld ?_
     rotate_left
     ·intro wq hSw;(try dsimp only at hSw);go_simp;(try with_reducible rfl)
     (try simp only [Act.put,List.setIfInBounds_toArray,List.set_cons_zero,List.set_cons_succ])
     refine take_yes (i:=3) (d:=21) (v:=?_) rfl rfl (by kernel_rfl) (by kernel_rfl) (by kernel_rfl) (fun _ _ _ h=>h) (by rfl) ?_ hHeld ?_
     rotate_left
     ·intro wq hSw;(try dsimp only at hSw);go_simp;(try with_reducible rfl)
     (try simp only [Act.put,List.setIfInBounds_toArray,List.set_cons_zero,List.set_cons_succ])
     refine take_yes (i:=4) (d:=22) (v:=?_) rfl rfl (by kernel_rfl) (by kernel_rfl) (by kernel_rfl) (fun _ _ _ h=>h) (by rfl) ?_ hHeld ?_
     rotate_left
     ·intro wq hSw;(try dsimp only at hSw);go_simp;(try with_reducible rfl)
     (try simp only [Act.put,List.setIfInBounds_toArray,List.set_cons_zero,List.set_cons_succ])
     refine take_yes (i:=5) (d:=23) (v:=?_) rfl rfl (by kernel_rfl) (by kernel_rfl) (by kernel_rfl) (fun _ _ _ h=>h) (by rfl) ?_ hHeld ?_
     rotate_left
     ·intro wq hSw;(try dsimp only at hSw);go_simp;(try with_reducible rfl)
     (try simp only [Act.put,List.setIfInBounds_toArray,List.set_cons_zero,List.set_cons_succ])
     refine take_yes (i:=6) (d:=24) (v:=?_) rfl rfl (by kernel_rfl) (by kernel_rfl) (by kernel_rfl) (fun _ _ _ h=>h) (by rfl) ?_ hHeld ?_
     rotate_left
     ·intro wq hSw;(try dsimp only at hSw);go_simp;(try with_reducible rfl)
     (try simp only [Act.put,List.setIfInBounds_toArray,List.set_cons_zero,List.set_cons_succ])
     refine take_yes (i:=7) (d:=25) (v:=?_) rfl rfl (by kernel_rfl) (by kernel_rfl) (by kernel_rfl) (fun _ _ _ h=>h) (by rfl) ?_ hHeld ?_
     rotate_left
     ·intro wq hSw;(try dsimp only at hSw);go_simp;(try with_reducible rfl)
     (try simp only [Act.put,List.setIfInBounds_toArray,List.set_cons_zero,List.set_cons_succ])
     refine take_yes (i:=8) (d:=26) (v:=?_) rfl rfl (by kernel_rfl) (by kernel_rfl) (by kernel_rfl) (fun _ _ _ h=>h) (by rfl) ?_ hHeld ?_
     rotate_left
     ·intro wq hSw;(try dsimp only at hSw);have q0:=kp_cell hSw g1;have q1:=kp_cell hSw g2;go_simp;(try with_reducible rfl)
     (try simp only [Act.put,List.setIfInBounds_toArray,List.set_cons_zero,List.set_cons_succ])
     refine take_yes (i:=9) (d:=27) (v:=?_) rfl rfl (by kernel_rfl) (by kernel_rfl) (by kernel_rfl) (fun _ _ _ h=>h) (by rfl) ?_ hHeld ?_
     rotate_left
     ·intro wq hSw;(try dsimp only at hSw);go_simp;(try with_reducible rfl)
     (try simp only [Act.put,List.setIfInBounds_toArray,List.set_cons_zero,List.set_cons_succ])
     refine take_yes (i:=10) (d:=28) (v:=?_) rfl rfl (by kernel_rfl) (by kernel_rfl) (by kernel_rfl) (fun _ _ _ h=>h) (by rfl) ?_ hHeld ?_
     rotate_left
     ·intro wq hSw;(try dsimp only at hSw);go_simp;(try with_reducible rfl)
     (try simp only [Act.put,List.setIfInBounds_toArray,List.set_cons_zero,List.set_cons_succ])
     refine take_yes (i:=11) (d:=29) (v:=?_) rfl rfl (by kernel_rfl) (by kernel_rfl) (by kernel_rfl) (fun _ _ _ h=>h) (by rfl) ?_ hHeld ?_
     rotate_left
     ·intro wq hSw;(try dsimp only at hSw);go_simp;(try with_reducible rfl)
     (try simp only [Act.put,List.setIfInBounds_toArray,List.set_cons_zero,List.set_cons_succ])
     refine take_yes (i:=12) (d:=30) (v:=?_) rfl rfl (by kernel_rfl) (by kernel_rfl) (by kernel_rfl) (fun _ _ _ h=>h) (by rfl) ?_ hHeld ?_
     rotate_left
     ·intro wq hSw;(try dsimp only at hSw);go_simp;(try with_reducible rfl)
     (try simp only [Act.put,List.setIfInBounds_toArray,List.set_cons_zero,List.set_cons_succ])
     refine take_yes (i:=13) (d:=31) (v:=?_) rfl rfl (by kernel_rfl) (by kernel_rfl) (by kernel_rfl) (fun _ _ _ h=>h) (by rfl) ?_ hHeld ?_
     rotate_left
     ·intro wq hSw;(try dsimp only at hSw);have q0:=kp_cell hSw g1;have q1:=kp_cell hSw g2;go_simp;(try with_reducible rfl)
     (try simp only [Act.put,List.setIfInBounds_toArray,List.set_cons_zero,List.set_cons_succ])
     refine wpAnyH_ready (rs:=[14]) (by kernel_rfl) (by simp) ?_
     refine (AllReadyH.cons rfl (fun K' hK=>?_) AllReadyH.nil)
     go_simp
     go_at_call 221
     refine (CV.out _ hHeld).mono ?_
     rintro e w2 ⟨⟨c,rfl⟩,hk2⟩
     have KW:=kp_trans hHeld hk2
     refine hK.out _ _ ?_ (fun hHeld=>?_)
     ·exact KW
     clear hK K'
     (try simp only [Act.put,List.setIfInBounds_toArray,List.set_cons_zero,List.set_cons_succ])
     refine take_yes (i:=15) (d:=33) (v:=?_) rfl rfl (by kernel_rfl) (by kernel_rfl) (by kernel_rfl) (fun _ _ _ h=>h) (by rfl) ?_ hHeld ?_
     rotate_left
     ·intro wq hSw;(try dsimp only at hSw);go_simp;(try with_reducible rfl)
     (try simp only [Act.put,List.setIfInBounds_toArray,List.set_cons_zero,List.set_cons_succ])
     refine take_yes (i:=16) (d:=34) (v:=?_) rfl rfl (by kernel_rfl) (by kernel_rfl) (by kernel_rfl) (fun _ _ _ h=>h) (by rfl) ?_ hHeld ?_
     rotate_left
     ·intro wq hSw;(try dsimp only at hSw);go_simp;(try with_reducible rfl)
     (try simp only [Act.put,List.setIfInBounds_toArray,List.set_cons_zero,List.set_cons_succ])
     refine wpAnyH_done (by kernel_rfl) ?_ _
     refine NoPanic.normal ?_
     by_cases hcc:c<0
     ·have HK4:=Lib.hid KW
      have e1:=kp_cell KW g1
      have e2:=kp_cell KW g2
      have HROW3:=Lib.hid (HROW2.out.kp KW)
      have le:=cell_lt e1
      go_upto_region 6 with fail
      refine wp_region_noPanic ?_
      refine wp_region_held_drew (S:=fun w'=>KX [go] w2 w') (by kernel_rfl) ?_ (fun hHeld=>?_)
      ·exact (KX.refl _).drew
      obtain ⟨WD,hWD⟩:∃ W,w2.drew=W:=⟨_,rfl⟩
      have KD:Kp w2 WD:=by rw [← hWD];exact kp_drew (kp_refl _)
      have HD:=Lib.hid (HROW3.out.kp KD)
      have d1:=kp_cell KD e1
      have d2:=kp_cell KD e2
      have f1:=HD.out.froz (fr+(j+1))
      have ld1:=cell_lt d1
      rw [hWD] at hHeld ⊢
      clear hWD
      refine take_yes (i:=0) (d:=37) (v:=?_) rfl rfl (by kernel_rfl) (by kernel_rfl) (by kernel_rfl) (fun _ _ _ h=>h) (by rfl) ?_ hHeld ?_
      rotate_left
      ·intro wq hSw;(try dsimp only at hSw);go_simp;(try with_reducible rfl)
      (try simp only [Act.put,List.setIfInBounds_toArray,List.set_cons_zero,List.set_cons_succ])
      refine take_yes (i:=1) (d:=38) (v:=?_) rfl rfl (by kernel_rfl) (by kernel_rfl) (by kernel_rfl) (fun _ _ _ h=>h) (by rfl) ?_ hHeld ?_
      rotate_left
      ·intro wq hSw;(try dsimp only at hSw);go_simp;(try with_reducible rfl)
      (try simp only [Act.put,List.setIfInBounds_toArray,List.set_cons_zero,List.set_cons_succ])
      refine take_yes (i:=2) (d:=39) (v:=?_) rfl rfl (by kernel_rfl) (by kernel_rfl) (by kernel_rfl) (fun _ _ _ h=>h) (by rfl) ?_ hHeld ?_
      rotate_left
      ·intro wq hSw;(try dsimp only at hSw);go_simp;(try with_reducible rfl)
      (try simp only [Act.put,List.setIfInBounds_toArray,List.set_cons_zero,List.set_cons_succ])
      refine take_yes (i:=3) (d:=40) (v:=?_) rfl rfl (by kernel_rfl) (by kernel_rfl) (by kernel_rfl) (fun _ _ _ h=>h) (by rfl) ?_ hHeld ?_
      rotate_left
      ·intro wq hSw;(try dsimp only at hSw);go_simp;(try with_reducible rfl)
      (try simp only [Act.put,List.setIfInBounds_toArray,List.set_cons_zero,List.set_cons_succ])
      refine take_yes (i:=4) (d:=41) (v:=?_) rfl rfl (by kernel_rfl) (by kernel_rfl) (by kernel_rfl) (fun _ _ _ h=>h) (by rfl) ?_ hHeld ?_
      rotate_left
      ·intro wq hSw;(try dsimp only at hSw);go_simp;(try with_reducible rfl)
      (try simp only [Act.put,List.setIfInBounds_toArray,List.set_cons_zero,List.set_cons_succ])
      refine take_yes (i:=5) (d:=42) (v:=?_) rfl rfl (by kernel_rfl) (by kernel_rfl) (by kernel_rfl) (fun _ _ _ h=>h) (by rfl) ?_ hHeld ?_
      rotate_left
      ·intro wq hSw;(try dsimp only at hSw);go_simp;(try with_reducible rfl)
      (try simp only [Act.put,List.setIfInBounds_toArray,List.set_cons_zero,List.set_cons_succ])
      refine take_yes (i:=6) (d:=43) (v:=?_) rfl rfl (by kernel_rfl) (by kernel_rfl) (by kernel_rfl) (fun _ _ _ h=>h) (by rfl) ?_ hHeld ?_
      rotate_left
      ·intro wq hSw;(try dsimp only at hSw);go_simp;(try with_reducible rfl)
      (try simp only [Act.put,List.setIfInBounds_toArray,List.set_cons_zero,List.set_cons_succ])
      refine take_yes (i:=7) (d:=44) (v:=?_) rfl rfl (by kernel_rfl) (by kernel_rfl) (by kernel_rfl) (fun _ _ _ h=>h) (by rfl) ?_ hHeld ?_
      rotate_left
      ·intro wq hSw;(try dsimp only at hSw);go_simp;(try with_reducible rfl)
      (try simp only [Act.put,List.setIfInBounds_toArray,List.set_cons_zero,List.set_cons_succ])
      refine take_yes (i:=8) (d:=45) (v:=?_) rfl rfl (by kernel_rfl) (by kernel_rfl) (by kernel_rfl) (fun _ _ _ h=>h) (by rfl) ?_ hHeld ?_
      rotate_left
      ·intro wq hSw;(try dsimp only at hSw);go_simp;(try with_reducible rfl)
      (try simp only [Act.put,List.setIfInBounds_toArray,List.set_cons_zero,List.set_cons_succ])
      refine take_yes (i:=10) (d:=47) (v:=?_) rfl rfl (by kernel_rfl) (by kernel_rfl) (by kernel_rfl) (fun _ _ _ h=>h) (by rfl) ?_ hHeld ?_
      rotate_left
      ·intro wq hSw;(try dsimp only at hSw);go_simp;(try with_reducible rfl)
      (try simp only [Act.put,List.setIfInBounds_toArray,List.set_cons_zero,List.set_cons_succ])
      refine take_yes (i:=11) (d:=48) (v:=?_) rfl rfl (by kernel_rfl) (by kernel_rfl) (by kernel_rfl) (fun _ _ _ h=>h) (by rfl) ?_ hHeld ?_
      rotate_left
      ·intro wq hSw;(try dsimp only at hSw);go_simp;(try with_reducible rfl)
      (try simp only [Act.put,List.setIfInBounds_toArray,List.set_cons_zero,List.set_cons_succ])
      refine take_yes (i:=12) (d:=49) (v:=?_) rfl rfl (by kernel_rfl) (by kernel_rfl) (by kernel_rfl) (fun _ _ _ h=>h) (by rfl) ?_ hHeld ?_
      rotate_left
      ·intro wq hSw;(try dsimp only at hSw);go_simp;(try with_reducible rfl)
      (try simp only [Act.put,List.setIfInBounds_toArray,List.set_cons_zero,List.set_cons_succ])
      refine wpAnyH_ready (rs:=[9,13]) (by kernel_rfl) (by simp) ?_
      refine (AllReadyH.cons rfl (fun K' hK=>?_) (AllReadyH.cons rfl (fun K' hK=>?_) AllReadyH.nil))
      ·go_simp
       refine hK.out _ _ ?_ (fun hHeld=>?_)
       ·exact hHeld
       clear hK K'
       (try simp only [Act.put,List.setIfInBounds_toArray,List.set_cons_zero,List.set_cons_succ])
       refine wpAnyH_ready (rs:=[13]) (by kernel_rfl) (by simp) ?_
       refine (AllReadyH.cons rfl (fun K' hK=>?_) AllReadyH.nil)
       go_simp
       refine hK.out _ _ ?_ (fun hHeld=>?_)
       ·exact hHeld
       clear hK K'
       (try simp only [Act.put,List.setIfInBounds_toArray,List.set_cons_zero,List.set_cons_succ])
       refine take_yes (i:=14) (d:=51) (v:=?_) rfl rfl (by kernel_rfl) (by kernel_rfl) (by kernel_rfl) (fun _ _ _ h=>h) (by rfl) ?_ hHeld ?_
       rotate_left
       ·intro wq hSw;(try dsimp only at hSw);go_simp;(try with_reducible rfl)
       (try simp only [Act.put,List.setIfInBounds_toArray,List.set_cons_zero,List.set_cons_succ])
       refine wpAnyH_ready (rs:=[15]) (by kernel_rfl) (by simp) ?_
       refine (AllReadyH.cons rfl (fun K' hK=>?_) AllReadyH.nil)
       go_simp
       refine hK.out _ _ ?_ (fun hHeld=>?_)
       ·exact (KX.of KD).set (.inl (by simp)) _
       have hR5:=HD.out.set (fr+(j+1)) (b:Int)
       have hX5:KX [go] w2 (WD.setCell ⟨go,fr+(j+1),none⟩ (.int .i64 b)):=(KX.of KD).set (.inl (by simp)) _
       obtain ⟨W5,hW5⟩:∃ X,WD.setCell ⟨go,fr+(j+1),none⟩ (.int .i64 b)=X:=⟨_,rfl⟩
       rw [hW5] at hR5 hX5 hHeld ⊢
       clear hW5
       have q2:=hR5.cell (i:=fr+j) (by simp only [List.length_append,List.length_set,HP.out,hM2];omega)
       have q2f:=hR5.froz (fr+j)
       have lq2:=cell_lt q2
       clear hK K'
       (try simp only [Act.put,List.setIfInBounds_toArray,List.set_cons_zero,List.set_cons_succ])
       refine take_yes (i:=16) (d:=52) (v:=?_) rfl rfl (by kernel_rfl) (by kernel_rfl) (by kernel_rfl) (fun _ _ _ h=>h) (by rfl) ?_ hHeld ?_
       rotate_left
       ·intro wq hSw;(try dsimp only at hSw);go_simp;(try with_reducible rfl)
       (try simp only [Act.put,List.setIfInBounds_toArray,List.set_cons_zero,List.set_cons_succ])
       refine wpAnyH_ready (rs:=[17]) (by kernel_rfl) (by simp) ?_
       refine (AllReadyH.cons rfl (fun K' hK=>?_) AllReadyH.nil)
       go_simp
       refine hK.out _ _ ?_ (fun hHeld=>?_)
       ·exact hX5.set (.inl (by simp)) _
       have hR6:=hR5.set (fr+j) (a:Int)
       have hX6:KX [go] w2 (W5.setCell ⟨go,fr+j,none⟩ (.int .i64 a)):=hX5.set (.inl (by simp)) _
       clear hK K'
       (try simp only [Act.put,List.setIfInBounds_toArray,List.set_cons_zero,List.set_cons_succ])
       refine wpAnyH_done (by kernel_rfl) ?_ _
       refine NoPanic.normal ?_
       go_wp2_with fail
       have hs:((P++M2++S).set (fr+(j+1)) (b:Int)).set (fr+j) (a:Int)=P++((M2.set (j+1) (b:Int)).set j (a:Int))++S:=by
        rw [← HP.out,set_mid _ _ _ _ _ (by omega),set_mid _ _ _ _ _ (by rw [List.length_set];omega)]
       rw [hs] at hR6
       have hpm:((M2.set (j+1) (b:Int)).set j (a:Int)).Perm M:=by
        have h:=swap_perm M2 j (by omega)
        rw [HA.out,HB.out] at h
        exact h.trans HPERM2.out
       exact ⟨⟨j,_,by omega,by go_num,hR6,hpm,(HKX2.out.kp HK4.out).then hX6⟩,by (simp [intOf] <;> omega)⟩
      ·go_simp
       refine hK.out _ _ ?_ (fun hHeld=>?_)
       ·exact hHeld
       clear hK K'
       (try simp only [Act.put,List.setIfInBounds_toArray,List.set_cons_zero,List.set_cons_succ])
       refine wpAnyH_ready (rs:=[9]) (by kernel_rfl) (by simp) ?_
       refine (AllReadyH.cons rfl (fun K' hK=>?_) AllReadyH.nil)
       go_simp
       refine hK.out _ _ ?_ (fun hHeld=>?_)
       ·exact hHeld
       clear hK K'
       (try simp only [Act.put,List.setIfInBounds_toArray,List.set_cons_zero,List.set_cons_succ])
       refine take_yes (i:=14) (d:=51) (v:=?_) rfl rfl (by kernel_rfl) (by kernel_rfl) (by kernel_rfl) (fun _ _ _ h=>h) (by rfl) ?_ hHeld ?_
       rotate_left
       ·intro wq hSw;(try dsimp only at hSw);go_simp;(try with_reducible rfl)
       (try simp only [Act.put,List.setIfInBounds_toArray,List.set_cons_zero,List.set_cons_succ])
       refine wpAnyH_ready (rs:=[15]) (by kernel_rfl) (by simp) ?_
       refine (AllReadyH.cons rfl (fun K' hK=>?_) AllReadyH.nil)
       go_simp
       refine hK.out _ _ ?_ (fun hHeld=>?_)
       ·exact (KX.of KD).set (.inl (by simp)) _
       have hR5:=HD.out.set (fr+(j+1)) (b:Int)
       have hX5:KX [go] w2 (WD.setCell ⟨go,fr+(j+1),none⟩ (.int .i64 b)):=(KX.of KD).set (.inl (by simp)) _
       obtain ⟨W5,hW5⟩:∃ X,WD.setCell ⟨go,fr+(j+1),none⟩ (.int .i64 b)=X:=⟨_,rfl⟩
       rw [hW5] at hR5 hX5 hHeld ⊢
       clear hW5
       have q2:=hR5.cell (i:=fr+j) (by simp only [List.length_append,List.length_set,HP.out,hM2];omega)
       have q2f:=hR5.froz (fr+j)
       have lq2:=cell_lt q2
       clear hK K'
       (try simp only [Act.put,List.setIfInBounds_toArray,List.set_cons_zero,List.set_cons_succ])
       refine take_yes (i:=16) (d:=52) (v:=?_) rfl rfl (by kernel_rfl) (by kernel_rfl) (by kernel_rfl) (fun _ _ _ h=>h) (by rfl) ?_ hHeld ?_
       rotate_left
       ·intro wq hSw;(try dsimp only at hSw);go_simp;(try with_reducible rfl)
       (try simp only [Act.put,List.setIfInBounds_toArray,List.set_cons_zero,List.set_cons_succ])
       refine wpAnyH_ready (rs:=[17]) (by kernel_rfl) (by simp) ?_
       refine (AllReadyH.cons rfl (fun K' hK=>?_) AllReadyH.nil)
       go_simp
       refine hK.out _ _ ?_ (fun hHeld=>?_)
       ·exact hX5.set (.inl (by simp)) _
       have hR6:=hR5.set (fr+j) (a:Int)
       have hX6:KX [go] w2 (W5.setCell ⟨go,fr+j,none⟩ (.int .i64 a)):=hX5.set (.inl (by simp)) _
       clear hK K'
       (try simp only [Act.put,List.setIfInBounds_toArray,List.set_cons_zero,List.set_cons_succ])
       refine wpAnyH_done (by kernel_rfl) ?_ _
       refine NoPanic.normal ?_
       go_wp2_with fail
       have hs:((P++M2++S).set (fr+(j+1)) (b:Int)).set (fr+j) (a:Int)=P++((M2.set (j+1) (b:Int)).set j (a:Int))++S:=by
        rw [← HP.out,set_mid _ _ _ _ _ (by omega),set_mid _ _ _ _ _ (by rw [List.length_set];omega)]
       rw [hs] at hR6
       have hpm:((M2.set (j+1) (b:Int)).set j (a:Int)).Perm M:=by
        have h:=swap_perm M2 j (by omega)
        rw [HA.out,HB.out] at h
        exact h.trans HPERM2.out
       exact ⟨⟨j,_,by omega,by go_num,hR6,hpm,(HKX2.out.kp HK4.out).then hX6⟩,by (simp [intOf] <;> omega)⟩
     ·go_wp2_with fail
      exact ⟨⟨k+1,M2,by go_num,by omega,by omega,HROW2.out.kp KW,HPERM2.out,HKX2.out.kp KW⟩,by simp [intOf];omega⟩
  ·have z1:¬ (k:Int)<(m:Int):=by omega
   have HROW:=Lib.hid hrow;have HPERM:=Lib.hid hperm;have HKX:=Lib.hid hkx
   clear hrow hperm hkx
   go_wp2_with fail
   go_end0
   exact ⟨rfl,M',by simpa [List.append_assoc] using HROW.out,HPERM.out,HKX.out⟩
theorem len64_any (x:Nat) (h:x<18446744073709551616) (w:World):Calls Tryz.prog 309 #[.int .u64 x] w fun e w'=>(∃ c,e=.returned (.int .i64 c))∧w=w' :=
 (Any.bits_Len64 { lzLays with } x w (by omega) (by omega)).mono fun _ _ ⟨h1,h2⟩=>⟨⟨_,h1⟩,h2.symm⟩
theorem len_any (x:Nat) (h:x<18446744073709551616) (w:World):Calls Tryz.prog 231 #[.int .u64 x] w fun e w'=>(∃ c,e=.returned (.int .i64 c))∧w=w':=by
 have u1:IntKind.u64.wrap (x:Int)=(x:Int):=IntWalk.u64_in _ (by omega)
 have HC:=Lib.hid (fun w=>len64_any x h w)
 clear h
 go_enter Tryz.func231,Tryz.ntmps231
 go_wp2_with (go_at_call 309;refine (HC.out _).mono ?_;rintro e w1 ⟨⟨c,rfl⟩,hw⟩;subst hw)
 go_ret
 exact ⟨⟨_,rfl⟩,rfl⟩
set_option maxHeartbeats 8000000 in
set_option maxRecDepth 100000 in
theorem sortf_any (pt pa tb gl n cap:Nat) (l:List Bx) (across:Bool) (hln:l.length=n) (hn:n≤1000) (hok:∀ x∈l,BxOk x) (go cp m fr:Nat) (P M S:List Int) (w:World) (hw:PcW pt pa tb gl n cap l across w)
  (hr:RowT go (P++M++S) w) (hM:M.length=m) (hP:P.length=fr) (hm:m≤12) (hpl:Plc n M) (hne:pt≠go∧pa≠go∧tb≠go∧gl≠go) :
  Calls Tryz.prog 147 #[.slice (some ⟨go,fr,none⟩) m cp,.func (.func 221) #[] #[.pointer (some ⟨pt,0,none⟩),.pointer (some ⟨pa,0,none⟩)]] w fun e w' =>
   e=.returned (.tuple #[])∧∃ M',RowT go (P++M'++S) w'∧M'.Perm M∧KX [go] w w':=by
 have HI:=Lib.hid (ins_any pt pa tb gl n cap l across hln hn hok go cp m fr P M S w hw hr hM hP hm hpl hne)
 clear hw hr hM hP hpl hne hln hok
 have z1:¬ (12:Int)<(m:Int):=by omega
 have wi:IntKind.i64.wrap (m:Int)=(m:Int):=IntWalk.i64_in _ (by omega)
 have wu:IntKind.u64.wrap (m:Int)=(m:Int):=IntWalk.u64_in _ (by omega)
 have HPD:Hid (∀ c:Int,Calls Tryz.prog 230 #[.slice (some ⟨go,fr,none⟩) m cp,.int .i64 0,.int .i64 m,.int .i64 c,.func (.func 221) #[] #[.pointer (some ⟨pt,0,none⟩),.pointer (some ⟨pa,0,none⟩)]] w fun e w' =>
   e=.returned (.tuple #[])∧∃ M',RowT go (P++M'++S) w'∧M'.Perm M∧KX [go] w w'):=by
  refine Lib.hid ?_
  intro c
  go_enter Tryz.func230,Tryz.ntmps230
  go_wp2_with fail
  go_loopw [1,2] (fun i j wr=>i=.int .i64 0∧j=.int .i64 m∧wr=w) (fun _ _ _=>0)
  case atStart=>exact ⟨rfl,rfl,rfl⟩
  case round =>
   obtain ⟨rfl,rfl,rfl⟩:=hrel
   go_wp2_with (go_at_call 300;refine HI.out.mono ?_;rintro e w1 ⟨rfl,h1⟩)
   exact bodyPost_ret (v:=.tuple #[]) (results_none rfl _ _ _) rfl ⟨rfl,h1⟩
 clear HI
 go_enter Tryz.func147,Tryz.ntmps147
 go_wp2_with (first | (go_at_call 231;refine (len_any m (by omega) _).mono ?_;rintro e w1 ⟨⟨c,rfl⟩,hw⟩;subst hw) | (go_at_call 230;refine (HPD.out c).mono ?_;rintro e w1 ⟨rfl,h1⟩))
 go_end0
 exact ⟨rfl,h1⟩
end Go.Proofs.YtgliljnbajohhaaGreatDoor
