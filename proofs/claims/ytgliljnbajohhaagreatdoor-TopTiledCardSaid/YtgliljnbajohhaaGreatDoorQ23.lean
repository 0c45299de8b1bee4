import Derived.Test.YtgliljnbajohhaaGreatDoorQ22
set_option linter.unusedVariables false
set_option linter.unusedSimpArgs false
namespace Go.Proofs.YtgliljnbajohhaaGreatDoor
open Go.RowKit Go.Proofs.Top Go.Proofs.Geo
theorem infoNode:(Tryz.prog.info? 379).map (fun i=>(i.zero,i.size,i.bytes))=some (some (.agg #[.int .i64 0,.int .i64 0,.int .i64 0,.int .i64 0,.int .i64 0,.int .i64 0]),6,48):=by kernel_rfl
structure TrS (tb gl go n cl co B:Nat) (l:List Bx) (L:List Int) (nv:Value) (nn:Nat) (xs:List Value) (w:World):Prop where
 row:w.heap[tb]? = some (.cells #[.bool true,.slice (some ⟨gl,0,none⟩) n cl,.slice (some ⟨go,0,none⟩) n co,nv] 276 (0,0))
 b:BxAt w gl l
 r:RowT go L w
 own:w.ownsRow B 379 6 nv nn xs
section
variable {tb gl go n cl co B nn:Nat} {l:List Bx} {L:List Int} {nv:Value} {xs:List Value} {w w':World}
theorem TrS.kp (h:TrS tb gl go n cl co B l L nv nn xs w) (k:Kp w w'):TrS tb gl go n cl co B l L nv nn xs w' :=
 ⟨(k.block tb (Array.getElem?_eq_some_iff.1 h.row).1).trans h.row,h.b.kp k,h.r.kp k,ownsRow_kx h.own (S:=[]) (.of k) (by simp)⟩
theorem TrS.c1 (h:TrS tb gl go n cl co B l L nv nn xs w):w.cell? ⟨tb,1,none⟩=some (.slice (some ⟨gl,0,none⟩) n cl):=by rw [cell_of_row w tb _ _ _ _ h.row];rfl
theorem TrS.c2 (h:TrS tb gl go n cl co B l L nv nn xs w):w.cell? ⟨tb,2,none⟩=some (.slice (some ⟨go,0,none⟩) n co):=by rw [cell_of_row w tb _ _ _ _ h.row];rfl
theorem TrS.c3 (h:TrS tb gl go n cl co B l L nv nn xs w):w.cell? ⟨tb,3,none⟩=some nv:=by rw [cell_of_row w tb _ _ _ _ h.row];rfl
theorem TrS.trw (h:TrS tb gl go n cl co B l L nv nn xs w):TrW tb gl go n cl co l L w:=⟨h.c1,h.c2,h.b,h.r⟩
theorem TrS.lt (h:TrS tb gl go n cl co B l L nv nn xs w):tb<w.heap.size:=(Array.getElem?_eq_some_iff.1 h.row).1
end
def lenAt (tb:Nat) (w:World):Nat:=match w.cell? ⟨tb,3,none⟩ with | some (.slice _ n _)=>n | _=>0
set_option maxHeartbeats 16000000 in
set_option maxRecDepth 100000 in
theorem part_any (tb gl go n cl co B:Nat) (l:List Bx) (hln:l.length=n) (hn:n≤12) (hok:∀ x∈l,BxOk x) (hB:tb<B∧gl<B∧go<B) (hne:tb≠gl∧tb≠go∧gl≠go) (hco:n≤co):∀ (m i fr:Nat) (across:Bool) (L:List Int) (nv:Value) (nn:Nat) (xs:List Value) (w:World),
  0<m→fr+m≤n→i+2≤2 ^ (40 - m)→TrS tb gl go n cl co B l L nv nn xs w→nn≤1099511627776→n≤L.length→(∀ k,k<n→∃ j:Nat,L.getD k 0=j∧j<n)→B≤w.heap.size →
  Calls Tryz.prog 140 #[.pointer (some ⟨tb,0,none⟩),.int .i64 i,.int .i64 fr,.int .i64 (fr+m:Nat),.bool across] w fun e w'=>e=.returned (.tuple #[]) ∧
   ∃ L' nv' nn' xs',TrS tb gl go n cl co B l L' nv' nn' xs' w'∧PermAt L L' fr m∧nn≤nn'∧nn'≤1099511627776∧(∀ k,k<nn→¬ Desc i k→SameN xs xs' k)∧Cov l L' xs' i fr m∧KX (tb :: go :: nv.ownBlock.toList) w w'∧(∀ b,nv'.ownBlock=some b→nv.ownBlock=some b∨w.heap.size≤b):=by
 intro m
 induction m using Nat.strongRecOn with
 | ind m ih =>
  intro i fr across L nv nn xs w hm hfm hi hs hnn hL hpl hBw
  have HIH:=Lib.hid ih;have HI0:=Lib.hid hi;have HPL:=Lib.hid hpl
  have hi2:i+2≤1099511627776:=Nat.le_trans hi (by calc 2 ^ (40 - m)≤2 ^ 40:=Nat.pow_le_pow_right (by decide) (by omega)
   _=1099511627776:=by decide)
  obtain ⟨i0,hi1,hz0,hz1,hz2⟩:=info_parts infoNode
  have HI:=Lib.hid hi1;have HZ0:=Lib.hid hz0;have HZ1:=Lib.hid hz1;have HZ2:=Lib.hid hz2
  clear hi1 hz0 hz1 hz2 ih hi hpl
  go_enter Tryz.func140,Tryz.ntmps140
  go_wp2_with fail
  obtain ⟨pt,hpt⟩:∃ p,w.heap.size=p:=⟨_,rfl⟩
  obtain ⟨Wa,hWa⟩:∃ X,w.alloc (.cells #[.pointer (some ⟨tb,0,none⟩)] 154)=X:=⟨_,rfl⟩
  obtain ⟨w1,hw1⟩:∃ X,Wa.alloc (.cells #[.bool across] 4)=X:=⟨_,rfl⟩
  have Ka:Kp w Wa:=by rw [← hWa];exact kp_alloc (kp_refl _) _
  have Kb:Kp Wa w1:=by rw [← hw1];exact kp_alloc (kp_refl _) _
  have sa:Wa.heap.size=pt+1:=by rw [← hWa,← hpt];simp
  have sb:w1.heap.size=pt+2:=by rw [← hw1];simp [sa]
  have cpt:w1.cell? ⟨pt,0,none⟩=some (.pointer (some ⟨tb,0,none⟩)):=kp_cell Kb (by rw [← hWa,← hpt];simp [go_sem])
  have cpa:w1.cell? ⟨pt+1,0,none⟩=some (.bool across):=by rw [← hw1,← sa];simp [go_sem]
  have K1:=kp_trans Ka Kb
  have hwp:w.heap.size≤pt:=by omega
  have hwp2:pt≤w.heap.size:=by omega
  have HSW:=Lib.hid (hs.kp K1)
  have hOWN0:Hid (∀ b,nv.ownBlock=some b→B≤b∧b<w.heap.size):=Lib.hid (fun b hb=>World.ownsRow.lt hs.own b hb)
  simp only [hWa,hw1,hpt,sa]
  clear hpt hWa hw1 sa Ka Kb hs
  have hBp:B≤pt:=by omega
  go_loopw [17] (fun _ wr=>∃ nv1 nn1 xs1,TrS tb gl go n cl co B l L nv1 nn1 xs1 wr∧nn≤nn1∧(nn1≤nn∨nn1≤i+1)∧(∀ j,j<nn * 6→xs1[j]? = xs[j]?)∧KX (tb :: nv.ownBlock.toList) w1 wr∧(∀ b,nv1.ownBlock=some b→nv.ownBlock=some b∨pt+2≤b)) (fun _ wr=>i+1 - lenAt tb wr)
  case atStart=>exact ⟨nv,nn,xs,HSW.out,Nat.le_refl _,.inl (Nat.le_refl _),fun _ _=>rfl,KX.refl _,fun b hb=>.inl hb⟩
  case round =>
   obtain ⟨nv1,nn1,xs1,hs1,hnn1,hnn2,hxs,hkx,hnv⟩:=hrel
   obtain ⟨p1,c1,hnv1⟩:=ownsRow_slice hs1.own
   subst hnv1
   have HS1:=Lib.hid hs1;have HXS:=Lib.hid hxs;have HKX:=Lib.hid hkx;have HNV:=Lib.hid hnv
   have HLX:Hid (xs1.length=nn1 * 6):=Lib.hid hs1.own.1
   have hptS:pt∉tb :: nv.ownBlock.toList:=by simp only [List.mem_cons,Option.mem_toList,not_or];exact ⟨by omega,fun h=>by have:=hOWN0.out pt h;omega⟩
   have ptr1:=hkx.cell cpt hptS
   have par1:=hkx.cell cpa (by simp only [List.mem_cons,Option.mem_toList,not_or];exact ⟨by omega,fun h=>by have:=hOWN0.out (pt+1) h;omega⟩)
   have hOW:∀ b,(Value.slice p1 nn1 c1).ownBlock=some b→B≤b∧b<wr.heap.size:=fun b hb=>World.ownsRow.lt hs1.own b hb
   have HOW:=Lib.hid hOW
   have hptn:pt∉tb :: (Value.slice p1 nn1 c1).ownBlock.toList:=by simp only [List.mem_cons,Option.mem_toList,not_or];exact ⟨by omega,fun h=>by rcases hnv pt h with h2 | h2;have:=hOWN0.out pt h2;omega;omega⟩
   have tl1:=hs1.lt
   have t3:=hs1.c3
   have lpt:=cell_lt ptr1
   have hsz1:=hkx.size
   have HNB:Hid (nn1≤1099511627777):=Lib.hid (by omega)
   by_cases hlt:nn1≤i
   ·have z1:(nn1:Int)≤(i:Int):=by omega
    clear hs1 hxs hkx hnv hOW hptS
    go_upto_region 2 with fail
    refine wp_region_noPanic ?_
    refine wp_region_held_drew (S:=fun w'=>KX (tb :: (Value.slice p1 nn1 c1).ownBlock.toList) wr w') (by kernel_rfl) ?_ (fun hHeld=>?_)
    ·exact (KX.refl _).drew
    obtain ⟨WD,hWD⟩:∃ W,wr.drew=W:=⟨_,rfl⟩
    have KD:Kp wr WD:=by rw [← hWD];exact kp_drew (kp_refl _)
    have HSD:=Lib.hid (HS1.out.kp KD)
    have hSD:KX (tb :: (Value.slice p1 nn1 c1).ownBlock.toList) wr WD:=KX.of KD
    have tD:=HSD.out.c3
    have ltD:=cell_lt tD
    have hbD:B≤WD.heap.size:=by have:=Below.size KD;omega
    rw [hWD] at hHeld ⊢
    clear hWD
    refine take_yes (i:=0) (d:=18) (v:=?_) rfl rfl (by kernel_rfl) (by kernel_rfl) (by kernel_rfl) (fun _ _ _ h=>h) (by rfl) ?_ hHeld ?_
    rotate_left
    ·intro wq hSw;(try dsimp only at hSw);have q0:=hSw.cell ptr1 hptn;go_simp;(try with_reducible rfl)
    (try simp only [Act.put,List.setIfInBounds_toArray,List.set_cons_zero,List.set_cons_succ])
    refine take_yes (i:=1) (d:=19) (v:=?_) rfl rfl (by kernel_rfl) (by kernel_rfl) (by kernel_rfl) (fun _ _ _ h=>h) (by rfl) ?_ hHeld ?_
    rotate_left
    ·intro wq hSw;(try dsimp only at hSw);have q0:=hSw.cell ptr1 hptn;go_simp;(try with_reducible rfl)
    (try simp only [Act.put,List.setIfInBounds_toArray,List.set_cons_zero,List.set_cons_succ])
    refine take_yes (i:=2) (d:=20) (v:=?_) rfl rfl (by kernel_rfl) (by kernel_rfl) (by kernel_rfl) (fun _ _ _ h=>h) (by rfl) ?_ hHeld ?_
    rotate_left
    ·intro wq hSw;(try dsimp only at hSw);go_simp;(try with_reducible rfl)
    (try simp only [Act.put,List.setIfInBounds_toArray,List.set_cons_zero,List.set_cons_succ])
    refine take_yes (i:=3) (d:=21) (v:=?_) rfl rfl (by kernel_rfl) (by kernel_rfl) (by kernel_rfl) (fun _ _ _ h=>h) (by rfl) ?_ hHeld ?_
    rotate_left
    ·intro wq hSw;(try dsimp only at hSw);go_simp;(try with_reducible rfl)
    (try simp only [Act.put,List.setIfInBounds_toArray,List.set_cons_zero,List.set_cons_succ])
    refine take_yes (i:=5) (d:=23) (v:=?_) rfl rfl (by kernel_rfl) (by kernel_rfl) (by kernel_rfl) (fun _ _ _ h=>h) (by rfl) ?_ hHeld ?_
    rotate_left
    ·intro wq hSw;(try dsimp only at hSw);go_simp;(try with_reducible rfl)
    (try simp only [Act.put,List.setIfInBounds_toArray,List.set_cons_zero,List.set_cons_succ])
    refine wpAnyH_ready (rs:=[4,6]) (by kernel_rfl) (by simp) ?_
    refine (AllReadyH.cons rfl (fun K' hK=>?_) (AllReadyH.cons rfl (fun K' hK=>?_) AllReadyH.nil))
    ·go_simp
     refine hK.out _ _ ?_ (fun hHeld=>?_)
     ·exact hSD
     clear hK K'
     (try simp only [Act.put,List.setIfInBounds_toArray,List.set_cons_zero,List.set_cons_succ])
     refine wpAnyH_ready (rs:=[6]) (by kernel_rfl) (by simp) ?_
     refine (AllReadyH.cons rfl (fun K' hK=>?_) AllReadyH.nil)
     go_simp
     refine hK.out _ _ ?_ (fun hHeld=>?_)
     ·exact hSD.alloc _
     obtain ⟨bn,hbn⟩:∃ b,WD.heap.size=b:=⟨_,rfl⟩
     obtain ⟨WB,hWB⟩:∃ W,WD.alloc (.cells #[.int .i64 0,.int .i64 0,.int .i64 0,.int .i64 0,.int .i64 0,.int .i64 0] 379)=W:=⟨_,rfl⟩
     have hnew:=cells_new WD [.int .i64 0,.int .i64 0,.int .i64 0,.int .i64 0,.int .i64 0,.int .i64 0] 379
     rw [show ([.int .i64 0,.int .i64 0,.int .i64 0,.int .i64 0,.int .i64 0,.int .i64 0]:List Value).toArray = #[.int .i64 0,.int .i64 0,.int .i64 0,.int .i64 0,.int .i64 0,.int .i64 0] from rfl] at hnew
     have KB:Kp WD WB:=by rw [← hWB];exact kp_alloc (kp_refl _) _
     have HSB:=Lib.hid (HSD.out.kp KB)
     have hSB:=hSD.kp KB
     have tB:=HSB.out.c3
     have ltB:=cell_lt tB
     have hbB:=Nat.le_trans hbD (Below.size KB)
     rw [hbn,hWB] at hnew
     rw [hbn,hWB]
     rw [hWB] at hHeld
     clear hbn hWB KB
     clear hK K'
     (try simp only [Act.put,List.setIfInBounds_toArray,List.set_cons_zero,List.set_cons_succ])
     refine wpAnyH_ready (rs:=[7]) (by kernel_rfl) (by simp) ?_
     refine (AllReadyH.cons rfl (fun K' hK=>?_) AllReadyH.nil)
     refine arm_append_own_at _ _ 274 rfl B 379 i0 (.agg #[.int .i64 0,.int .i64 0,.int .i64 0,.int .i64 0,.int .i64 0,.int .i64 0]) 6 48 Tryz.underlying274 HI.out HZ0.out HZ1.out HZ2.out rfl (by decide) _ _ _ rfl HSB.out.own ⟨bn,0,none⟩ 1 1 [.int .i64 0,.int .i64 0,.int .i64 0,.int .i64 0,.int .i64 0,.int .i64 0] rfl rfl hnew (by simp [Value.oneCell']) (by have:=HNB.out;unfold maxLen;omega) (by have:=HNB.out;omega) hbB ?_
     intro v' w5 hown hgrow hnil hat
     have hat':v'.ownBlock=(Value.slice p1 nn1 c1).ownBlock∨v'.ownBlock=some WB.heap.size:=hat
     have hvc:v'.cells = #[v']:=by rcases hown.2 with ⟨hv,_⟩ | ⟨g',cap,cur,hv,_⟩ <;> subst hv <;> rfl
     simp only [Value.cells] at hvc
     have hv1:v'.oneCell'=true:=by rcases hown.2 with ⟨hv,_⟩ | ⟨g',cap,cur,hv,_⟩ <;> subst hv <;> rfl
     have hS5:=hSB.grown hgrow (fun b hb=>.inl (by simp only [List.mem_cons,Option.mem_toList];exact .inr hb))
     have KG:KX (Value.slice p1 nn1 c1).ownBlock.toList WB w5:=⟨hgrow.os,hgrow.tape,hgrow.output,hgrow.size,fun k hk hn=>hgrow.block k hk (fun e=>hn (by simp only [Option.mem_toList];exact e.symm))⟩
     have p5:=KG.row HSB.out.row (fun hm=>by have:=HOW.out tb (by simpa using hm);omega)
     have b5:=HSB.out.b.kx KG (fun hm=>by have:=HOW.out gl (by simpa using hm);omega)
     have r5:RowT go L w5:=HSB.out.r.kx KG (fun hm=>by have:=HOW.out go (by simpa using hm);omega)
     have c5:w5.cell? ⟨tb,3,none⟩=some (.slice p1 nn1 c1):=by rw [cell_of_row w5 tb _ _ _ _ p5];rfl
     have f5:w5.frozen? ⟨tb,3,none⟩=false:=frozen_of_row w5 tb _ _ _ p5
     have lt5:=cell_lt c5
     have HOWN:=Lib.hid hown
     have s5:wr.heap.size≤w5.heap.size:=hS5.size
     have sB5:wr.heap.size≤WB.heap.size:=hSB.size
     clear hown hgrow hnil hat hnew hSB tB
     refine hK.out _ _ ?_ (fun hHeld=>?_)
     ·exact hS5
     clear hK K'
     (try simp only [Act.put,List.setIfInBounds_toArray,List.set_cons_zero,List.set_cons_succ])
     refine take_yes (i:=8) (d:=26) (v:=?_) rfl rfl (by kernel_rfl) (by kernel_rfl) (by kernel_rfl) (fun _ _ _ h=>h) (by rfl) ?_ hHeld ?_
     rotate_left
     ·intro wq hSw;(try dsimp only at hSw);go_simp;(try with_reducible rfl)
     (try simp only [Act.put,List.setIfInBounds_toArray,List.set_cons_zero,List.set_cons_succ])
     refine take_yes (i:=9) (d:=27) (v:=?_) rfl rfl (by kernel_rfl) (by kernel_rfl) (by kernel_rfl) (fun _ _ _ h=>h) (by rfl) ?_ hHeld ?_
     rotate_left
     ·intro wq hSw;(try dsimp only at hSw);go_simp;(try with_reducible rfl)
     (try simp only [Act.put,List.setIfInBounds_toArray,List.set_cons_zero,List.set_cons_succ])
     refine wpAnyH_ready (rs:=[10]) (by kernel_rfl) (by simp) ?_
     refine (AllReadyH.cons rfl (fun K' hK=>?_) AllReadyH.nil)
     go_simp
     rw [run_store _ _ _ _ _ hv1]
     go_simp
     refine hK.out _ _ ?_ (fun hHeld=>?_)
     ·exact hS5.set (.inl (by simp)) _
     clear hK K'
     (try simp only [Act.put,List.setIfInBounds_toArray,List.set_cons_zero,List.set_cons_succ])
     refine wpAnyH_done (by kernel_rfl) ?_ _
     refine NoPanic.normal ?_
     go_wp2_with fail
     have hK5:KX [tb] w5 (w5.setCell ⟨tb,3,none⟩ v'):=(KX.refl w5).set (.inl (by simp)) _
     have hrow6:(w5.setCell ⟨tb,3,none⟩ v').heap[tb]? = some (.cells #[.bool true,.slice (some ⟨gl,0,none⟩) n cl,.slice (some ⟨go,0,none⟩) n co,v'] 276 (0,0)):=by rw [heap_setCell_same _ tb 3 _ _ v' p5];rfl
     obtain ⟨pv,cv,hv⟩:=ownsRow_slice HOWN.out
     have own6:=ownsRow_kx HOWN.out hK5 (fun g hg=>by have:=World.ownsRow.lt HOWN.out g hg;simp;omega)
     refine ⟨⟨v',nn1+1,xs1++[.int .i64 0,.int .i64 0,.int .i64 0,.int .i64 0,.int .i64 0,.int .i64 0],⟨hrow6,b5.kx hK5 (by simp;omega),r5.kx hK5 (by simp;omega),own6⟩,by omega,by omega,?_,?_,?_⟩,?_⟩
     ·intro j hj
      rw [List.getElem?_append_left (by rw [HLX.out];omega)]
      exact HXS.out j hj
     ·exact HKX.out.trans (hS5.set (.inl (by simp)) _) (fun b hb=>by simp only [List.mem_cons,Option.mem_toList] at hb ⊢;rcases hb with rfl | hb;exact .inl (.inl rfl);exact (HNV.out b hb).elim (fun h=>.inl (.inr h)) (fun h=>.inr (by omega)))
     ·intro b hb
      rcases hat' with h | h
      ·exact HNV.out b (by rw [← h];exact hb)
      ·right;rw [h] at hb;simp at hb;have:=HKX.out.size;omega
     ·have e1:lenAt tb (w5.setCell ⟨tb,3,none⟩ v')=nn1+1:=by unfold lenAt;rw [cell_of_row _ tb 3 _ _ _ hrow6,hv];rfl
      have e2:lenAt tb wr=nn1:=by unfold lenAt;rw [HS1.out.c3]
      rw [e1,e2]
      omega
    ·go_simp
     refine hK.out _ _ ?_ (fun hHeld=>?_)
     ·exact hSD.alloc _
     obtain ⟨bn,hbn⟩:∃ b,WD.heap.size=b:=⟨_,rfl⟩
     obtain ⟨WB,hWB⟩:∃ W,WD.alloc (.cells #[.int .i64 0,.int .i64 0,.int .i64 0,.int .i64 0,.int .i64 0,.int .i64 0] 379)=W:=⟨_,rfl⟩
     have hnew:=cells_new WD [.int .i64 0,.int .i64 0,.int .i64 0,.int .i64 0,.int .i64 0,.int .i64 0] 379
     rw [show ([.int .i64 0,.int .i64 0,.int .i64 0,.int .i64 0,.int .i64 0,.int .i64 0]:List Value).toArray = #[.int .i64 0,.int .i64 0,.int .i64 0,.int .i64 0,.int .i64 0,.int .i64 0] from rfl] at hnew
     have KB:Kp WD WB:=by rw [← hWB];exact kp_alloc (kp_refl _) _
     have HSB:=Lib.hid (HSD.out.kp KB)
     have hSB:=hSD.kp KB
     have tB:=HSB.out.c3
     have ltB:=cell_lt tB
     have hbB:=Nat.le_trans hbD (Below.size KB)
     rw [hbn,hWB] at hnew
     rw [hbn,hWB]
     rw [hWB] at hHeld
     clear hbn hWB KB
     clear hK K'
     (try simp only [Act.put,List.setIfInBounds_toArray,List.set_cons_zero,List.set_cons_succ])
     refine wpAnyH_ready (rs:=[4]) (by kernel_rfl) (by simp) ?_
     refine (AllReadyH.cons rfl (fun K' hK=>?_) AllReadyH.nil)
     go_simp
     refine hK.out _ _ ?_ (fun hHeld=>?_)
     ·exact hSB
     clear hK K'
     (try simp only [Act.put,List.setIfInBounds_toArray,List.set_cons_zero,List.set_cons_succ])
     refine wpAnyH_ready (rs:=[7]) (by kernel_rfl) (by simp) ?_
     refine (AllReadyH.cons rfl (fun K' hK=>?_) AllReadyH.nil)
     refine arm_append_own_at _ _ 274 rfl B 379 i0 (.agg #[.int .i64 0,.int .i64 0,.int .i64 0,.int .i64 0,.int .i64 0,.int .i64 0]) 6 48 Tryz.underlying274 HI.out HZ0.out HZ1.out HZ2.out rfl (by decide) _ _ _ rfl HSB.out.own ⟨bn,0,none⟩ 1 1 [.int .i64 0,.int .i64 0,.int .i64 0,.int .i64 0,.int .i64 0,.int .i64 0] rfl rfl hnew (by simp [Value.oneCell']) (by have:=HNB.out;unfold maxLen;omega) (by have:=HNB.out;omega) hbB ?_
     intro v' w5 hown hgrow hnil hat
     have hat':v'.ownBlock=(Value.slice p1 nn1 c1).ownBlock∨v'.ownBlock=some WB.heap.size:=hat
     have hvc:v'.cells = #[v']:=by rcases hown.2 with ⟨hv,_⟩ | ⟨g',cap,cur,hv,_⟩ <;> subst hv <;> rfl
     simp only [Value.cells] at hvc
     have hv1:v'.oneCell'=true:=by rcases hown.2 with ⟨hv,_⟩ | ⟨g',cap,cur,hv,_⟩ <;> subst hv <;> rfl
     have hS5:=hSB.grown hgrow (fun b hb=>.inl (by simp only [List.mem_cons,Option.mem_toList];exact .inr hb))
     have KG:KX (Value.slice p1 nn1 c1).ownBlock.toList WB w5:=⟨hgrow.os,hgrow.tape,hgrow.output,hgrow.size,fun k hk hn=>hgrow.block k hk (fun e=>hn (by simp only [Option.mem_toList];exact e.symm))⟩
     have p5:=KG.row HSB.out.row (fun hm=>by have:=HOW.out tb (by simpa using hm);omega)
     have b5:=HSB.out.b.kx KG (fun hm=>by have:=HOW.out gl (by simpa using hm);omega)
     have r5:RowT go L w5:=HSB.out.r.kx KG (fun hm=>by have:=HOW.out go (by simpa using hm);omega)
     have c5:w5.cell? ⟨tb,3,none⟩=some (.slice p1 nn1 c1):=by rw [cell_of_row w5 tb _ _ _ _ p5];rfl
     have f5:w5.frozen? ⟨tb,3,none⟩=false:=frozen_of_row w5 tb _ _ _ p5
     have lt5:=cell_lt c5
     have HOWN:=Lib.hid hown
     have s5:wr.heap.size≤w5.heap.size:=hS5.size
     have sB5:wr.heap.size≤WB.heap.size:=hSB.size
     clear hown hgrow hnil hat hnew hSB tB
     refine hK.out _ _ ?_ (fun hHeld=>?_)
     ·exact hS5
     clear hK K'
     (try simp only [Act.put,List.setIfInBounds_toArray,List.set_cons_zero,List.set_cons_succ])
     refine take_yes (i:=8) (d:=26) (v:=?_) rfl rfl (by kernel_rfl) (by kernel_rfl) (by kernel_rfl) (fun _ _ _ h=>h) (by rfl) ?_ hHeld ?_
     rotate_left
     ·intro wq hSw;(try dsimp only at hSw);go_simp;(try with_reducible rfl)
     (try simp only [Act.put,List.setIfInBounds_toArray,List.set_cons_zero,List.set_cons_succ])
     refine take_yes (i:=9) (d:=27) (v:=?_) rfl rfl (by kernel_rfl) (by kernel_rfl) (by kernel_rfl) (fun _ _ _ h=>h) (by rfl) ?_ hHeld ?_
     rotate_left
     ·intro wq hSw;(try dsimp only at hSw);go_simp;(try with_reducible rfl)
     (try simp only [Act.put,List.setIfInBounds_toArray,List.set_cons_zero,List.set_cons_succ])
     refine wpAnyH_ready (rs:=[10]) (by kernel_rfl) (by simp) ?_
     refine (AllReadyH.cons rfl (fun K' hK=>?_) AllReadyH.nil)
     go_simp
     rw [run_store _ _ _ _ _ hv1]
     go_simp
     refine hK.out _ _ ?_ (fun hHeld=>?_)
     ·exact hS5.set (.inl (by simp)) _
     clear hK K'
     (try simp only [Act.put,List.setIfInBounds_toArray,List.set_cons_zero,List.set_cons_succ])
     refine wpAnyH_done (by kernel_rfl) ?_ _
     refine NoPanic.normal ?_
     go_wp2_with fail
     have hK5:KX [tb] w5 (w5.setCell ⟨tb,3,none⟩ v'):=(KX.refl w5).set (.inl (by simp)) _
     have hrow6:(w5.setCell ⟨tb,3,none⟩ v').heap[tb]? = some (.cells #[.bool true,.slice (some ⟨gl,0,none⟩) n cl,.slice (some ⟨go,0,none⟩) n co,v'] 276 (0,0)):=by rw [heap_setCell_same _ tb 3 _ _ v' p5];rfl
     obtain ⟨pv,cv,hv⟩:=ownsRow_slice HOWN.out
     have own6:=ownsRow_kx HOWN.out hK5 (fun g hg=>by have:=World.ownsRow.lt HOWN.out g hg;simp;omega)
     refine ⟨⟨v',nn1+1,xs1++[.int .i64 0,.int .i64 0,.int .i64 0,.int .i64 0,.int .i64 0,.int .i64 0],⟨hrow6,b5.kx hK5 (by simp;omega),r5.kx hK5 (by simp;omega),own6⟩,by omega,by omega,?_,?_,?_⟩,?_⟩
     ·intro j hj
      rw [List.getElem?_append_left (by rw [HLX.out];omega)]
      exact HXS.out j hj
     ·exact HKX.out.trans (hS5.set (.inl (by simp)) _) (fun b hb=>by simp only [List.mem_cons,Option.mem_toList] at hb ⊢;rcases hb with rfl | hb;exact .inl (.inl rfl);exact (HNV.out b hb).elim (fun h=>.inl (.inr h)) (fun h=>.inr (by omega)))
     ·intro b hb
      rcases hat' with h | h
      ·exact HNV.out b (by rw [← h];exact hb)
      ·right;rw [h] at hb;simp at hb;have:=HKX.out.size;omega
     ·have e1:lenAt tb (w5.setCell ⟨tb,3,none⟩ v')=nn1+1:=by unfold lenAt;rw [cell_of_row _ tb 3 _ _ _ hrow6,hv];rfl
      have e2:lenAt tb wr=nn1:=by unfold lenAt;rw [HS1.out.c3]
      rw [e1,e2]
      omega
   ·have z1:¬ (nn1:Int)≤(i:Int):=by omega
    have hin1:i<nn1:=by omega
    obtain ⟨gn,hp1⟩:∃ gn,p1=some ⟨gn,0,none⟩:=by
     rcases hs1.own with ⟨_,⟨hv,h0⟩ | ⟨g',cap,cur,hv,_⟩⟩
     ·omega
     ·simp only [Value.slice.injEq] at hv;exact ⟨g',hv.1⟩
    subst hp1
    have hgO:=hOW gn rfl
    obtain ⟨cur,hgn⟩:∃ cur,wr.heap[gn]? = some (.cells cur 379 (0,0)):=by
     rcases hs1.own with ⟨_,⟨hv,h0⟩ | ⟨g',cap,cur,hv,_,hg,_⟩⟩
     ·omega
     ·simp only [Value.slice.injEq,Option.some.injEq,Addr.mk.injEq] at hv;exact ⟨cur,by rw [hv.1.1];exact hg⟩
    have hcl:∀ j,j<nn1 * 6→∃ v,wr.cell? ⟨gn,j,none⟩=some v:=by
     intro j hj
     have hjl:j<xs1.length:=by rw [HLX.out];exact hj
     have h:=World.ownsRow.cells hs1.own (g:=gn) rfl j xs1[j] (List.getElem?_eq_getElem hjl)
     rw [add_off,Nat.zero_add] at h
     exact ⟨_,h⟩
    obtain ⟨v0,e0⟩:=hcl (i * 6) (by omega)
    obtain ⟨v1,e1⟩:=hcl (i * 6+1) (by omega)
    obtain ⟨v2,e2⟩:=hcl (i * 6+2) (by omega)
    obtain ⟨v3,e3⟩:=hcl (i * 6+3) (by omega)
    obtain ⟨v4,e4⟩:=hcl (i * 6+4) (by omega)
    obtain ⟨v5,e5⟩:=hcl (i * 6+5) (by omega)
    have hptg:pt∉[gn]:=by simp only [List.mem_cons,Option.mem_toList,not_or,Value.ownBlock,Option.toList] at hptn;simp;intro h;simp_all
    have htg:tb∉[gn]:=by simp;omega
    have HAR:Hid (∀ W,Kp wr W→Calls Tryz.prog 220 #[.pointer (some ⟨tb,0,none⟩),.int .i64 fr,.int .i64 ((fr:Int)+(m:Int))] W fun e w'=>∃ x:Bx,e=.returned (.agg #[.int .i64 x.1,.int .i64 x.2.1,.int .i64 x.2.2.1,.int .i64 x.2.2.2])∧(∀ k,fr≤k→k<fr+m→InBx (bxOf l (L.getD k 0)) x)∧(m=1→x=bxOf l (L.getD fr 0))∧Kp W w') :=
     Lib.hid (fun W k=>by have h:=around_any tb gl go n cl co fr m l L W (HS1.out.kp k).trw hln (by omega) hL hco hm hfm HPL.out;rw [Int.natCast_add] at h;exact h)
    have c1':(0:Int)≤(i:Int):=by omega
    have c2':(i:Int)<(nn1:Int):=by omega
    clear hs1 hxs hkx hnv hOW hptS hcl
    go_upto_region 3 with fail
    refine wp_region_noPanic ?_
    refine wp_region_held_drew (S:=fun w'=>KX [gn] wr w') (by kernel_rfl) ?_ (fun hHeld=>?_)
    ·exact (KX.refl _).drew
    obtain ⟨WD,hWD⟩:∃ W,wr.drew=W:=⟨_,rfl⟩
    have KD:Kp wr WD:=by rw [← hWD];exact kp_drew (kp_refl _)
    rw [hWD] at hHeld ⊢
    refine take_yes (i:=0) (d:=28) (v:=?_) rfl rfl (by kernel_rfl) (by kernel_rfl) (by kernel_rfl) (fun _ _ _ h=>h) (by rfl) ?_ hHeld ?_
    rotate_left
    ·intro wq hSw;(try dsimp only at hSw);have q0:=hSw.cell ptr1 hptg;have q1:=hSw.cell t3 htg;go_simp;(try with_reducible rfl)
    (try simp only [Act.put,List.setIfInBounds_toArray,List.set_cons_zero,List.set_cons_succ])
    refine take_yes (i:=1) (d:=29) (v:=?_) rfl rfl (by kernel_rfl) (by kernel_rfl) (by kernel_rfl) (fun _ _ _ h=>h) (by rfl) ?_ hHeld ?_
    rotate_left
    ·intro wq hSw;(try dsimp only at hSw);go_simp;(try with_reducible rfl)
    (try simp only [Act.put,List.setIfInBounds_toArray,List.set_cons_zero,List.set_cons_succ])
    refine take_yes (i:=2) (d:=30) (v:=?_) rfl rfl (by kernel_rfl) (by kernel_rfl) (by kernel_rfl) (fun _ _ _ h=>h) (by rfl) ?_ hHeld ?_
    rotate_left
    ·intro wq hSw;(try dsimp only at hSw);go_simp;(try with_reducible rfl)
    (try simp only [Act.put,List.setIfInBounds_toArray,List.set_cons_zero,List.set_cons_succ])
    refine take_yes (i:=3) (d:=31) (v:=?_) rfl rfl (by kernel_rfl) (by kernel_rfl) (by kernel_rfl) (fun _ _ _ h=>h) (by rfl) ?_ hHeld ?_
    rotate_left
    ·intro wq hSw;(try dsimp only at hSw);have q0:=hSw.cell ptr1 hptg;have q1:=hSw.cell t3 htg;go_simp;(try with_reducible rfl)
    (try simp only [Act.put,List.setIfInBounds_toArray,List.set_cons_zero,List.set_cons_succ])
    refine take_yes (i:=4) (d:=32) (v:=?_) rfl rfl (by kernel_rfl) (by kernel_rfl) (by kernel_rfl) (fun _ _ _ h=>h) (by rfl) ?_ hHeld ?_
    rotate_left
    ·intro wq hSw;(try dsimp only at hSw);go_simp;(try with_reducible rfl)
    (try simp only [Act.put,List.setIfInBounds_toArray,List.set_cons_zero,List.set_cons_succ])
    refine take_yes (i:=5) (d:=33) (v:=?_) rfl rfl (by kernel_rfl) (by kernel_rfl) (by kernel_rfl) (fun _ _ _ h=>h) (by rfl) ?_ hHeld ?_
    rotate_left
    ·intro wq hSw;(try dsimp only at hSw);go_simp;(try with_reducible rfl)
    (try simp only [Act.put,List.setIfInBounds_toArray,List.set_cons_zero,List.set_cons_succ])
    refine take_yes (i:=6) (d:=34) (v:=?_) rfl rfl (by kernel_rfl) (by kernel_rfl) (by kernel_rfl) (fun _ _ _ h=>h) (by rfl) ?_ hHeld ?_
    rotate_left
    ·intro wq hSw;(try dsimp only at hSw);go_simp;(try with_reducible rfl)
    (try simp only [Act.put,List.setIfInBounds_toArray,List.set_cons_zero,List.set_cons_succ])
    refine take_yes (i:=7) (d:=35) (v:=?_) rfl rfl (by kernel_rfl) (by kernel_rfl) (by kernel_rfl) (fun _ _ _ h=>h) (by rfl) ?_ hHeld ?_
    rotate_left
    ·intro wq hSw;(try dsimp only at hSw);have q0:=hSw.cell ptr1 hptg;have q1:=hSw.cell t3 htg;go_simp;(try with_reducible rfl)
    (try simp only [Act.put,List.setIfInBounds_toArray,List.set_cons_zero,List.set_cons_succ])
    refine take_yes (i:=8) (d:=36) (v:=?_) rfl rfl (by kernel_rfl) (by kernel_rfl) (by kernel_rfl) (fun _ _ _ h=>h) (by rfl) ?_ hHeld ?_
    rotate_left
    ·intro wq hSw;(try dsimp only at hSw);go_simp;(try with_reducible rfl)
    (try simp only [Act.put,List.setIfInBounds_toArray,List.set_cons_zero,List.set_cons_succ])
    refine take_yes (i:=9) (d:=37) (v:=?_) rfl rfl (by kernel_rfl) (by kernel_rfl) (by kernel_rfl) (fun _ _ _ h=>h) (by rfl) ?_ hHeld ?_
    rotate_left
    ·intro wq hSw;(try dsimp only at hSw);go_simp;(try with_reducible rfl)
    (try simp only [Act.put,List.setIfInBounds_toArray,List.set_cons_zero,List.set_cons_succ])
    refine wpAnyH_ready (rs:=[10]) (by kernel_rfl) (by simp) ?_
    refine (AllReadyH.cons rfl (fun K' hK=>?_) AllReadyH.nil)
    go_simp
    go_at_call 220
    refine (HAR.out _ KD).mono ?_
    rintro e w2 ⟨⟨x0,x1,x2,x3⟩,rfl,hin,hin1x,hk2⟩
    have K2:=kp_trans KD hk2
    have HS2:=Lib.hid (HS1.out.kp K2)
    have q0:=kp_cell K2 e0
    have q1:=kp_cell K2 e1
    have q2:=kp_cell K2 e2
    have q3:=kp_cell K2 e3
    have q4:=kp_cell K2 e4
    have q5:=kp_cell K2 e5
    have r2:=(K2.block gn (Array.getElem?_eq_some_iff.1 hgn).1).trans hgn
    have f2:=fun o=>frozen_of_row w2 gn o _ _ r2
    have lq:=cell_lt q0
    have HIN:=Lib.hid hin
    have HIN1:=Lib.hid hin1x
    clear hin hin1x hk2
    refine hK.out _ _ ?_ (fun hHeld=>?_)
    ·exact KX.of K2
    clear hK K'
    (try simp only [Act.put,List.setIfInBounds_toArray,List.set_cons_zero,List.set_cons_succ])
    refine take_yes (i:=11) (d:=39) (v:=?_) rfl rfl (by kernel_rfl) (by kernel_rfl) (by kernel_rfl) (fun _ _ _ h=>h) (by rfl) ?_ hHeld ?_
    rotate_left
    ·intro wq hSw;(try dsimp only at hSw);go_simp;(try with_reducible rfl)
    (try simp only [Act.put,List.setIfInBounds_toArray,List.set_cons_zero,List.set_cons_succ])
    refine take_yes (i:=12) (d:=40) (v:=?_) rfl rfl (by kernel_rfl) (by kernel_rfl) (by kernel_rfl) (fun _ _ _ h=>h) (by rfl) ?_ hHeld ?_
    rotate_left
    ·intro wq hSw;(try dsimp only at hSw);go_simp;(try with_reducible rfl)
    (try simp only [Act.put,List.setIfInBounds_toArray,List.set_cons_zero,List.set_cons_succ])
    refine wpAnyH_ready (rs:=[13]) (by kernel_rfl) (by simp) ?_
    refine (AllReadyH.cons rfl (fun K' hK=>?_) AllReadyH.nil)
    go_simp
    refine hK.out _ _ ?_ (fun hHeld=>?_)
    ·exact (((((((KX.of K2).set (a:=⟨gn,i * 6,none⟩) (.inl (by simp)) (.int .i64 fr)).set (a:=⟨gn,i * 6+1,none⟩) (.inl (by simp)) (.int .i64 ((fr:Int)+(m:Int)))).set (a:=⟨gn,i * 6+2,none⟩) (.inl (by simp)) (.int .i64 x0)).set (a:=⟨gn,i * 6+3,none⟩) (.inl (by simp)) (.int .i64 x1)).set (a:=⟨gn,i * 6+4,none⟩) (.inl (by simp)) (.int .i64 x2)).set (a:=⟨gn,i * 6+5,none⟩) (.inl (by simp)) (.int .i64 x3))
    clear hK K'
    (try simp only [Act.put,List.setIfInBounds_toArray,List.set_cons_zero,List.set_cons_succ])
    refine wpAnyH_done (by kernel_rfl) ?_ _
    refine NoPanic.normal ?_
    have X3:KX [gn] w2 ((((((w2.setCell ⟨gn,i * 6,none⟩ (.int .i64 fr)).setCell ⟨gn,i * 6+1,none⟩ (.int .i64 ((fr:Int)+(m:Int)))).setCell ⟨gn,i * 6+2,none⟩ (.int .i64 x0)).setCell ⟨gn,i * 6+3,none⟩ (.int .i64 x1)).setCell ⟨gn,i * 6+4,none⟩ (.int .i64 x2)).setCell ⟨gn,i * 6+5,none⟩ (.int .i64 x3)):=(((((((KX.refl (S:=[gn]) w2).set (a:=⟨gn,i * 6,none⟩) (.inl (by simp)) (.int .i64 fr)).set (a:=⟨gn,i * 6+1,none⟩) (.inl (by simp)) (.int .i64 ((fr:Int)+(m:Int)))).set (a:=⟨gn,i * 6+2,none⟩) (.inl (by simp)) (.int .i64 x0)).set (a:=⟨gn,i * 6+3,none⟩) (.inl (by simp)) (.int .i64 x1)).set (a:=⟨gn,i * 6+4,none⟩) (.inl (by simp)) (.int .i64 x2)).set (a:=⟨gn,i * 6+5,none⟩) (.inl (by simp)) (.int .i64 x3))
    have own3:=(ownsRow_set (ownsRow_set (ownsRow_set (ownsRow_set (ownsRow_set (ownsRow_set HS2.out.own (g:=gn) (j:=i * 6) rfl (by omega) (.int .i64 fr)) (g:=gn) (j:=i * 6+1) rfl (by omega) (.int .i64 ((fr:Int)+(m:Int)))) (g:=gn) (j:=i * 6+2) rfl (by omega) (.int .i64 x0)) (g:=gn) (j:=i * 6+3) rfl (by omega) (.int .i64 x1)) (g:=gn) (j:=i * 6+4) rfl (by omega) (.int .i64 x2)) (g:=gn) (j:=i * 6+5) rfl (by omega) (.int .i64 x3))
    obtain ⟨w3,hw3⟩:∃ X,((((((w2.setCell ⟨gn,i * 6,none⟩ (.int .i64 fr)).setCell ⟨gn,i * 6+1,none⟩ (.int .i64 ((fr:Int)+(m:Int)))).setCell ⟨gn,i * 6+2,none⟩ (.int .i64 x0)).setCell ⟨gn,i * 6+3,none⟩ (.int .i64 x1)).setCell ⟨gn,i * 6+4,none⟩ (.int .i64 x2)).setCell ⟨gn,i * 6+5,none⟩ (.int .i64 x3))=X:=⟨_,rfl⟩
    rw [hw3] at own3 X3 hHeld ⊢
    clear hw3 q0 q1 q2 q3 q4 q5 f2 lq r2
    obtain ⟨ys,hys⟩:∃ ys,setNode xs1 i fr (fr+m) (x0,x1,x2,x3)=ys:=⟨_,rfl⟩
    have HN3:Hid (NodeAt ys i fr (fr+m) (x0,x1,x2,x3)):=Lib.hid (by rw [← hys];exact setNode_at _ _ _ _ _ (by rw [HLX.out];omega))
    have HSM:Hid (∀ k,k≠i→SameN xs1 ys k):=Lib.hid (fun k hk=>by rw [← hys];exact setNode_same _ _ _ _ _ _ hk)
    have hgnO:=HOW.out gn rfl
    have HS3:Hid (TrS tb gl go n cl co B l L (.slice (some ⟨gn,0,none⟩) nn1 c1) nn1 ys w3):=Lib.hid ⟨X3.row HS2.out.row (by simp;omega),HS2.out.b.kx X3 (by simp;omega),HS2.out.r.kx X3 (by simp;omega),by rw [← hys];unfold setNode;rw [Int.natCast_add];exact own3⟩
    clear hys own3
    have X13:KX (tb :: nv.ownBlock.toList) w1 w3:=(HKX.out.kp K2).trans X3 (fun b hb=>by simp only [List.mem_singleton] at hb;subst hb;exact (HNV.out b rfl).elim (fun h=>.inl (by simp [h])) (fun h=>.inr (by omega)))
    have HX13:=Lib.hid X13
    clear X13 X3
    by_cases hm1:m=1
    ·subst hm1
     have z4:(fr:Int)+1 - (fr:Int)<2:=by omega
     have z5:(fr:Int)+1 - (fr:Int)=1:=by omega
     go_wp2_with fail
     refine bodyPost_ret (v:=.tuple #[]) (results_none rfl _ _ _) rfl ⟨rfl,L,.slice (some ⟨gn,0,none⟩) nn1 c1,nn1,ys,HS3.out,PermAt.refl L fr 1 (by omega),hnn1,by omega,?_,Cov.leaf (by have h:=HIN1.out (by simp);have h2:(x0,x1,x2,x3)=bxOf l (L.getD fr 0):=h;rw [← h2];exact HN3.out),?_,?_⟩
     ·intro k hk hd
      have hki:k≠i:=fun e=>hd (by rw [e];exact .self _)
      intro c hc
      rw [HSM.out k hki c hc]
      exact HXS.out _ (by omega)
     ·exact KX.trans (KX.of K1) HX13.out (fun b hb=>by simp only [List.mem_cons,Option.mem_toList] at hb ⊢;rcases hb with rfl | hb;exact .inl (.inl rfl);exact .inl (.inr (.inr hb)))
     ·intro b hb
      exact (HNV.out b hb).elim .inl (fun h=>.inr (by omega))
    ·have hm2:2≤m:=by omega
     have z4:¬ (fr:Int)+(m:Int) - (fr:Int)<2:=by omega
     have z5:(fr:Int)+(m:Int) - (fr:Int)=(m:Int):=by omega
     obtain ⟨a,ha⟩:∃ a,(m+1) / 2=a:=⟨_,rfl⟩
     obtain ⟨b,hb⟩:∃ b,m / 2=b:=⟨_,rfl⟩
     have hab:a+b=m:=by omega
     have ha1:0<a:=by omega
     have hb1:0<b:=by omega
     have ht:Int.tdiv ((m:Int)+1) 2=(a:Int):=by rw [Int.tdiv_eq_ediv_of_nonneg (by omega)];omega
     have ht2:((m:Int)+1) / 2=(a:Int):=by omega
     have hpw:2 ^ (40 - m) * 2≤2 ^ (40 - a):=by rw [← Nat.pow_succ];exact Nat.pow_le_pow_right (by decide) (by omega)
     have hpw2:2 ^ (40 - m) * 2≤2 ^ (40 - b):=by rw [← Nat.pow_succ];exact Nat.pow_le_pow_right (by decide) (by omega)
     have HPW:Hid ((2 * i+1)+2≤2 ^ (40 - a)∧(2 * i+2)+2≤2 ^ (40 - b)):=Lib.hid ⟨by have:=HI0.out;omega,by have:=HI0.out;omega⟩
     clear hpw hpw2
     have hS0:pt∉tb :: nv.ownBlock.toList∧pt+1∉tb :: nv.ownBlock.toList:=by
      constructor <;> (simp only [List.mem_cons,Option.mem_toList,not_or];exact ⟨by omega,fun h=>by have:=hOWN0.out _ h;omega⟩)
     have ptr3:=HX13.out.cell cpt hS0.1
     have par3:=HX13.out.cell cpa hS0.2
     have hptg2:pt≠gn∧pt+1≠gn:=by
      constructor
      ·simpa using hptg
      ·intro e;rcases HNV.out gn rfl with h | h
       ·have:=hOWN0.out gn h;omega
       ·omega
     obtain ⟨P,M,S,hPMS,hPl,hMl⟩:∃ P M S,L=P++M++S∧P.length=fr∧M.length=m:=⟨L.take fr,(L.drop fr).take m,(L.drop fr).drop m,by rw [List.append_assoc,List.take_append_drop,List.take_append_drop],by simp;omega,by simp;omega⟩
     have hplM:Plc n M:=by
      intro j hj
      have h:=HPL.out (fr+j) (by omega)
      rw [hPMS,← hPl,get_mid _ _ _ _ hj] at h
      exact h
     have HSO:=Lib.hid (sortf_any pt (pt+1) tb gl n cl l across hln (by omega) hok go (co - fr) m fr P M S w3 ⟨ptr3,par3,HS3.out.c1,HS3.out.b⟩ (by rw [← hPMS];exact HS3.out.r) hMl hPl (by omega) hplM ⟨by omega,by omega,by omega,by omega⟩)
     have t2:=HS3.out.c2
     have lt2:=cell_lt t2
     have lp3:=cell_lt ptr3
     have lp4:=cell_lt par3
     have g0:(0:Int)≤(fr:Int):=by omega
     have g1:(fr:Int)≤(fr:Int)+(m:Int):=by omega
     have g2:(fr:Int)+(m:Int)≤(co:Int):=by omega
     have g3:(0:Int)≤(fr:Int)+(m:Int):=by omega
     have g4:((fr:Int)+(m:Int)).toNat - fr=m:=by omega
     have g6:fr+m - fr=m:=by omega
     have wi1:IntKind.i64.wrap ((m:Int)+1)=(m:Int)+1:=IntWalk.i64_in _ (by omega)
     have wi2:IntKind.i64.wrap ((fr:Int)+(a:Int))=(fr:Int)+(a:Int):=IntWalk.i64_in _ (by omega)
     have wi3:IntKind.i64.wrap (2 * (i:Int))=2 * (i:Int):=IntWalk.i64_in _ (by omega)
     have wi4:IntKind.i64.wrap (2 * (i:Int)+1)=2 * (i:Int)+1:=IntWalk.i64_in _ (by omega)
     have wi5:IntKind.i64.wrap (2 * (i:Int)+2)=2 * (i:Int)+2:=IntWalk.i64_in _ (by omega)
     have wi6:IntKind.i64.wrap (a:Int)=(a:Int):=IntWalk.i64_in _ (by omega)
     have wi7:IntKind.i64.wrap (m:Int)=(m:Int):=IntWalk.i64_in _ (by omega)
     have HPMS:=Lib.hid hPMS;have HPl:=Lib.hid hPl;have HMl:=Lib.hid hMl
     have HBo:=Lib.hid hok
     clear hplM hPMS hPl hMl
     go_upto_region 7 with (go_at_call 147;refine HSO.out.mono ?_;rintro e w5 ⟨rfl,M1,hrow5,hpm5,hk5⟩)
     have ptr5:=hk5.cell ptr3 (by simp;omega)
     have par5:=hk5.cell par3 (by simp;omega)
     have HP5:Hid (PermAt L (P++M1++S) fr m):=Lib.hid ⟨P,M,M1,S,HPMS.out,rfl,HPl.out,HMl.out,hpm5⟩
     have HS5:Hid (TrS tb gl go n cl co B l (P++M1++S) (.slice (some ⟨gn,0,none⟩) nn1 c1) nn1 ys w5):=Lib.hid ⟨hk5.row HS3.out.row (by simp;omega),HS3.out.b.kx hk5 (by simp;omega),hrow5,ownsRow_kx HS3.out.own hk5 (fun g hg=>by simp [Value.ownBlock] at hg;simp;omega)⟩
     obtain ⟨L1,hL1⟩:∃ L1,P++M1++S=L1:=⟨_,rfl⟩
     rw [hL1] at HP5 HS5
     have HK5:=Lib.hid hk5
     have hlen1:=HP5.out.len
     have hpl1:∀ k,k<n→∃ j:Nat,L1.getD k 0=j∧j<n:=fun k hk=>by
      by_cases hkr:fr≤k∧k<fr+m
      ·exact HP5.out.all (Q:=fun z=>∃ j:Nat,z=j∧j<n) (fun q h1 h2=>HPL.out q (by omega)) k hkr.1 hkr.2
      ·rw [HP5.out.out k (by omega)];exact HPL.out k hk
     have hBw5:B≤w5.heap.size:=by have:=hk5.size;have:=HX13.out.size;omega
     have HI1:=Lib.hid (by have h:=HIH.out a (by omega) (2 * i+1) fr (!across) L1 _ nn1 ys w5 ha1 (by omega) HPW.out.1 HS5.out (by omega) (by omega) hpl1 hBw5;rw [show ((2 * i+1:Nat):Int)=2 * (i:Int)+1 by omega,show ((fr+a:Nat):Int)=(fr:Int)+(a:Int) by omega] at h;exact h)
     clear hrow5 hpm5 hk5 hL1 HSO ptr3 par3 t2
     have lp5:=cell_lt ptr5
     go_upto_region 8 with (go_at_call 140;refine HI1.out.mono ?_;rintro e w7 ⟨rfl,L2,nv2,nn2,xs2,hs7,hp7,hn7,hn7b,hsm7,hcv7,hk7,hnv7⟩)
     have hg7:pt∉tb :: go :: (Value.slice (some ⟨gn,0,none⟩) nn1 c1).ownBlock.toList∧pt+1∉tb :: go :: (Value.slice (some ⟨gn,0,none⟩) nn1 c1).ownBlock.toList:=by
      constructor <;> (simp [Value.ownBlock];omega)
     have ptr7:=hk7.cell ptr5 hg7.1
     have par7:=hk7.cell par5 hg7.2
     have HS7:=Lib.hid hs7;have HP7:=Lib.hid hp7;have HSM7:=Lib.hid hsm7;have HCV7:=Lib.hid hcv7;have HK7:=Lib.hid hk7;have HNV7:=Lib.hid hnv7
     have hlen2:=hp7.len
     have hpl2:∀ k,k<n→∃ j:Nat,L2.getD k 0=j∧j<n:=fun k hk=>by
      by_cases hkr:fr≤k∧k<fr+a
      ·exact HP7.out.all (Q:=fun z=>∃ j:Nat,z=j∧j<n) (fun q h1 h2=>hpl1 q (by omega)) k hkr.1 hkr.2
      ·rw [HP7.out.out k (by omega)];exact hpl1 k hk
     have hBw7:B≤w7.heap.size:=by have:=hk7.size;omega
     have HI2:=Lib.hid (by have h:=HIH.out b (by omega) (2 * i+2) (fr+a) (!across) L2 nv2 nn2 xs2 w7 hb1 (by omega) HPW.out.2 hs7 hn7b (by omega) hpl2 hBw7;rw [show fr+a+b=fr+m by omega,show ((2 * i+2:Nat):Int)=2 * (i:Int)+2 by omega,show ((fr+a:Nat):Int)=(fr:Int)+(a:Int) by omega,show ((fr+m:Nat):Int)=(fr:Int)+(m:Int) by omega] at h;exact h)
     clear hs7 hp7 hsm7 hcv7 hk7 hnv7 HI1
     have lp7:=cell_lt ptr7
     go_wp2_with (go_at_call 140;refine HI2.out.mono ?_;rintro e w8 ⟨rfl,L3,nv3,nn3,xs3,hs8,hp8,hn8,hn8b,hsm8,hcv8,hk8,hnv8⟩)
     go_end0
     have hPA:PermAt L L3 fr m:=(HP5.out.trans (HP7.out.wide (Nat.le_refl _) (by omega) (by omega))).trans (hp8.wide (by omega) (by omega) (by omega))
     have hX:KX (tb :: go :: nv.ownBlock.toList) w w3:=KX.trans (KX.of K1) HX13.out (fun q hq=>by simp only [List.mem_cons,Option.mem_toList] at hq ⊢;rcases hq with rfl | hq;exact .inl (.inl rfl);exact .inl (.inr (.inr hq)))
     have hgq:nv.ownBlock=some gn∨w.heap.size≤gn:=(HNV.out gn rfl).elim .inl (fun h=>.inr (by omega))
     have hX5:=hX.trans HK5.out (fun q hq=>by simp at hq;subst hq;exact .inl (by simp))
     have hX7:=hX5.trans HK7.out (fun q hq=>by simp only [List.mem_cons,Option.mem_toList,Value.ownBlock,Option.some.injEq] at hq ⊢;rcases hq with rfl | rfl | rfl;exact .inl (.inl rfl);exact .inl (.inr (.inl rfl));exact hgq.elim (fun h=>.inl (.inr (.inr h))) .inr)
     have hnq:∀ q,nv2.ownBlock=some q→nv.ownBlock=some q∨w.heap.size≤q:=fun q hq=>by
      rcases HNV7.out q hq with h | h
      ·simp only [Value.ownBlock,Option.some.injEq] at h;subst h;exact hgq
      ·exact .inr (Nat.le_trans hX5.size h)
     have hX8:=hX7.trans hk8 (fun q hq=>by simp only [List.mem_cons,Option.mem_toList] at hq ⊢;rcases hq with rfl | rfl | hq;exact .inl (.inl rfl);exact .inl (.inr (.inl rfl));exact (hnq q hq).elim (fun h=>.inl (.inr (.inr h))) .inr)
     have hN8:NodeAt xs3 i fr (fr+m) (x0,x1,x2,x3):=(HN3.out.same (HSM7.out i hin1 (fun h=>h.left_ne rfl))).same (hsm8 i (by omega) (fun h=>h.right_ne rfl))
     refine ⟨rfl,L3,nv3,nn3,xs3,hs8,hPA,by omega,hn8b,?_,?_,hX8,?_⟩
     ·intro k hk hd
      have hki:k≠i:=fun e=>hd (by rw [e];exact .self _)
      have s1:SameN xs xs1 k:=fun c hc=>HXS.out _ (by omega)
      exact ((s1.trans (HSM.out k hki)).trans (HSM7.out k (by omega) (fun h=>hd (.left h)))).trans (hsm8 k (by omega) (fun h=>hd (.right h)))
     ·refine Cov.node hm2 hN8 (hPA.all (Q:=fun z=>InBx (bxOf l z) (x0,x1,x2,x3)) HIN.out) ?_ ?_
      ·rw [ha]
       exact HCV7.out.keep (fun k hd hkl=>hsm8 k (by rw [HS7.out.own.1] at hkl;omega) (Desc.apart k hd)) (fun k h1 h2=>hp8.out k (by omega))
      ·rw [ha,hb]
       exact hcv8
     ·intro q hq
      rcases hnv8 q hq with h | h
      ·exact hnq q h
      ·exact .inr (Nat.le_trans hX7.size h)
end Go.Proofs.YtgliljnbajohhaaGreatDoor
