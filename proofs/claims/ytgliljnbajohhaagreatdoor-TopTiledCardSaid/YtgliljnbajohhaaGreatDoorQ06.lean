import Derived.Test.YtgliljnbajohhaaGreatDoorQ05
import Derived.ChangeKeysEq
set_option linter.unusedVariables false
set_option linter.unusedSimpArgs false
namespace Go.Proofs.YtgliljnbajohhaaGreatDoor
open Go.RowKit Go.Proofs.Geo
theorem OwnP.shape {w:World} {B:Nat} {v:Value} {l:List Pt} (h:OwnP w B v l):∃ a cap,v=.slice a l.length cap:=by
 obtain ⟨_,⟨h1,h2⟩ | ⟨g,cap,cur,hv,_⟩⟩:=h
 ·rw [h2];exact ⟨none,0,h1⟩
 ·exact ⟨_,_,hv⟩
def LenEnd (w:World) (n:Nat) (e:Ending) (w':World):Prop:=∃ a cap,e=.returned (.slice a n cap)∧Kp w w'
theorem ends_len_any (ax ay bx bY cx cy dx dy:Int) (w:World):Calls Tryz.prog 288 #[pv ax ay,pv bx bY,pv cx cy,pv dx dy] w (LenEnd w (ends (ax,ay) (bx,bY) (cx,cy) (dx,dy)).length) :=
 (ends_any ax ay bx bY cx cy dx dy w).mono fun _ _ ⟨_,he,ho,hk⟩=>by
  obtain ⟨a,cap,rfl⟩:=ho.shape
  exact ⟨a,cap,he,hk⟩
theorem cellsInt:Tryz.prog.cellsOf 3 = 1:=by kernel_rfl
theorem infoInt:∃ i,Tryz.prog.info? 3 = some i:=Option.isSome_iff_exists.1 (by kernel_rfl)
theorem run_eq4 (t1 t2 t3 t4 u1 u2 u3 u4:Int) (w:World) :
  (Op.equalIn 10000 464 (.agg #[.int .i64 t1,.int .i64 t2,.int .i64 t3,.int .i64 t4]) (.agg #[.int .i64 u1,.int .i64 u2,.int .i64 u3,.int .i64 u4])).run Tryz.prog w=.ok (t1 == u1 && (t2 == u2 && (t3 == u3 && t4 == u4))) w:=by
 obtain ⟨i,hi⟩:=infoInt
 rw [show (10000:Nat)=9999+1 from rfl,run_equalIn_array w 9999 _ _ Tryz.underlying464 hi,cellsInt]
 have e:∀ (a b:Int) (w:World),(Op.equalIn 9999 3 (.int .i64 a) (.int .i64 b)).run Tryz.prog w=.ok (a == b) w:=fun a b w=>run_equalIn_int w 9998 3 .i64 .i64 a b Tryz.underlying3
 have hr:List.range 4=[0,1,2,3]:=rfl
 rw [hr]
 simp [Op.eqItems,go_sem,e]
 by_cases h1:t1=u1 <;> by_cases h2:t2=u2 <;> by_cases h3:t3=u3 <;> by_cases h4:t4=u4 <;> simp [h1,h2,h3,h4]
theorem pat_iff {a b c d:Int} (ha:-1≤a∧a≤1) (hb:-1≤b∧b≤1) (hc:-1≤c∧c≤1) (hd:-1≤d∧d≤1) :
  (decide (a * b<0) && decide (c * d<0))=true↔((a=1∧b = -1)∨(a = -1∧b=1))∧((c=1∧d = -1)∨(c = -1∧d=1)):=by
 have k:∀ x y:Int,(-1≤x∧x≤1)→(-1≤y∧y≤1)→(x * y<0↔(x=1∧y = -1)∨(x = -1∧y=1)):=by
  intro x y hx hy
  have e1:x = -1∨x=0∨x=1:=by omega
  have e2:y = -1∨y=0∨y=1:=by omega
  rcases e1 with rfl | rfl | rfl <;> rcases e2 with rfl | rfl | rfl <;> decide
 rw [Bool.and_eq_true,decide_eq_true_eq,decide_eq_true_eq,k a b ha hb,k c d hc hd]
theorem pat_no {a b c d:Int} (ha:-1≤a∧a≤1) (hb:-1≤b∧b≤1) (hc:-1≤c∧c≤1) (hd:-1≤d∧d≤1) (h:¬ (decide (a * b<0) && decide (c * d<0))=true) :
  (a == 1 && (b == -1 && (c == 1 && d == -1)))=false∧(a == 1 && (b == -1 && (c == -1 && d == 1)))=false∧(a == -1 && (b == 1 && (c == 1 && d == -1)))=false∧(a == -1 && (b == 1 && (c == -1 && d == 1)))=false:=by
 rw [pat_iff ha hb hc hd] at h
 simp only [Bool.and_eq_false_iff,beq_eq_false_iff_ne,ne_eq]
 omega
theorem cross_cases (a b c d:Pt) :
  (crossB a b c d=true∧turn a b c=1∧turn a b d = -1∧turn c d a=1∧turn c d b = -1)∨(crossB a b c d=true∧turn a b c=1∧turn a b d = -1∧turn c d a = -1∧turn c d b=1) ∨
  (crossB a b c d=true∧turn a b c = -1∧turn a b d=1∧turn c d a=1∧turn c d b = -1)∨(crossB a b c d=true∧turn a b c = -1∧turn a b d=1∧turn c d a = -1∧turn c d b=1) ∨
  (crossB a b c d=false∧(turn a b c == 1 && (turn a b d == -1 && (turn c d a == 1 && turn c d b == -1)))=false∧(turn a b c == 1 && (turn a b d == -1 && (turn c d a == -1 && turn c d b == 1)))=false ∧
   (turn a b c == -1 && (turn a b d == 1 && (turn c d a == 1 && turn c d b == -1)))=false∧(turn a b c == -1 && (turn a b d == 1 && (turn c d a == -1 && turn c d b == 1)))=false):=by
 have b1:=turn_bd a b c;have b2:=turn_bd a b d;have b3:=turn_bd c d a;have b4:=turn_bd c d b
 have hi:=pat_iff b1 b2 b3 b4
 cases h:crossB a b c d
 ·right;right;right;right
  exact ⟨rfl,pat_no b1 b2 b3 b4 (by unfold crossB at h;rw [h];decide)⟩
 ·have:=hi.1 h
  simp only [true_and]
  omega
set_option maxHeartbeats 8000000 in
set_option maxRecDepth 100000 in
theorem meets_no1 (ax ay bx bY cx cy dx dy:Int) (hm1:may (ax,ay) (bx,bY)=false) (w:World):Calls Tryz.prog 216 #[pv ax ay,pv bx bY,pv cx cy,pv dx dy] w fun e w'=>e=.returned (.int .i64 (meets (ax,ay) (bx,bY) (cx,cy) (dx,dy)))∧Kp w w':=by
 have H:Hid (meets (ax,ay) (bx,bY) (cx,cy) (dx,dy)=0):=Lib.hid (by simp [meets,hm1])
 go_enter Tryz.func216,Tryz.ntmps216
 go_wp2_with (go_at_call_of 287 (Value.agg #[Value.int .i64 ax,Value.int .i64 ay]);refine (may_any _ _ _ _ _).mono ?_;rintro e w1 ⟨rfl,hk⟩;have c0:w1.cell? ⟨w.heap.size,0,none⟩=some (.int .i64 ax):=kp_cell hk (by simp [go_sem]);have c1:w1.cell? ⟨w.heap.size,1,none⟩=some (.int .i64 ay):=kp_cell hk (by simp [go_sem]);have c2:w1.cell? ⟨w.heap.size+1,0,none⟩=some (.int .i64 bx):=kp_cell hk (by simp [go_sem]);have c3:w1.cell? ⟨w.heap.size+1,1,none⟩=some (.int .i64 bY):=kp_cell hk (by simp [go_sem]);have c4:w1.cell? ⟨w.heap.size+1+1,0,none⟩=some (.int .i64 cx):=kp_cell hk (by simp [go_sem]);have c5:w1.cell? ⟨w.heap.size+1+1,1,none⟩=some (.int .i64 cy):=kp_cell hk (by simp [go_sem]);have c6:w1.cell? ⟨w.heap.size+1+1+1,0,none⟩=some (.int .i64 dx):=kp_cell hk (by simp [go_sem]);have c7:w1.cell? ⟨w.heap.size+1+1+1,1,none⟩=some (.int .i64 dy):=kp_cell hk (by simp [go_sem]);have K:Kp w w1:=kp_trans (by repeat (first | exact kp_refl _ | apply kp_alloc | apply kp_drew)) hk;have l0:w.heap.size<w1.heap.size:=cell_lt c0;have l2:w.heap.size+1<w1.heap.size:=cell_lt c2;have l4:w.heap.size+1+1<w1.heap.size:=cell_lt c4;have l6:w.heap.size+1+1+1<w1.heap.size:=cell_lt c6;clear hk)
 go_ret
 exact ⟨ret_int H.out.symm,K⟩
set_option maxHeartbeats 8000000 in
set_option maxRecDepth 100000 in
theorem meets_no2 (ax ay bx bY cx cy dx dy:Int) (hm1:may (ax,ay) (bx,bY)=true) (hm2:may (cx,cy) (dx,dy)=false) (w:World):Calls Tryz.prog 216 #[pv ax ay,pv bx bY,pv cx cy,pv dx dy] w fun e w'=>e=.returned (.int .i64 (meets (ax,ay) (bx,bY) (cx,cy) (dx,dy)))∧Kp w w':=by
 have H:Hid (meets (ax,ay) (bx,bY) (cx,cy) (dx,dy)=0):=Lib.hid (by simp [meets,hm2])
 go_enter Tryz.func216,Tryz.ntmps216
 go_wp2_with (first
  | (go_at_call_of 287 (Value.agg #[Value.int .i64 ax,Value.int .i64 ay]);refine (may_any _ _ _ _ _).mono ?_;rintro e w1 ⟨rfl,hk⟩;have c0:w1.cell? ⟨w.heap.size,0,none⟩=some (.int .i64 ax):=kp_cell hk (by simp [go_sem]);have c1:w1.cell? ⟨w.heap.size,1,none⟩=some (.int .i64 ay):=kp_cell hk (by simp [go_sem]);have c2:w1.cell? ⟨w.heap.size+1,0,none⟩=some (.int .i64 bx):=kp_cell hk (by simp [go_sem]);have c3:w1.cell? ⟨w.heap.size+1,1,none⟩=some (.int .i64 bY):=kp_cell hk (by simp [go_sem]);have c4:w1.cell? ⟨w.heap.size+1+1,0,none⟩=some (.int .i64 cx):=kp_cell hk (by simp [go_sem]);have c5:w1.cell? ⟨w.heap.size+1+1,1,none⟩=some (.int .i64 cy):=kp_cell hk (by simp [go_sem]);have c6:w1.cell? ⟨w.heap.size+1+1+1,0,none⟩=some (.int .i64 dx):=kp_cell hk (by simp [go_sem]);have c7:w1.cell? ⟨w.heap.size+1+1+1,1,none⟩=some (.int .i64 dy):=kp_cell hk (by simp [go_sem]);have K:Kp w w1:=kp_trans (by repeat (first | exact kp_refl _ | apply kp_alloc | apply kp_drew)) hk;have l0:w.heap.size<w1.heap.size:=cell_lt c0;have l2:w.heap.size+1<w1.heap.size:=cell_lt c2;have l4:w.heap.size+1+1<w1.heap.size:=cell_lt c4;have l6:w.heap.size+1+1+1<w1.heap.size:=cell_lt c6;clear hk)
  | (go_at_call_of 287 (Value.agg #[Value.int .i64 cx,Value.int .i64 cy]);refine (may_any _ _ _ _ _).mono ?_;rintro e w2 ⟨rfl,hk⟩;replace c0:w2.cell? ⟨w.heap.size,0,none⟩=some (.int .i64 ax):=kp_cell hk (by first | exact c0 | exact cell_a c0 _ | exact cell_a (cell_a c0 _) _);replace c1:w2.cell? ⟨w.heap.size,1,none⟩=some (.int .i64 ay):=kp_cell hk (by first | exact c1 | exact cell_a c1 _ | exact cell_a (cell_a c1 _) _);replace c2:w2.cell? ⟨w.heap.size+1,0,none⟩=some (.int .i64 bx):=kp_cell hk (by first | exact c2 | exact cell_a c2 _ | exact cell_a (cell_a c2 _) _);replace c3:w2.cell? ⟨w.heap.size+1,1,none⟩=some (.int .i64 bY):=kp_cell hk (by first | exact c3 | exact cell_a c3 _ | exact cell_a (cell_a c3 _) _);replace c4:w2.cell? ⟨w.heap.size+1+1,0,none⟩=some (.int .i64 cx):=kp_cell hk (by first | exact c4 | exact cell_a c4 _ | exact cell_a (cell_a c4 _) _);replace c5:w2.cell? ⟨w.heap.size+1+1,1,none⟩=some (.int .i64 cy):=kp_cell hk (by first | exact c5 | exact cell_a c5 _ | exact cell_a (cell_a c5 _) _);replace c6:w2.cell? ⟨w.heap.size+1+1+1,0,none⟩=some (.int .i64 dx):=kp_cell hk (by first | exact c6 | exact cell_a c6 _ | exact cell_a (cell_a c6 _) _);replace c7:w2.cell? ⟨w.heap.size+1+1+1,1,none⟩=some (.int .i64 dy):=kp_cell hk (by first | exact c7 | exact cell_a c7 _ | exact cell_a (cell_a c7 _) _);replace K:Kp w w2:=kp_trans (by first | exact K | exact kp_drew K | exact kp_alloc K _ | exact kp_alloc (kp_drew K) _ | exact kp_alloc (kp_alloc K _) _ | exact kp_alloc (kp_alloc (kp_drew K) _) _) hk;replace l0:w.heap.size<w2.heap.size:=cell_lt c0;replace l2:w.heap.size+1<w2.heap.size:=cell_lt c2;replace l4:w.heap.size+1+1<w2.heap.size:=cell_lt c4;replace l6:w.heap.size+1+1+1<w2.heap.size:=cell_lt c6;clear hk))
 go_ret
 exact ⟨ret_int H.out.symm,K⟩
set_option maxHeartbeats 8000000 in
set_option maxRecDepth 100000 in
theorem meets_some (ax ay bx bY cx cy dx dy:Int) (hm1:may (ax,ay) (bx,bY)=true) (hm2:may (cx,cy) (dx,dy)=true) (hn:(ends (ax,ay) (bx,bY) (cx,cy) (dx,dy)).length≠0) (w:World):Calls Tryz.prog 216 #[pv ax ay,pv bx bY,pv cx cy,pv dx dy] w fun e w'=>e=.returned (.int .i64 (meets (ax,ay) (bx,bY) (cx,cy) (dx,dy)))∧Kp w w':=by
 obtain ⟨n,hN⟩:∃ n,(ends (ax,ay) (bx,bY) (cx,cy) (dx,dy)).length=n:=⟨_,rfl⟩
 have H:Hid (meets (ax,ay) (bx,bY) (cx,cy) (dx,dy)=if n=1 then 1 else 3):=Lib.hid (by rw [meets_of_len hm1 hm2 n hN,if_neg (by rw [← hN];exact hn)])
 have hz:((n:Int) == 0)=false:=by rw [← hN];simp;exact fun h=>hn (by rw [h];rfl)
 have HE:=Lib.hid (fun W=>ends_len_any ax ay bx bY cx cy dx dy W)
 rw [hN] at HE
 clear hn hN
 by_cases h1:n=1
 ·subst h1
  go_enter Tryz.func216,Tryz.ntmps216
  go_wp2_with (first
   | (go_at_call_of 287 (Value.agg #[Value.int .i64 ax,Value.int .i64 ay]);refine (may_any _ _ _ _ _).mono ?_;rintro e w1 ⟨rfl,hk⟩;have c0:w1.cell? ⟨w.heap.size,0,none⟩=some (.int .i64 ax):=kp_cell hk (by simp [go_sem]);have c1:w1.cell? ⟨w.heap.size,1,none⟩=some (.int .i64 ay):=kp_cell hk (by simp [go_sem]);have c2:w1.cell? ⟨w.heap.size+1,0,none⟩=some (.int .i64 bx):=kp_cell hk (by simp [go_sem]);have c3:w1.cell? ⟨w.heap.size+1,1,none⟩=some (.int .i64 bY):=kp_cell hk (by simp [go_sem]);have c4:w1.cell? ⟨w.heap.size+1+1,0,none⟩=some (.int .i64 cx):=kp_cell hk (by simp [go_sem]);have c5:w1.cell? ⟨w.heap.size+1+1,1,none⟩=some (.int .i64 cy):=kp_cell hk (by simp [go_sem]);have c6:w1.cell? ⟨w.heap.size+1+1+1,0,none⟩=some (.int .i64 dx):=kp_cell hk (by simp [go_sem]);have c7:w1.cell? ⟨w.heap.size+1+1+1,1,none⟩=some (.int .i64 dy):=kp_cell hk (by simp [go_sem]);have K:Kp w w1:=kp_trans (by repeat (first | exact kp_refl _ | apply kp_alloc | apply kp_drew)) hk;have l0:w.heap.size<w1.heap.size:=cell_lt c0;have l2:w.heap.size+1<w1.heap.size:=cell_lt c2;have l4:w.heap.size+1+1<w1.heap.size:=cell_lt c4;have l6:w.heap.size+1+1+1<w1.heap.size:=cell_lt c6;clear hk)
   | (go_at_call_of 287 (Value.agg #[Value.int .i64 cx,Value.int .i64 cy]);refine (may_any _ _ _ _ _).mono ?_;rintro e w2 ⟨rfl,hk⟩;replace c0:w2.cell? ⟨w.heap.size,0,none⟩=some (.int .i64 ax):=kp_cell hk (by first | exact c0 | exact cell_a c0 _ | exact cell_a (cell_a c0 _) _);replace c1:w2.cell? ⟨w.heap.size,1,none⟩=some (.int .i64 ay):=kp_cell hk (by first | exact c1 | exact cell_a c1 _ | exact cell_a (cell_a c1 _) _);replace c2:w2.cell? ⟨w.heap.size+1,0,none⟩=some (.int .i64 bx):=kp_cell hk (by first | exact c2 | exact cell_a c2 _ | exact cell_a (cell_a c2 _) _);replace c3:w2.cell? ⟨w.heap.size+1,1,none⟩=some (.int .i64 bY):=kp_cell hk (by first | exact c3 | exact cell_a c3 _ | exact cell_a (cell_a c3 _) _);replace c4:w2.cell? ⟨w.heap.size+1+1,0,none⟩=some (.int .i64 cx):=kp_cell hk (by first | exact c4 | exact cell_a c4 _ | exact cell_a (cell_a c4 _) _);replace c5:w2.cell? ⟨w.heap.size+1+1,1,none⟩=some (.int .i64 cy):=kp_cell hk (by first | exact c5 | exact cell_a c5 _ | exact cell_a (cell_a c5 _) _);replace c6:w2.cell? ⟨w.heap.size+1+1+1,0,none⟩=some (.int .i64 dx):=kp_cell hk (by first | exact c6 | exact cell_a c6 _ | exact cell_a (cell_a c6 _) _);replace c7:w2.cell? ⟨w.heap.size+1+1+1,1,none⟩=some (.int .i64 dy):=kp_cell hk (by first | exact c7 | exact cell_a c7 _ | exact cell_a (cell_a c7 _) _);replace K:Kp w w2:=kp_trans (by first | exact K | exact kp_drew K | exact kp_alloc K _ | exact kp_alloc (kp_drew K) _ | exact kp_alloc (kp_alloc K _) _ | exact kp_alloc (kp_alloc (kp_drew K) _) _) hk;replace l0:w.heap.size<w2.heap.size:=cell_lt c0;replace l2:w.heap.size+1<w2.heap.size:=cell_lt c2;replace l4:w.heap.size+1+1<w2.heap.size:=cell_lt c4;replace l6:w.heap.size+1+1+1<w2.heap.size:=cell_lt c6;clear hk)
   | (go_at_call 288;refine (HE.out _).mono ?_;rintro e w3 ⟨sa,sc,rfl,hk⟩;replace c0:w3.cell? ⟨w.heap.size,0,none⟩=some (.int .i64 ax):=kp_cell hk (by first | exact c0 | exact cell_a c0 _ | exact cell_a (cell_a c0 _) _);replace c1:w3.cell? ⟨w.heap.size,1,none⟩=some (.int .i64 ay):=kp_cell hk (by first | exact c1 | exact cell_a c1 _ | exact cell_a (cell_a c1 _) _);replace c2:w3.cell? ⟨w.heap.size+1,0,none⟩=some (.int .i64 bx):=kp_cell hk (by first | exact c2 | exact cell_a c2 _ | exact cell_a (cell_a c2 _) _);replace c3:w3.cell? ⟨w.heap.size+1,1,none⟩=some (.int .i64 bY):=kp_cell hk (by first | exact c3 | exact cell_a c3 _ | exact cell_a (cell_a c3 _) _);replace c4:w3.cell? ⟨w.heap.size+1+1,0,none⟩=some (.int .i64 cx):=kp_cell hk (by first | exact c4 | exact cell_a c4 _ | exact cell_a (cell_a c4 _) _);replace c5:w3.cell? ⟨w.heap.size+1+1,1,none⟩=some (.int .i64 cy):=kp_cell hk (by first | exact c5 | exact cell_a c5 _ | exact cell_a (cell_a c5 _) _);replace c6:w3.cell? ⟨w.heap.size+1+1+1,0,none⟩=some (.int .i64 dx):=kp_cell hk (by first | exact c6 | exact cell_a c6 _ | exact cell_a (cell_a c6 _) _);replace c7:w3.cell? ⟨w.heap.size+1+1+1,1,none⟩=some (.int .i64 dy):=kp_cell hk (by first | exact c7 | exact cell_a c7 _ | exact cell_a (cell_a c7 _) _);replace K:Kp w w3:=kp_trans (by first | exact K | exact kp_drew K | exact kp_alloc K _ | exact kp_alloc (kp_drew K) _ | exact kp_alloc (kp_alloc K _) _ | exact kp_alloc (kp_alloc (kp_drew K) _) _) hk;replace l0:w.heap.size<w3.heap.size:=cell_lt c0;replace l2:w.heap.size+1<w3.heap.size:=cell_lt c2;replace l4:w.heap.size+1+1<w3.heap.size:=cell_lt c4;replace l6:w.heap.size+1+1+1<w3.heap.size:=cell_lt c6;clear hk))
  go_ret
  exact ⟨ret_int (by rw [H.out];rfl),K⟩
 ·have h1':((n:Int) == 1)=false:=by simp;omega
  have H1:=Lib.hid h1
  clear h1
  go_enter Tryz.func216,Tryz.ntmps216
  go_wp2_with (first
   | (go_at_call_of 287 (Value.agg #[Value.int .i64 ax,Value.int .i64 ay]);refine (may_any _ _ _ _ _).mono ?_;rintro e w1 ⟨rfl,hk⟩;have c0:w1.cell? ⟨w.heap.size,0,none⟩=some (.int .i64 ax):=kp_cell hk (by simp [go_sem]);have c1:w1.cell? ⟨w.heap.size,1,none⟩=some (.int .i64 ay):=kp_cell hk (by simp [go_sem]);have c2:w1.cell? ⟨w.heap.size+1,0,none⟩=some (.int .i64 bx):=kp_cell hk (by simp [go_sem]);have c3:w1.cell? ⟨w.heap.size+1,1,none⟩=some (.int .i64 bY):=kp_cell hk (by simp [go_sem]);have c4:w1.cell? ⟨w.heap.size+1+1,0,none⟩=some (.int .i64 cx):=kp_cell hk (by simp [go_sem]);have c5:w1.cell? ⟨w.heap.size+1+1,1,none⟩=some (.int .i64 cy):=kp_cell hk (by simp [go_sem]);have c6:w1.cell? ⟨w.heap.size+1+1+1,0,none⟩=some (.int .i64 dx):=kp_cell hk (by simp [go_sem]);have c7:w1.cell? ⟨w.heap.size+1+1+1,1,none⟩=some (.int .i64 dy):=kp_cell hk (by simp [go_sem]);have K:Kp w w1:=kp_trans (by repeat (first | exact kp_refl _ | apply kp_alloc | apply kp_drew)) hk;have l0:w.heap.size<w1.heap.size:=cell_lt c0;have l2:w.heap.size+1<w1.heap.size:=cell_lt c2;have l4:w.heap.size+1+1<w1.heap.size:=cell_lt c4;have l6:w.heap.size+1+1+1<w1.heap.size:=cell_lt c6;clear hk)
   | (go_at_call_of 287 (Value.agg #[Value.int .i64 cx,Value.int .i64 cy]);refine (may_any _ _ _ _ _).mono ?_;rintro e w2 ⟨rfl,hk⟩;replace c0:w2.cell? ⟨w.heap.size,0,none⟩=some (.int .i64 ax):=kp_cell hk (by first | exact c0 | exact cell_a c0 _ | exact cell_a (cell_a c0 _) _);replace c1:w2.cell? ⟨w.heap.size,1,none⟩=some (.int .i64 ay):=kp_cell hk (by first | exact c1 | exact cell_a c1 _ | exact cell_a (cell_a c1 _) _);replace c2:w2.cell? ⟨w.heap.size+1,0,none⟩=some (.int .i64 bx):=kp_cell hk (by first | exact c2 | exact cell_a c2 _ | exact cell_a (cell_a c2 _) _);replace c3:w2.cell? ⟨w.heap.size+1,1,none⟩=some (.int .i64 bY):=kp_cell hk (by first | exact c3 | exact cell_a c3 _ | exact cell_a (cell_a c3 _) _);replace c4:w2.cell? ⟨w.heap.size+1+1,0,none⟩=some (.int .i64 cx):=kp_cell hk (by first | exact c4 | exact cell_a c4 _ | exact cell_a (cell_a c4 _) _);replace c5:w2.cell? ⟨w.heap.size+1+1,1,none⟩=some (.int .i64 cy):=kp_cell hk (by first | exact c5 | exact cell_a c5 _ | exact cell_a (cell_a c5 _) _);replace c6:w2.cell? ⟨w.heap.size+1+1+1,0,none⟩=some (.int .i64 dx):=kp_cell hk (by first | exact c6 | exact cell_a c6 _ | exact cell_a (cell_a c6 _) _);replace c7:w2.cell? ⟨w.heap.size+1+1+1,1,none⟩=some (.int .i64 dy):=kp_cell hk (by first | exact c7 | exact cell_a c7 _ | exact cell_a (cell_a c7 _) _);replace K:Kp w w2:=kp_trans (by first | exact K | exact kp_drew K | exact kp_alloc K _ | exact kp_alloc (kp_drew K) _ | exact kp_alloc (kp_alloc K _) _ | exact kp_alloc (kp_alloc (kp_drew K) _) _) hk;replace l0:w.heap.size<w2.heap.size:=cell_lt c0;replace l2:w.heap.size+1<w2.heap.size:=cell_lt c2;replace l4:w.heap.size+1+1<w2.heap.size:=cell_lt c4;replace l6:w.heap.size+1+1+1<w2.heap.size:=cell_lt c6;clear hk)
   | (go_at_call 288;refine (HE.out _).mono ?_;rintro e w3 ⟨sa,sc,rfl,hk⟩;replace c0:w3.cell? ⟨w.heap.size,0,none⟩=some (.int .i64 ax):=kp_cell hk (by first | exact c0 | exact cell_a c0 _ | exact cell_a (cell_a c0 _) _);replace c1:w3.cell? ⟨w.heap.size,1,none⟩=some (.int .i64 ay):=kp_cell hk (by first | exact c1 | exact cell_a c1 _ | exact cell_a (cell_a c1 _) _);replace c2:w3.cell? ⟨w.heap.size+1,0,none⟩=some (.int .i64 bx):=kp_cell hk (by first | exact c2 | exact cell_a c2 _ | exact cell_a (cell_a c2 _) _);replace c3:w3.cell? ⟨w.heap.size+1,1,none⟩=some (.int .i64 bY):=kp_cell hk (by first | exact c3 | exact cell_a c3 _ | exact cell_a (cell_a c3 _) _);replace c4:w3.cell? ⟨w.heap.size+1+1,0,none⟩=some (.int .i64 cx):=kp_cell hk (by first | exact c4 | exact cell_a c4 _ | exact cell_a (cell_a c4 _) _);replace c5:w3.cell? ⟨w.heap.size+1+1,1,none⟩=some (.int .i64 cy):=kp_cell hk (by first | exact c5 | exact cell_a c5 _ | exact cell_a (cell_a c5 _) _);replace c6:w3.cell? ⟨w.heap.size+1+1+1,0,none⟩=some (.int .i64 dx):=kp_cell hk (by first | exact c6 | exact cell_a c6 _ | exact cell_a (cell_a c6 _) _);replace c7:w3.cell? ⟨w.heap.size+1+1+1,1,none⟩=some (.int .i64 dy):=kp_cell hk (by first | exact c7 | exact cell_a c7 _ | exact cell_a (cell_a c7 _) _);replace K:Kp w w3:=kp_trans (by first | exact K | exact kp_drew K | exact kp_alloc K _ | exact kp_alloc (kp_drew K) _ | exact kp_alloc (kp_alloc K _) _ | exact kp_alloc (kp_alloc (kp_drew K) _) _) hk;replace l0:w.heap.size<w3.heap.size:=cell_lt c0;replace l2:w.heap.size+1<w3.heap.size:=cell_lt c2;replace l4:w.heap.size+1+1<w3.heap.size:=cell_lt c4;replace l6:w.heap.size+1+1+1<w3.heap.size:=cell_lt c6;clear hk))
  go_ret
  exact ⟨ret_int (by rw [H.out,if_neg H1.out]),K⟩
set_option maxHeartbeats 8000000 in
set_option maxRecDepth 100000 in
theorem meets_none (ax ay bx bY cx cy dx dy:Int) (hm1:may (ax,ay) (bx,bY)=true) (hm2:may (cx,cy) (dx,dy)=true) (hn:(ends (ax,ay) (bx,bY) (cx,cy) (dx,dy)).length=0) (w:World):Calls Tryz.prog 216 #[pv ax ay,pv bx bY,pv cx cy,pv dx dy] w fun e w'=>e=.returned (.int .i64 (meets (ax,ay) (bx,bY) (cx,cy) (dx,dy)))∧Kp w w':=by
 have H:Hid (meets (ax,ay) (bx,bY) (cx,cy) (dx,dy)=if crossB (ax,ay) (bx,bY) (cx,cy) (dx,dy) then 2 else 0):=Lib.hid (by rw [meets_of_len hm1 hm2 0 hn];rfl)
 have HE:=Lib.hid (fun W=>ends_len_any ax ay bx bY cx cy dx dy W)
 rw [hn] at HE
 clear hn
 have hp:=cross_cases (ax,ay) (bx,bY) (cx,cy) (dx,dy)
 obtain ⟨T1,e1⟩:∃ T,turn (ax,ay) (bx,bY) (cx,cy)=T:=⟨_,rfl⟩
 obtain ⟨T2,e2⟩:∃ T,turn (ax,ay) (bx,bY) (dx,dy)=T:=⟨_,rfl⟩
 obtain ⟨T3,e3⟩:∃ T,turn (cx,cy) (dx,dy) (ax,ay)=T:=⟨_,rfl⟩
 obtain ⟨T4,e4⟩:∃ T,turn (cx,cy) (dx,dy) (bx,bY)=T:=⟨_,rfl⟩
 rw [e1,e2,e3,e4] at hp
 go_enter Tryz.func216,Tryz.ntmps216
 go_upto_region 8 with (first
  | (go_at_call_of 287 (Value.agg #[Value.int .i64 ax,Value.int .i64 ay]);refine (may_any _ _ _ _ _).mono ?_;rintro e w1 ⟨rfl,hk⟩;have c0:w1.cell? ⟨w.heap.size,0,none⟩=some (.int .i64 ax):=kp_cell hk (by simp [go_sem]);have c1:w1.cell? ⟨w.heap.size,1,none⟩=some (.int .i64 ay):=kp_cell hk (by simp [go_sem]);have c2:w1.cell? ⟨w.heap.size+1,0,none⟩=some (.int .i64 bx):=kp_cell hk (by simp [go_sem]);have c3:w1.cell? ⟨w.heap.size+1,1,none⟩=some (.int .i64 bY):=kp_cell hk (by simp [go_sem]);have c4:w1.cell? ⟨w.heap.size+1+1,0,none⟩=some (.int .i64 cx):=kp_cell hk (by simp [go_sem]);have c5:w1.cell? ⟨w.heap.size+1+1,1,none⟩=some (.int .i64 cy):=kp_cell hk (by simp [go_sem]);have c6:w1.cell? ⟨w.heap.size+1+1+1,0,none⟩=some (.int .i64 dx):=kp_cell hk (by simp [go_sem]);have c7:w1.cell? ⟨w.heap.size+1+1+1,1,none⟩=some (.int .i64 dy):=kp_cell hk (by simp [go_sem]);have K:Kp w w1:=kp_trans (by repeat (first | exact kp_refl _ | apply kp_alloc | apply kp_drew)) hk;have l0:w.heap.size<w1.heap.size:=cell_lt c0;have l2:w.heap.size+1<w1.heap.size:=cell_lt c2;have l4:w.heap.size+1+1<w1.heap.size:=cell_lt c4;have l6:w.heap.size+1+1+1<w1.heap.size:=cell_lt c6;clear hk)
  | (go_at_call_of 287 (Value.agg #[Value.int .i64 cx,Value.int .i64 cy]);refine (may_any _ _ _ _ _).mono ?_;rintro e w2 ⟨rfl,hk⟩;replace c0:w2.cell? ⟨w.heap.size,0,none⟩=some (.int .i64 ax):=kp_cell hk (by first | exact c0 | exact cell_a c0 _ | exact cell_a (cell_a c0 _) _);replace c1:w2.cell? ⟨w.heap.size,1,none⟩=some (.int .i64 ay):=kp_cell hk (by first | exact c1 | exact cell_a c1 _ | exact cell_a (cell_a c1 _) _);replace c2:w2.cell? ⟨w.heap.size+1,0,none⟩=some (.int .i64 bx):=kp_cell hk (by first | exact c2 | exact cell_a c2 _ | exact cell_a (cell_a c2 _) _);replace c3:w2.cell? ⟨w.heap.size+1,1,none⟩=some (.int .i64 bY):=kp_cell hk (by first | exact c3 | exact cell_a c3 _ | exact cell_a (cell_a c3 _) _);replace c4:w2.cell? ⟨w.heap.size+1+1,0,none⟩=some (.int .i64 cx):=kp_cell hk (by first | exact c4 | exact cell_a c4 _ | exact cell_a (cell_a c4 _) _);replace c5:w2.cell? ⟨w.heap.size+1+1,1,none⟩=some (.int .i64 cy):=kp_cell hk (by first | exact c5 | exact cell_a c5 _ | exact cell_a (cell_a c5 _) _);replace c6:w2.cell? ⟨w.heap.size+1+1+1,0,none⟩=some (.int .i64 dx):=kp_cell hk (by first | exact c6 | exact cell_a c6 _ | exact cell_a (cell_a c6 _) _);replace c7:w2.cell? ⟨w.heap.size+1+1+1,1,none⟩=some (.int .i64 dy):=kp_cell hk (by first | exact c7 | exact cell_a c7 _ | exact cell_a (cell_a c7 _) _);replace K:Kp w w2:=kp_trans (by first | exact K | exact kp_drew K | exact kp_alloc K _ | exact kp_alloc (kp_drew K) _ | exact kp_alloc (kp_alloc K _) _ | exact kp_alloc (kp_alloc (kp_drew K) _) _) hk;replace l0:w.heap.size<w2.heap.size:=cell_lt c0;replace l2:w.heap.size+1<w2.heap.size:=cell_lt c2;replace l4:w.heap.size+1+1<w2.heap.size:=cell_lt c4;replace l6:w.heap.size+1+1+1<w2.heap.size:=cell_lt c6;clear hk)
  | (go_at_call 288;refine (HE.out _).mono ?_;rintro e w3 ⟨sa,sc,rfl,hk⟩;replace c0:w3.cell? ⟨w.heap.size,0,none⟩=some (.int .i64 ax):=kp_cell hk (by first | exact c0 | exact cell_a c0 _ | exact cell_a (cell_a c0 _) _);replace c1:w3.cell? ⟨w.heap.size,1,none⟩=some (.int .i64 ay):=kp_cell hk (by first | exact c1 | exact cell_a c1 _ | exact cell_a (cell_a c1 _) _);replace c2:w3.cell? ⟨w.heap.size+1,0,none⟩=some (.int .i64 bx):=kp_cell hk (by first | exact c2 | exact cell_a c2 _ | exact cell_a (cell_a c2 _) _);replace c3:w3.cell? ⟨w.heap.size+1,1,none⟩=some (.int .i64 bY):=kp_cell hk (by first | exact c3 | exact cell_a c3 _ | exact cell_a (cell_a c3 _) _);replace c4:w3.cell? ⟨w.heap.size+1+1,0,none⟩=some (.int .i64 cx):=kp_cell hk (by first | exact c4 | exact cell_a c4 _ | exact cell_a (cell_a c4 _) _);replace c5:w3.cell? ⟨w.heap.size+1+1,1,none⟩=some (.int .i64 cy):=kp_cell hk (by first | exact c5 | exact cell_a c5 _ | exact cell_a (cell_a c5 _) _);replace c6:w3.cell? ⟨w.heap.size+1+1+1,0,none⟩=some (.int .i64 dx):=kp_cell hk (by first | exact c6 | exact cell_a c6 _ | exact cell_a (cell_a c6 _) _);replace c7:w3.cell? ⟨w.heap.size+1+1+1,1,none⟩=some (.int .i64 dy):=kp_cell hk (by first | exact c7 | exact cell_a c7 _ | exact cell_a (cell_a c7 _) _);replace K:Kp w w3:=kp_trans (by first | exact K | exact kp_drew K | exact kp_alloc K _ | exact kp_alloc (kp_drew K) _ | exact kp_alloc (kp_alloc K _) _ | exact kp_alloc (kp_alloc (kp_drew K) _) _) hk;replace l0:w.heap.size<w3.heap.size:=cell_lt c0;replace l2:w.heap.size+1<w3.heap.size:=cell_lt c2;replace l4:w.heap.size+1+1<w3.heap.size:=cell_lt c4;replace l6:w.heap.size+1+1+1<w3.heap.size:=cell_lt c6;clear hk))
 go_region_held3 (fun w'=>Kp w w'∧w'.cell? ⟨w.heap.size,0,none⟩=some (.int .i64 ax)∧w'.cell? ⟨w.heap.size,1,none⟩=some (.int .i64 ay)∧w'.cell? ⟨w.heap.size+1,0,none⟩=some (.int .i64 bx)∧w'.cell? ⟨w.heap.size+1,1,none⟩=some (.int .i64 bY)∧w'.cell? ⟨w.heap.size+1+1,0,none⟩=some (.int .i64 cx)∧w'.cell? ⟨w.heap.size+1+1,1,none⟩=some (.int .i64 cy)∧w'.cell? ⟨w.heap.size+1+1+1,0,none⟩=some (.int .i64 dx)∧w'.cell? ⟨w.heap.size+1+1+1,1,none⟩=some (.int .i64 dy)) ((first | exact ⟨K,c0,c1,c2,c3,c4,c5,c6,c7⟩ | exact ⟨kp_drew K,c0,c1,c2,c3,c4,c5,c6,c7⟩))
  (first
   | (go_at_call 284;refine (turn_any _ _ _ _ _ _ _).mono ?_;rintro e w4 ⟨rfl,hk⟩;replace c0:w4.cell? ⟨w.heap.size,0,none⟩=some (.int .i64 ax):=kp_cell hk (by first | exact c0 | exact cell_a c0 _ | exact cell_a (cell_a c0 _) _);replace c1:w4.cell? ⟨w.heap.size,1,none⟩=some (.int .i64 ay):=kp_cell hk (by first | exact c1 | exact cell_a c1 _ | exact cell_a (cell_a c1 _) _);replace c2:w4.cell? ⟨w.heap.size+1,0,none⟩=some (.int .i64 bx):=kp_cell hk (by first | exact c2 | exact cell_a c2 _ | exact cell_a (cell_a c2 _) _);replace c3:w4.cell? ⟨w.heap.size+1,1,none⟩=some (.int .i64 bY):=kp_cell hk (by first | exact c3 | exact cell_a c3 _ | exact cell_a (cell_a c3 _) _);replace c4:w4.cell? ⟨w.heap.size+1+1,0,none⟩=some (.int .i64 cx):=kp_cell hk (by first | exact c4 | exact cell_a c4 _ | exact cell_a (cell_a c4 _) _);replace c5:w4.cell? ⟨w.heap.size+1+1,1,none⟩=some (.int .i64 cy):=kp_cell hk (by first | exact c5 | exact cell_a c5 _ | exact cell_a (cell_a c5 _) _);replace c6:w4.cell? ⟨w.heap.size+1+1+1,0,none⟩=some (.int .i64 dx):=kp_cell hk (by first | exact c6 | exact cell_a c6 _ | exact cell_a (cell_a c6 _) _);replace c7:w4.cell? ⟨w.heap.size+1+1+1,1,none⟩=some (.int .i64 dy):=kp_cell hk (by first | exact c7 | exact cell_a c7 _ | exact cell_a (cell_a c7 _) _);replace K:Kp w w4:=kp_trans (by first | exact K | exact kp_drew K | exact kp_alloc K _ | exact kp_alloc (kp_drew K) _ | exact kp_alloc (kp_alloc K _) _ | exact kp_alloc (kp_alloc (kp_drew K) _) _) hk;replace l0:w.heap.size<w4.heap.size:=cell_lt c0;replace l2:w.heap.size+1<w4.heap.size:=cell_lt c2;replace l4:w.heap.size+1+1<w4.heap.size:=cell_lt c4;replace l6:w.heap.size+1+1+1<w4.heap.size:=cell_lt c6;clear hk))
 rcases hp with ⟨hX,h1,h2,h3,h4⟩ | ⟨hX,h1,h2,h3,h4⟩ | ⟨hX,h1,h2,h3,h4⟩ | ⟨hX,h1,h2,h3,h4⟩ | ⟨hX,h1,h2,h3,h4⟩
 ·have HX:=Lib.hid hX
  clear hX
  have he:=run_eq4
  go_wp2_with fail
  go_ret
  exact ⟨ret_int (by rw [H.out,HX.out];rfl),K⟩
 ·have HX:=Lib.hid hX
  clear hX
  have he:=run_eq4
  go_wp2_with fail
  go_ret
  exact ⟨ret_int (by rw [H.out,HX.out];rfl),K⟩
 ·have HX:=Lib.hid hX
  clear hX
  have he:=run_eq4
  go_wp2_with fail
  go_ret
  exact ⟨ret_int (by rw [H.out,HX.out];rfl),K⟩
 ·have HX:=Lib.hid hX
  clear hX
  have he:=run_eq4
  go_wp2_with fail
  go_ret
  exact ⟨ret_int (by rw [H.out,HX.out];rfl),K⟩
 ·have HX:=Lib.hid hX
  clear hX
  have he:=run_eq4
  go_wp2_with fail
  go_ret
  exact ⟨ret_int (by rw [H.out,HX.out];rfl),K⟩
theorem meets_any (ax ay bx bY cx cy dx dy:Int) (w:World):Calls Tryz.prog 216 #[pv ax ay,pv bx bY,pv cx cy,pv dx dy] w fun e w'=>e=.returned (.int .i64 (meets (ax,ay) (bx,bY) (cx,cy) (dx,dy)))∧Kp w w':=by
 cases hm1:may (ax,ay) (bx,bY)
 ·exact meets_no1 ax ay bx bY cx cy dx dy hm1 w
 ·cases hm2:may (cx,cy) (dx,dy)
  ·exact meets_no2 ax ay bx bY cx cy dx dy hm1 hm2 w
  ·by_cases hn:(ends (ax,ay) (bx,bY) (cx,cy) (dx,dy)).length=0
   ·exact meets_none ax ay bx bY cx cy dx dy hm1 hm2 hn w
   ·exact meets_some ax ay bx bY cx cy dx dy hm1 hm2 hn w
end Go.Proofs.YtgliljnbajohhaaGreatDoor
