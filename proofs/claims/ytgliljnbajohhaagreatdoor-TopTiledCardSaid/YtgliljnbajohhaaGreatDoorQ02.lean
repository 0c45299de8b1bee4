import Derived.Test.YtgliljnbajohhaaGreatDoorQ00
import Derived.IntWalk
import Derived.Deep.DeepCutAuto
import Derived.RegionTactic
import Derived.BigRegion
import Derived.Maps.OwnSet
import Derived.DeepKeys4
import Derived.WalkKit
import Derived.Maps.AppendAt
set_option linter.unusedVariables false
set_option linter.unusedSimpArgs false
namespace Go.Proofs.Geo
def may (a b:Pt):Bool:=okP a && okP b && decide (a≠b)
theorem may_iff {a b:Pt}:may a b=true↔okP a=true∧okP b=true∧a≠b:=by simp [may,and_assoc]
def gather (out:List Pt):List Pt→List Pt
 | []=>out
 | p :: l=>gather (if p∈out then out else out++[p]) l
theorem mem_gather {q:Pt} (l out:List Pt):q∈gather out l↔q∈out∨q∈l:=by
 induction l generalizing out with
 | nil=>simp [gather]
 | cons p l ih =>
  rw [gather,ih]
  by_cases h:p∈out
  ·rw [if_pos h]
   constructor
   ·rintro (h1 | h1)
    ·exact .inl h1
    ·exact .inr (List.mem_cons_of_mem _ h1)
   ·rintro (h1 | h1)
    ·exact .inl h1
    ·rcases List.mem_cons.1 h1 with rfl | h2
     ·exact .inl h
     ·exact .inr h2
  ·rw [if_neg h];simp [or_assoc]
def onL (a b:Pt) (l:List Pt):List Pt:=l.filter (fun p=>onS p a b)
def ends (a b c d:Pt):List Pt:=if may a b && may c d then gather (gather [] (onL c d [a,b])) (onL a b [c,d]) else []
def crossB (a b c d:Pt):Bool:=decide (turn a b c * turn a b d<0) && decide (turn c d a * turn c d b<0)
def meets (a b c d:Pt):Int :=
 if may a b && may c d then
  if (ends a b c d).length=0 then (if crossB a b c d then 2 else 0) else if (ends a b c d).length=1 then 1 else 3
 else 0
theorem mem_ends {a b c d p:Pt} (h1:may a b=true) (h2:may c d=true) :
  p∈ends a b c d↔(p=a∨p=b∨p=c∨p=d)∧onS p a b=true∧onS p c d=true:=by
 have k1:=may_iff.1 h1
 have k2:=may_iff.1 h2
 have e1:=onS_left k1.1 k1.2.1
 have e2:=onS_right k1.1 k1.2.1
 have e3:=onS_left k2.1 k2.2.1
 have e4:=onS_right k2.1 k2.2.1
 simp only [ends,h1,h2,Bool.and_self,if_true,mem_gather,onL,List.mem_filter,List.mem_cons,List.not_mem_nil,or_false,false_or]
 constructor
 ·rintro (⟨h | h,k⟩ | ⟨h | h,k⟩)
  ·subst h;exact ⟨.inl rfl,e1,k⟩
  ·subst h;exact ⟨.inr (.inl rfl),e2,k⟩
  ·subst h;exact ⟨.inr (.inr (.inl rfl)),k,e3⟩
  ·subst h;exact ⟨.inr (.inr (.inr rfl)),k,e4⟩
 ·rintro ⟨h | h | h | h,j,k⟩
  ·exact .inl ⟨.inl h,k⟩
  ·exact .inl ⟨.inr h,k⟩
  ·exact .inr ⟨.inl h,j⟩
  ·exact .inr ⟨.inr h,j⟩
end Go.Proofs.Geo
namespace Go.Proofs.Geo
end Go.Proofs.Geo
namespace Go.Proofs.Geo
def firstN (P:Nat→Bool) (n:Nat):Option Nat:=(List.range n).find? P
theorem firstN_some_iff {P:Nat→Bool} {n i:Nat}:firstN P n=some i↔i<n∧P i=true∧∀ k,k<i→P k=false:=by
 unfold firstN
 rw [List.find?_range_eq_some]
 simp only [List.mem_range,Bool.not_eq_true']
 constructor
 ·rintro ⟨a,b,c⟩;exact ⟨b,a,c⟩
 ·rintro ⟨a,b,c⟩;exact ⟨b,a,c⟩
theorem firstN_none_iff {P:Nat→Bool} {n:Nat}:firstN P n=none↔∀ k,k<n→P k=false:=by
 unfold firstN
 rw [List.find?_range_eq_none]
 simp only [Bool.not_eq_true']
theorem firstN_some {P:Nat→Bool} {n i:Nat} (hi:i<n) (h:P i=true) (hb:∀ k,k<i→P k=false):firstN P n=some i:=firstN_some_iff.2 ⟨hi,h,hb⟩
theorem firstN_none {P:Nat→Bool} {n:Nat} (h:∀ k,k<n→P k=false):firstN P n=none:=firstN_none_iff.2 h
def pt (l:List Pt) (i:Nat):Pt:=l.getD i (0,0)
theorem pt_get {l:List Pt} {i:Nat} (h:i<l.length):pt l i=l[i]:=by simp [pt,h]
def rix (n:Nat) (i:Int):Nat:=(i % (n:Int)).toNat
theorem rix_lt {n:Nat} (h:0<n) (i:Int):rix n i<n:=by
 unfold rix
 have:=Int.emod_nonneg i (show (n:Int)≠0 by omega)
 have:=Int.emod_lt_of_pos i (show (0:Int)<(n:Int) by omega)
 omega
theorem rix_eq {n:Nat} (h:0<n) (i:Int):((rix n i:Nat):Int)=i % (n:Int):=by
 unfold rix
 have:=Int.emod_nonneg i (show (n:Int)≠0 by omega)
 omega
theorem rix_nat {n i:Nat} (h:0<n):rix n ((i:Int)+1)=(i+1) % n:=by
 have:=rix_eq h ((i:Int)+1)
 rw [show ((i:Int)+1)=((i+1:Nat):Int) by simp,← Int.natCast_emod] at this
 rw [show ((i:Int)+1)=((i+1:Nat):Int) by simp]
 omega
def rat (l:List Pt) (i:Int):Pt:=pt l (rix l.length i)
def twiceB (l:List Pt) (i:Nat):Bool:=(List.range i).any fun k=>decide (pt l k=pt l i)
def backB (l:List Pt) (i:Nat):Bool:=decide (turn (rat l ((i:Int) - 1)) (pt l i) (rat l ((i:Int)+1))=0) && !onS (pt l i) (rat l ((i:Int) - 1)) (rat l ((i:Int)+1))
def skipB (n i k:Nat):Bool:=decide (k<i+2) || (decide (i=0) && decide (k+1=n))
def hitB (l:List Pt) (i k:Nat):Bool:=!skipB l.length i k && decide (meets (pt l i) (rat l ((i:Int)+1)) (pt l k) (rat l ((k:Int)+1))≠0)
def meetB (l:List Pt) (i:Nat):Bool:=(List.range l.length).any (hitB l i)
theorem any_range_true {P:Nat→Bool} {n k:Nat} (hk:k<n) (h:P k=true):(List.range n).any P=true:=List.any_eq_true.2 ⟨k,List.mem_range.2 hk,h⟩
theorem any_range_false {P:Nat→Bool} {n:Nat} (h:∀ k,k<n→P k=false):(List.range n).any P=false:=by
 rw [List.any_eq_false];intro k hk;rw [h k (List.mem_range.1 hk)];simp
def stg (e:Int):Option Nat→Int×Int×Bool
 | some i=>(e,(i:Int),true)
 | none=>(0,0,false)
def szS (l:List Pt):Int×Int×Bool:=if 200<l.length then (3,0,true) else if l.length<3 then (190,0,true) else (0,0,false)
def vdS (l:List Pt):Int×Int×Bool:=stg 2 (firstN (fun i=>!okP (pt l i)) l.length)
def twS (l:List Pt):Int×Int×Bool:=stg 191 (firstN (twiceB l) l.length)
def bkS (l:List Pt):Int×Int×Bool:=stg 192 (firstN (backB l) l.length)
def mtS (l:List Pt):Int×Int×Bool:=stg 193 (firstN (meetB l) l.length)
def chk (l:List Pt):Int×Int :=
 if (szS l).2.2 then ((szS l).1,(szS l).2.1) else if (vdS l).2.2 then ((vdS l).1,(vdS l).2.1) else if (twS l).2.2 then ((twS l).1,(twS l).2.1)
 else if (bkS l).2.2 then ((bkS l).1,(bkS l).2.1) else if (mtS l).2.2 then ((mtS l).1,(mtS l).2.1) else (0,0)
theorem stg_false {e:Int} {o:Option Nat} (h:(stg e o).2.2=false):o=none:=by
 cases o with
 | none=>rfl
 | some i=>simp [stg] at h
theorem vdS_false {l:List Pt} (h:(vdS l).2.2=false):∀ i,i<l.length→okP (pt l i)=true:=fun i hi=>by
 have:=firstN_none_iff.1 (stg_false h) i hi;simpa using this
end Go.Proofs.Geo
namespace Go.Proofs.YtgliljnbajohhaaGreatDoor
open Go.RowKit Go.Proofs.Geo
theorem between_any (n a b:Int) (w:World):Calls Tryz.prog 351 #[.int .i64 n,.int .i64 a,.int .i64 b] w fun e w'=>e=.returned (.bool (btw n a b))∧w=w':=by
 go_enter Tryz.func351,Tryz.ntmps351
 go_wp2
 all_goals
  go_ret
  exact ⟨ret_bool (by rw [Bool.eq_iff_iff,btw_iff];simp;omega),rfl⟩
theorem onS_steps {px py ax ay bx bY:Int}:onS (px,py) (ax,ay) (bx,bY)=((okP (px,py) && okP (ax,ay) && okP (bx,bY)) && btw px ax bx && btw py ay bY && (turn (ax,ay) (bx,bY) (px,py) == 0)):=by
 unfold onS;rw [Bool.eq_iff_iff];simp
set_option maxHeartbeats 1000000 in
theorem on_any (px py ax ay bx bY:Int) (w:World):Calls Tryz.prog 285 #[pv px py,pv ax ay,pv bx bY] w fun e w' =>
  e=.returned (.bool (onS (px,py) (ax,ay) (bx,bY)))∧Kp w w':=by
 have HS:=Lib.hid (onS_steps (px:=px) (py:=py) (ax:=ax) (ay:=ay) (bx:=bx) (bY:=bY))
 cases h:(okP (px,py) && okP (ax,ay) && okP (bx,bY))
 ·have H:=Lib.hid h
  go_enter Tryz.func285,Tryz.ntmps285
  go_wp2_with (go_at_call 217;refine (valid3 _ (px,py) (ax,ay) (bx,bY) _ ?_ ?_ ?_ ?_ ?_ ?_).mono ?_;(iterate 6 (focus (simp [go_sem])));rintro e w' ⟨rfl,hk1⟩)
  go_ret
  exact ⟨ret_bool (by rw [HS.out,H.out];rfl),by repeat (first | exact kp_refl _ | apply kp_drew | apply kp_alloc | refine kp_trans ?_ hk1)⟩
 ·have H:=Lib.hid h
  cases h1:btw px ax bx
  ·have H1:=Lib.hid h1
   go_enter Tryz.func285,Tryz.ntmps285
   go_wp2_with (first
    | (go_at_call 217;refine (valid3 _ (px,py) (ax,ay) (bx,bY) _ ?_ ?_ ?_ ?_ ?_ ?_).mono ?_;(iterate 6 (focus (simp [go_sem])));rintro e w' ⟨rfl,hk1⟩;obtain ⟨hc1,hf1,hz1⟩:=kp_all hk1)
    | (go_at_call 351;refine (between_any _ _ _ _).mono ?_;rintro e w' ⟨rfl,rfl⟩))
   go_ret
   exact ⟨ret_bool (by rw [HS.out,H.out,H1.out];rfl),by repeat (first | exact kp_refl _ | apply kp_drew | apply kp_alloc | refine kp_trans ?_ hk1)⟩
  ·have H1:=Lib.hid h1
   cases h2:btw py ay bY
   ·have H2:=Lib.hid h2
    go_enter Tryz.func285,Tryz.ntmps285
    go_wp2_with (first
     | (go_at_call 217;refine (valid3 _ (px,py) (ax,ay) (bx,bY) _ ?_ ?_ ?_ ?_ ?_ ?_).mono ?_;(iterate 6 (focus (simp [go_sem])));rintro e w' ⟨rfl,hk1⟩;obtain ⟨hc1,hf1,hz1⟩:=kp_all hk1)
     | (go_at_call 351;refine (between_any _ _ _ _).mono ?_;rintro e w' ⟨rfl,rfl⟩))
    go_ret
    exact ⟨ret_bool (by rw [HS.out,H.out,H1.out,H2.out];rfl),by repeat (first | exact kp_refl _ | apply kp_drew | apply kp_alloc | refine kp_trans ?_ hk1)⟩
   ·have H2:=Lib.hid h2
    go_enter Tryz.func285,Tryz.ntmps285
    go_wp2_with (first
     | (go_at_call 217;refine (valid3 _ (px,py) (ax,ay) (bx,bY) _ ?_ ?_ ?_ ?_ ?_ ?_).mono ?_;(iterate 6 (focus (simp [go_sem])));rintro e w' ⟨rfl,hk1⟩;obtain ⟨hc1,hf1,hz1⟩:=kp_all hk1)
     | (go_at_call 351;refine (between_any _ _ _ _).mono ?_;rintro e w' ⟨rfl,rfl⟩)
     | (go_at_call 284;refine (turn_any _ _ _ _ _ _ _).mono ?_;rintro e w' ⟨rfl,hk2⟩))
    go_ret
    exact ⟨ret_bool (by rw [HS.out,H.out,H1.out,H2.out];simp),by repeat (first | exact kp_refl _ | apply kp_drew | apply kp_alloc | refine kp_trans ?_ hk2 | refine kp_trans ?_ hk1)⟩
end Go.Proofs.YtgliljnbajohhaaGreatDoor
namespace Go.Proofs.YtgliljnbajohhaaGreatDoor
open Go.RowKit
theorem cell_d {w:World} {a:Addr} {v:Value} (h:w.cell? a=some v):w.drew.cell? a=some v:=h
end Go.Proofs.YtgliljnbajohhaaGreatDoor
namespace Go.Proofs.YtgliljnbajohhaaGreatDoor
open Go.RowKit Go.Proofs.Geo
theorem pt_lt {w:World} {b off:Nat} {l:List Pt} (h:PtsAt w b off l) {k:Nat} (hk:k<l.length):w.cell? ⟨b,off+k * 2,none⟩=some (.int .i64 (pt l k).1)∧w.cell? ⟨b,off+k * 2+1,none⟩=some (.int .i64 (pt l k).2):=by
 rw [pt_get hk];exact h k hk
theorem bad_any (e a:Int) (w:World):Calls Tryz.prog 280 #[.int .i64 e,.int .i64 a] w fun r w'=>r=.returned (.tuple #[.agg #[.int .i64 e,.int .i64 a],.bool true])∧Kp w w':=by
 go_enter Tryz.func280,Tryz.ntmps280
 go_wp2
 refine bodyPost_ret (v:=(.tuple #[.agg #[.int .i64 e,.int .i64 a],.bool true])) (by simp [results,Tryz.results280,go_sem]) rfl ⟨rfl,?_⟩
 ((repeat (first | exact (kp_alloc (kp_refl _) _) | exact kp_refl _ | apply kp_alloc | apply kp_drew | apply kp_drewN | refine kp_set ?_ ?_ _));all_goals (first | exact Nat.le_refl _ | (simp;done) | omega))
structure FltB (w w1:World):Prop where
 z0:w1.cell? ⟨w.heap.size,0,none⟩=some (.int .i64 0)
 z1:w1.cell? ⟨w.heap.size,1,none⟩=some (.int .i64 0)
 f0:w1.frozen? ⟨w.heap.size,0,none⟩=false
 f1:w1.frozen? ⟨w.heap.size,1,none⟩=false
 lt:w.heap.size<w1.heap.size
 k:Kp w w1
theorem FltB.new {w w1:World} (hk:Kp (w.alloc (.cells #[.int .i64 0,.int .i64 0] 88)) w1):FltB w w1:=by
 have h0:w1.cell? ⟨w.heap.size,0,none⟩=some (.int .i64 0):=kp_cell hk (by simp [go_sem])
 exact ⟨h0,kp_cell hk (by simp [go_sem]),kp_froz (v:=.int .i64 0) hk (by simp [go_sem]) (by simp [go_sem]),kp_froz (v:=.int .i64 0) hk (by simp [go_sem]) (by simp [go_sem]),cell_lt h0,kp_trans (kp_alloc (kp_refl _) _) hk⟩
theorem FltB.kp {w w1 w2:World} (h:FltB w w1) (k:Kp w1 w2):FltB w w2 :=
 ⟨kp_cell k h.z0,kp_cell k h.z1,kp_froz k h.z0 h.f0,kp_froz k h.z1 h.f1,Nat.lt_of_lt_of_le h.lt (Below.size k),kp_trans h.k k⟩
set_option maxHeartbeats 4000000 in
set_option maxRecDepth 100000 in
theorem rat_any (b off len cap:Nat) (l:List Pt) (i:Int) (w:World) (hp:PtsAt w b off l) (hlen:len=l.length) (h0:0<len) (hl:len≤100000) :
  Calls Tryz.prog 283 #[.slice (some ⟨b,off,none⟩) len cap,.int .i64 i] w fun e w'=>e=.returned (pv (rat l i).1 (rat l i).2)∧Kp w w':=by
 obtain ⟨r,hr⟩:∃ r,i.tmod (len:Int)=r:=⟨_,rfl⟩
 obtain ⟨k,hk⟩:∃ k,rix len i=k:=⟨_,rfl⟩
 have hr1:-(len:Int)<r∧r<(len:Int):=by
  rw [← hr]
  exact ⟨Int.lt_tmod_of_pos i (show (0:Int)<(len:Int) by omega),Int.tmod_lt_of_pos i (show (0:Int)<(len:Int) by omega)⟩
 have hk1:k<len:=by rw [← hk];exact rix_lt h0 i
 have hke:=rix_eq h0 i
 rw [hk] at hke
 have hrk:(r+(len:Int)).tmod (len:Int)=(k:Int):=by
  rw [Int.tmod_eq_emod_of_nonneg (by omega),Int.add_emod_right,← hr,hke]
  rw [Int.tmod_def,Int.sub_emod,Int.mul_emod_right,Int.sub_zero,Int.emod_emod]
 have he:rat l i=pt l k:=by unfold rat;rw [← hlen,hk]
 obtain ⟨y0,y1⟩:=pt_lt hp (show k<l.length by omega)
 rw [he]
 generalize pt l k=q at *
 obtain ⟨x,y⟩:=q
 have lb:b<w.heap.size:=cell_lt y0
 have wk1:IntKind.i64.wrap r=r:=IntWalk.i64_in _ (by omega)
 have wk2:IntKind.i64.wrap (r+(len:Int))=r+(len:Int):=IntWalk.i64_in _ (by omega)
 have wk3:IntKind.i64.wrap (k:Int)=(k:Int):=IntWalk.i64_in _ (by omega)
 have c1:(0:Int)≤(k:Int):=by omega
 have c3:(k:Int)<(len:Int):=by omega
 have c7:¬ ((len:Int)=0):=by omega
 have c8:¬ (len=0):=by omega
 have z0:(w.alloc (.cells #[.int .i64 0,.int .i64 0] 53)).cell? ⟨b,off+k * 2,none⟩=some (.int .i64 x):=cell_a y0 _
 have z1:(w.alloc (.cells #[.int .i64 0,.int .i64 0] 53)).cell? ⟨b,off+k * 2+1,none⟩=some (.int .i64 y):=cell_a y1 _
 clear hp hk hke he hlen hl h0
 go_enter Tryz.func283,Tryz.ntmps283
 go_wp2
 refine bodyPost_ret (v:=pv x y) (by simp [results,Tryz.results283,go_sem]) rfl ⟨rfl,?_⟩
 ((repeat (first | exact (kp_alloc (kp_refl _) _) | exact kp_refl _ | apply kp_alloc | apply kp_drew | apply kp_drewN | refine kp_set ?_ ?_ _));all_goals (first | exact Nat.le_refl _ | (simp;done) | omega))
theorem szS_any (a:Option Addr) (len cap:Nat) (l:List Pt) (w:World) (hlen:len=l.length) (hl:len≤10000000000000):Calls Tryz.prog 209 #[.slice a len cap] w fun e w'=>e=.returned (.tuple #[.agg #[.int .i64 (szS l).1,.int .i64 (szS l).2.1],.bool (szS l).2.2])∧Kp w w':=by
 have hz:szS l=if 200<len then (3,0,true) else if len<3 then (190,0,true) else (0,0,false):=by rw [hlen];rfl
 rw [hz]
 clear hz hlen
 by_cases h1:200<len
 ·rw [if_pos h1]
  go_enter Tryz.func209,Tryz.ntmps209
  go_wp2_with (go_at_call 280;refine (bad_any _ _ _).mono ?_;rintro e wz ⟨rfl,hk⟩;have HB:=Lib.hid (FltB.new hk);have z0:=HB.out.z0;have z1:=HB.out.z1;have f0:=HB.out.f0;have f1:=HB.out.f1;have lz:=HB.out.lt;clear hk)
  refine bodyPost_ret (v:=(.tuple #[.agg #[.int .i64 3,.int .i64 0],.bool true])) (by simp [results,Tryz.results209,go_sem,z0,z1]) rfl ⟨rfl,?_⟩
  ((repeat (first | exact HB.out.k | exact kp_refl _ | apply kp_alloc | apply kp_drew | apply kp_drewN | refine kp_set ?_ ?_ _));all_goals (first | exact Nat.le_refl _ | (simp;done) | omega))
 ·rw [if_neg h1]
  by_cases h2:len<3
  ·rw [if_pos h2]
   go_enter Tryz.func209,Tryz.ntmps209
   go_wp2_with (go_at_call 280;refine (bad_any _ _ _).mono ?_;rintro e wz ⟨rfl,hk⟩;have HB:=Lib.hid (FltB.new hk);have z0:=HB.out.z0;have z1:=HB.out.z1;have f0:=HB.out.f0;have f1:=HB.out.f1;have lz:=HB.out.lt;clear hk)
   refine bodyPost_ret (v:=(.tuple #[.agg #[.int .i64 190,.int .i64 0],.bool true])) (by simp [results,Tryz.results209,go_sem,z0,z1]) rfl ⟨rfl,?_⟩
   ((repeat (first | exact HB.out.k | exact kp_refl _ | apply kp_alloc | apply kp_drew | apply kp_drewN | refine kp_set ?_ ?_ _));all_goals (first | exact Nat.le_refl _ | (simp;done) | omega))
  ·rw [if_neg h2]
   go_enter Tryz.func209,Tryz.ntmps209
   go_wp2_with fail
   refine bodyPost_ret (v:=(.tuple #[.agg #[.int .i64 0,.int .i64 0],.bool false])) (by simp [results,Tryz.results209,go_sem, *]) rfl ⟨rfl,?_⟩
   ((repeat (first | exact (kp_alloc (kp_refl _) _) | exact kp_refl _ | apply kp_alloc | apply kp_drew | apply kp_drewN | refine kp_set ?_ ?_ _));all_goals (first | exact Nat.le_refl _ | (simp;done) | omega))
theorem vclo_any (x y:Int) (w:World):Calls Tryz.prog 282 #[pv x y] w fun e w'=>e=.returned (.bool (!okP (x,y)))∧Kp w w':=by
 go_enter Tryz.func282,Tryz.ntmps282
 go_wp2_with (go_at_call 196;refine (valid_any _ _ _).mono ?_;rintro e w1 ⟨rfl,hk⟩)
 go_ret
 exact ⟨rfl,kp_trans (kp_alloc (kp_refl _) _) hk⟩
def idxI:Option Nat→Int
 | some i=>i
 | none=>-1
set_option maxHeartbeats 4000000 in
set_option maxRecDepth 100000 in
theorem ixf_any (b off len cap:Nat) (l:List Pt) (w:World) (hp:PtsAt w b off l) (hlen:len=l.length) (hl:len≤100000):Calls Tryz.prog 281 #[.slice (some ⟨b,off,none⟩) len cap,.func (.func 282) #[] #[]] w fun e w'=>e=.returned (.int .i64 (idxI (firstN (fun i=>!okP (pt l i)) l.length)))∧Kp w w':=by
 have HP:=Lib.hid hp
 have HL:=Lib.hid hlen
 clear hp hlen
 go_enter Tryz.func281,Tryz.ntmps281
 go_wp2_with fail
 go_loopw [8] (fun i wr=>∃ k:Nat,k≤len∧i=.int .i64 k∧Kp w wr∧∀ j,j<k→(!okP (pt l j))=false) (fun i _=>len - (intOf i).toNat)
 case atStart=>exact ⟨0,by omega,rfl,kp_refl _,fun j h=>by omega⟩
 case round =>
  obtain ⟨k,hk,rfl,hkp,hall⟩:=hrel
  by_cases hlt:k<len
  ·obtain ⟨y0,y1⟩:=pt_lt (HP.out.kp hkp) (show k<l.length by rw [← HL.out];exact hlt)
   obtain ⟨x,hx⟩:∃ x,(pt l k).1=x:=⟨_,rfl⟩
   obtain ⟨y,hy⟩:∃ x,(pt l k).2=x:=⟨_,rfl⟩
   have hpt:pt l k=(x,y):=by rw [← hx,← hy]
   rw [hx] at y0;rw [hy] at y1
   have lb:b<wr.heap.size:=cell_lt y0
   have c1:(0:Int)≤(k:Int):=by omega
   have c2:(k:Int)<(len:Int):=by omega
   have HK:=Lib.hid hkp
   have HA:=Lib.hid hall
   clear hkp hall hx hy
   cases ho:okP (x,y)
   ·have hf:firstN (fun i=>!okP (pt l i)) l.length=some k:=firstN_some (by rw [← HL.out];exact hlt) (by simp only [hpt,ho];rfl) HA.out
    have HF:=Lib.hid hf
    have cv:=fun w=>vclo_any x y w
    rw [ho] at cv
    have CV:=Lib.hid cv
    clear hf ho hpt cv
    go_wp2_with (go_at_call 282;refine (CV.out _).mono ?_;rintro e w2 ⟨rfl,hk2⟩;have HK2:=Lib.hid hk2;clear hk2)
    go_ret
    exact ⟨by rw [HF.out];rfl,kp_trans HK.out (kp_trans (by repeat (first | exact kp_refl _ | apply kp_alloc | apply kp_drew | apply kp_drewN)) HK2.out)⟩
   ·have HN:=Lib.hid (show (!okP (pt l k))=false by rw [hpt,ho];rfl)
    have cv:=fun w=>vclo_any x y w
    rw [ho] at cv
    have CV:=Lib.hid cv
    clear ho hpt cv
    go_wp2_with (go_at_call 282;refine (CV.out _).mono ?_;rintro e w2 ⟨rfl,hk2⟩;have HK2:=Lib.hid hk2;clear hk2)
    exact ⟨⟨k+1,by omega,by go_num,kp_trans HK.out (kp_trans (by repeat (first | exact kp_refl _ | apply kp_alloc | apply kp_drew | apply kp_drewN)) HK2.out),fun j hj=>by
     by_cases e:j=k
     ·subst e;exact HN.out
     ·exact HA.out j (by omega)⟩,by simp [intOf];omega⟩
  ·obtain rfl:k=len:=by omega
   have hf:firstN (fun i=>!okP (pt l i)) l.length=none:=firstN_none (by rw [← HL.out];exact hall)
   have HF:=Lib.hid hf
   clear hf hall
   go_wp2_with fail
   go_ret
   exact ⟨by rw [HF.out];rfl,hkp⟩
theorem vdS_any (b off len cap:Nat) (l:List Pt) (w:World) (hp:PtsAt w b off l) (hlen:len=l.length) (hl:len≤100000):Calls Tryz.prog 210 #[.slice (some ⟨b,off,none⟩) len cap] w fun e w'=>e=.returned (.tuple #[.agg #[.int .i64 (vdS l).1,.int .i64 (vdS l).2.1],.bool (vdS l).2.2])∧Kp w w':=by
 have hi:=fun (w:World) hp=>ixf_any b off len cap l w hp hlen hl
 have hv:vdS l=stg 2 (firstN (fun i=>!okP (pt l i)) l.length):=rfl
 rw [hv]
 generalize firstN (fun i=>!okP (pt l i)) l.length=o at *
 have HI:=Lib.hid hi
 have HP:=Lib.hid hp
 clear hi hv hp hlen
 cases o with
 | none =>
  go_enter Tryz.func210,Tryz.ntmps210
  go_wp2_with (go_at_call 281;refine (HI.out _ (HP.out.kp (kp_alloc (kp_refl _) _))).mono ?_;rintro e w1 ⟨rfl,hk⟩;rw [show idxI none = -1 from rfl];have HB:=Lib.hid (FltB.new hk);have z0:=HB.out.z0;have z1:=HB.out.z1;have f0:=HB.out.f0;have f1:=HB.out.f1;clear hk)
  refine bodyPost_ret (v:=(.tuple #[.agg #[.int .i64 0,.int .i64 0],.bool false])) (by simp [results,Tryz.results210,go_sem, *]) rfl ⟨rfl,?_⟩
  ((repeat (first | exact HB.out.k | exact kp_refl _ | apply kp_alloc | apply kp_drew | apply kp_drewN | refine kp_set ?_ ?_ _));all_goals (first | exact Nat.le_refl _ | (simp;done) | omega))
 | some i =>
  have hs:stg 2 (some i)=(2,(i:Int),true):=rfl
  rw [hs]
  have hx:idxI (some i)=(i:Int):=rfl
  rw [hx] at HI
  have c0:(0:Int)≤(i:Int):=by omega
  clear hs hx
  go_enter Tryz.func210,Tryz.ntmps210
  go_wp2_with (first
   | (go_at_call 281;refine (HI.out _ (HP.out.kp (kp_alloc (kp_refl _) _))).mono ?_;rintro e w1 ⟨rfl,hk⟩;have HB1:=Lib.hid (FltB.new hk);clear hk)
   | (go_at_call 280;refine (bad_any _ _ _).mono ?_;rintro e wz ⟨rfl,hk⟩;have HB:=Lib.hid (FltB.kp HB1.out hk);have z0:=HB.out.z0;have z1:=HB.out.z1;have f0:=HB.out.f0;have f1:=HB.out.f1;have lz:=HB.out.lt;clear hk))
  refine bodyPost_ret (v:=(.tuple #[.agg #[.int .i64 2,.int .i64 (i:Int)],.bool true])) (by simp [results,Tryz.results210,go_sem,z0,z1]) rfl ⟨rfl,?_⟩
  ((repeat (first | exact HB.out.k | exact kp_refl _ | apply kp_alloc | apply kp_drew | apply kp_drewN | refine kp_set ?_ ?_ _));all_goals (first | exact Nat.le_refl _ | (simp;done) | omega))
end Go.Proofs.YtgliljnbajohhaaGreatDoor
namespace Go.Proofs.YtgliljnbajohhaaGreatDoor
open Go.RowKit Go.Proofs.Geo Go.Maps
theorem laidOutK:laidOutB Tryz.prog=true:=by kernel_rfl
theorem widePt:(match Tryz.prog.underlying 53 with | some (.array _ _) | some (.struct _)=>true | _=>false)=true:=by kernel_rfl
set_option maxRecDepth 100000 in
theorem lawPt:Keyed Tryz.prog 53:=Keyed.of_law (deep_law_laid laidOutK (m:=3) (by omega) (of_decide_eq_true (by kernel_rfl)) (by kernel_rfl) widePt)
def keyP (p:Pt):Lit:=.string (keyBytes [.int .i64 p.1,.int .i64 p.2])
theorem wf_ok {x:Int} (h:-1099511627775≤x∧x≤1099511627775):(Lit.int .i64 x).wf=true:=by
 simp [Lit.wf,IntKind.min,IntKind.max,IntKind.signed,IntKind.bits];omega
theorem cellsPtK:Tryz.prog.cellsOf 53 = 2:=by kernel_rfl
theorem cellsIntK:Tryz.prog.cellsOf 3 = 1:=by kernel_rfl
theorem keyOf_pt {p:Pt} (h:okP p=true):keyOf Tryz.prog 53 (.agg #[.int .i64 p.1,.int .i64 p.2])=some (keyP p):=by
 rw [okP_iff] at h
 have h1:=wf_ok h.1
 have h2:=wf_ok h.2
 have hk:Tryz.prog.keyType 53 = true:=by kernel_rfl
 obtain ⟨m,hm⟩:∃ m,Tryz.prog.types.size+1=m+1+1:=⟨Tryz.prog.types.size - 1,by have:1≤Tryz.prog.types.size:=of_decide_eq_true (by kernel_rfl);omega⟩
 have hf:(Value.agg #[.int .i64 p.1,.int .i64 p.2]).formed Tryz.prog 53 = true:=by
  simp [Value.formed,Tryz.underlying53,cellsPtK]
 unfold keyOf keyP
 simp only [Tryz.underlying53,hk,hf,hm,Bool.and_self,if_true]
 simp [Program.keyLits,Tryz.underlying53,Tryz.underlying3,cellsPtK,cellsIntK,Value.cells,h1,h2]
theorem keyP_inj {p q:Pt} (hp:okP p=true) (hq:okP q=true) (h:keyP p=keyP q):p=q:=by
 have e1:=keyOf_pt hp
 have e2:=keyOf_pt hq
 rw [h] at e1
 have:=lawPt.inj e1 e2
 simp at this
 exact Prod.ext this.1 this.2
theorem zeroUnit (w:World):(zeroValue 80).run Tryz.prog w=.ok (.agg #[]) w:=by kernel_rfl
def setD (l:List Pt) (k:Nat):DataW Unit:=setOf (.agg []) ((l.take k).map keyP)
theorem setD_zero (l:List Pt):setD l 0=.map []:=rfl
theorem setD_succ {l:List Pt} {k:Nat} (h:k<l.length):setD l (k+1)=(setD l k).put (keyP (pt l k)) (.agg []):=by
 unfold setD
 rw [List.take_succ_eq_append_getElem h,List.map_append,pt_get h]
 exact setOf_snoc _ _ _
theorem setD_has {l:List Pt} {k:Nat} (h:k<l.length) (hok:∀ i,i<l.length→okP (pt l i)=true):Maps.has (setD l k) (keyP (pt l k))=twiceB l k:=by
 unfold setD
 rw [has_setOf _ _ _ (by intro x hx;obtain ⟨q,_,rfl⟩:=List.mem_map.1 hx;trivial),Bool.eq_iff_iff]
 unfold twiceB
 rw [List.any_eq_true,List.any_eq_true]
 constructor
 ·rintro ⟨x,hx,hs⟩
  obtain ⟨q,hq,rfl⟩:=List.mem_map.1 hx
  obtain ⟨j,hj,rfl⟩:=List.getElem_of_mem hq
  have hjk:j<k:=by simp at hj;omega
  have hjl:j<l.length:=by omega
  refine ⟨j,List.mem_range.2 hjk,?_⟩
  have e:(l.take k)[j]=pt l j:=by rw [pt_get hjl,List.getElem_take]
  rw [e] at hs
  exact decide_eq_true (keyP_inj (hok j hjl) (hok k h) (WideAt.sameKey_eq hs))
 ·rintro ⟨j,hj,hs⟩
  have hjk:j<k:=List.mem_range.1 hj
  have hjl:j<l.length:=by omega
  have e:=of_decide_eq_true hs
  refine ⟨keyP (pt l j),List.mem_map.2 ⟨pt l j,?_,rfl⟩,?_⟩
  ·rw [pt_get hjl];exact List.mem_iff_getElem.2 ⟨j,by simp;omega,by rw [List.getElem_take]⟩
  ·rw [e];exact WideAt.sameKey_self trivial
theorem FltB.grown {w w1 w2:World} (h:FltB w w1) (hg:w1.grownBy w2 (some (w.heap.size+1))):FltB w w2:=by
 have hb:∀ o,w2.cell? ⟨w.heap.size,o,none⟩=w1.cell? ⟨w.heap.size,o,none⟩:=fun o=>World.cell?_of_block (hg.block _ h.lt (by simp))
 have hf:∀ o,w2.frozen? ⟨w.heap.size,o,none⟩=w1.frozen? ⟨w.heap.size,o,none⟩:=fun o=>World.frozen?_of_block (hg.block _ h.lt (by simp))
 exact ⟨(hb 0).trans h.z0,(hb 1).trans h.z1,(hf 0).trans h.f0,(hf 1).trans h.f1,Nat.lt_of_lt_of_le h.lt hg.size,Below.grown h.k hg (Below.size h.k) fun k hk=>by cases hk;omega⟩
structure UnSt (l:List Pt) (w:World) (k:Nat) (wr:World):Prop where
 m:wr.ownsMap Tryz.prog 53 (unitElem (H:=Unit)) (w.heap.size+1) k (setD l k)
 f:FltB w wr
 lt:w.heap.size+1<wr.heap.size
 no:∀ j,j<k→twiceB l j=false
set_option maxHeartbeats 8000000 in
set_option maxRecDepth 100000 in
theorem twS_any (b off len cap:Nat) (l:List Pt) (w:World) (hp:PtsAt w b off l) (hlen:len=l.length) (hl:len≤100000) (hok:∀ i,i<l.length→okP (pt l i)=true):Calls Tryz.prog 211 #[.slice (some ⟨b,off,none⟩) len cap] w fun e w'=>e=.returned (.tuple #[.agg #[.int .i64 (twS l).1,.int .i64 (twS l).2.1],.bool (twS l).2.2])∧Kp w w':=by
 have hmm:=@run_makeMap Tryz.prog
 have hv:twS l=stg 191 (firstN (twiceB l) l.length):=rfl
 rw [hv]
 have HP:=Lib.hid hp
 have HL:=Lib.hid hlen
 have HO:=Lib.hid hok
 clear hp hlen hok hv
 go_enter Tryz.func211,Tryz.ntmps211
 go_wp2_with fail
 go_loopw [12] (fun i wr=>∃ k:Nat,k≤len∧i=.int .i64 k∧UnSt l w k wr) (fun i _=>len - (intOf i).toNat)
 case atStart =>
  refine ⟨0,by omega,rfl,⟨by rw [setD_zero];have h:=World.ownsMap_made (H:=Unit) (w.alloc (.cells #[.int .i64 0,.int .i64 0] 88)) Tryz.prog 53 unitElem;simpa using h,⟨by simp [go_sem],by simp [go_sem],by simp [go_sem],by simp [go_sem],by simp;omega,(by repeat (first | exact kp_refl _ | apply kp_alloc | apply kp_drew | apply kp_drewN))⟩,by simp,fun j h=>by omega⟩⟩
 case round =>
  obtain ⟨k,hk,rfl,hst⟩:=hrel
  have HS:=Lib.hid hst
  by_cases hlt:k<len
  ·have hkl:k<l.length:=by rw [← HL.out];exact hlt
   obtain ⟨y0,y1⟩:=pt_lt (HP.out.kp hst.f.k) hkl
   have hkey:=keyOf_pt (HO.out k hkl)
   have hhas:=setD_has hkl HO.out
   have hsucc:=setD_succ hkl
   obtain ⟨x,hx⟩:∃ x,(pt l k).1=x:=⟨_,rfl⟩
   obtain ⟨y,hy⟩:∃ x,(pt l k).2=x:=⟨_,rfl⟩
   obtain ⟨K,hK⟩:∃ K,keyP (pt l k)=K:=⟨_,rfl⟩
   rw [hx] at y0;rw [hy] at y1
   rw [hx,hy,hK] at hkey
   rw [hK] at hhas hsucc
   have HKEY:=Lib.hid hkey
   have HSUC:=Lib.hid hsucc
   have lb:b<wr.heap.size:=cell_lt y0
   have lz:=hst.f.lt
   have lm:=hst.lt
   have c1:(0:Int)≤(k:Int):=by omega
   have c2:(k:Int)<(len:Int):=by omega
   have hown:=hst.m
   have HOWN:=Lib.hid hown
   clear hown hkey hsucc hx hy hK hst
   cases ht:twiceB l k
   ·have HT:=Lib.hid ht
    rw [ht] at hhas
    have HH:=Lib.hid hhas
    clear hhas ht
    go_wp2_with (first
     | (at_lookup;refine wpList_lookup_own_unit _ rfl _ _ 453 rfl 53 80 lawPt Tryz.underlying453 (zeroUnit _) (w.heap.size+1) k _ rfl (HOWN.out.alloc _) _ _ rfl HKEY.out ?_;rw [HH.out])
     | (at_mapUpdate;refine wpList_mapUpdate_own _ rfl _ _ _ 453 rfl 53 80 lawPt Tryz.underlying453 (unitElem (H:=Unit)) (w.heap.size+1) k _ rfl ((HOWN.out.alloc _).alloc _) (by unfold maxLen;omega) _ _ _ rfl rfl HKEY.out _ [] unitElem_mk ?_;intro w1 hown1 hgrow1;have HO1:=Lib.hid hown1;have HG1:=Lib.hid hgrow1;clear hown1 hgrow1))
    refine ⟨⟨k+1,by omega,by go_num,⟨by rw [HSUC.out];exact HO1.out,((HS.out.f.kp (kp_alloc (kp_alloc (kp_refl _) _) _)).grown HG1.out),by have:=HG1.out.size;simp at this;omega,?_⟩⟩,by simp [intOf];omega⟩
    intro j hj
    by_cases e:j=k
    ·subst e;exact HT.out
    ·exact HS.out.no j (by omega)
   ·have hf:firstN (twiceB l) l.length=some k:=firstN_some hkl ht HS.out.no
    have HF:=Lib.hid hf
    rw [ht] at hhas
    have HH:=Lib.hid hhas
    clear hhas ht hf
    go_wp2_with (first
     | (at_lookup;refine wpList_lookup_own_unit _ rfl _ _ 453 rfl 53 80 lawPt Tryz.underlying453 (zeroUnit _) (w.heap.size+1) k _ rfl (HOWN.out.alloc _) _ _ rfl HKEY.out ?_;rw [HH.out])
     | (go_at_call 280;refine (bad_any _ _ _).mono ?_;rintro e wz ⟨rfl,hk⟩;have HB:=Lib.hid (HS.out.f.kp (kp_trans (by repeat (first | exact kp_refl _ | apply kp_alloc)) hk));have z0:=HB.out.z0;have z1:=HB.out.z1;have f0:=HB.out.f0;have f1:=HB.out.f1;have lz:=HB.out.lt;clear hk))
    refine bodyPost_ret (v:=(.tuple #[.agg #[.int .i64 191,.int .i64 (k:Int)],.bool true])) (by simp [results,Tryz.results211,go_sem,z0,z1]) rfl ⟨by rw [HF.out];rfl,?_⟩
    ((repeat (first | exact HB.out.k | exact kp_refl _ | apply kp_alloc | apply kp_drew | apply kp_drewN | refine kp_set ?_ ?_ _));all_goals (first | exact Nat.le_refl _ | (simp;done) | omega))
  ·obtain rfl:k=len:=by omega
   have hf:firstN (twiceB l) l.length=none:=firstN_none (by rw [← HL.out];exact hst.no)
   have HF:=Lib.hid hf
   have HB:=Lib.hid hst.f
   have z0:=hst.f.z0
   have z1:=hst.f.z1
   have f0:=hst.f.f0
   have f1:=hst.f.f1
   have lz:=hst.f.lt
   clear hf hst
   go_wp2_with fail
   refine bodyPost_ret (v:=(.tuple #[.agg #[.int .i64 0,.int .i64 0],.bool false])) (by simp [results,Tryz.results211,go_sem, *]) rfl ⟨by rw [HF.out];rfl,?_⟩
   ((repeat (first | exact HB.out.k | exact kp_refl _ | apply kp_alloc | apply kp_drew | apply kp_drewN | refine kp_set ?_ ?_ _));all_goals (first | exact Nat.le_refl _ | (simp;done) | omega))
end Go.Proofs.YtgliljnbajohhaaGreatDoor
