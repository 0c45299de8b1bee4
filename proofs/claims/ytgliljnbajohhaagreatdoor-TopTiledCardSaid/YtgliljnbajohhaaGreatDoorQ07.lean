import Derived.Test.YtgliljnbajohhaaGreatDoorQ03
import Derived.Test.YtgliljnbajohhaaGreatDoorQ06
import Derived.Test.YtgliljnbajohhaaGreatDoorQ02
set_option linter.unusedVariables false
set_option linter.unusedSimpArgs false
namespace Go.Proofs.YtgliljnbajohhaaGreatDoor
open Go.RowKit Go.Proofs.Geo
attribute [local go_sem] Oper.semAt_some
def hitE (n:Nat) (x y:Edge):Bool:=!skipB n x.1.1 y.1.1 && decide (meets x.1.2.1 x.1.2.2 y.1.2.1 y.1.2.2≠0)
def NoHit (n:Nat) (x:Edge) (L:List Edge):Prop:=∀ z∈L,hitE n x z=false
def HasHit (n:Nat) (x:Edge) (L:List Edge):Prop:=∃ z∈L,hitE n x z=true
def NoHits (l:List Pt) (L:List Edge):Prop:=∀ x∈L,NoHit l.length x (edgesOf l)
def lastI (pre:List Edge):Nat:=((pre.getLast?).map fun x=>x.1.1).getD 0
theorem lastI_snoc (pre:List Edge) (x:Edge):lastI (pre++[x])=x.1.1:=by simp [lastI]
def FstHit (l:List Pt) (pre:List Edge):Prop:=∃ pre0 x,pre=pre0++[x]∧NoHits l pre0∧HasHit l.length x (edgesOf l)
theorem mem_edges {l:List Pt} (hl:l.length≤100000) {y:Edge}:y∈edgesOf l↔∃ k,k<l.length∧∃ hk:k≤100000,y=⟨(k,pt l k,rat l ((k:Int)+1)),hk⟩:=by
 constructor
 ·intro h
  obtain ⟨k,hk,rfl⟩:=List.getElem_of_mem h
  have hk':k<l.length:=by rwa [edgesOf_len] at hk
  exact ⟨k,hk',by omega,edgesOf_get hk' (by omega)⟩
 ·rintro ⟨k,hk,hk2,rfl⟩
  rw [← edgesOf_get hk hk2];exact List.getElem_mem _
theorem meetB_none {l:List Pt} (hl:l.length≤100000) {k:Nat} (hk:k<l.length) (h:∀ y∈edgesOf l,hitE l.length ⟨(k,pt l k,rat l ((k:Int)+1)),by omega⟩ y=false):meetB l k=false:=by
 refine any_range_false fun j hj=>?_
 exact h ⟨(j,pt l j,rat l ((j:Int)+1)),by omega⟩ ((mem_edges hl).2 ⟨j,hj,by omega,rfl⟩)
theorem mt_none {l:List Pt} (hl:l.length≤100000) (h:∀ x∈edgesOf l,∀ y∈edgesOf l,hitE l.length x y=false):firstN (meetB l) l.length=none :=
 firstN_none fun k hk=>meetB_none hl hk (h _ ((mem_edges hl).2 ⟨k,hk,by omega,rfl⟩))
theorem mt_some {l:List Pt} (hl:l.length≤100000) {pre:List Edge} (hp:pre <+: edgesOf l) (h:FstHit l pre):firstN (meetB l) l.length=some (lastI pre):=by
 obtain ⟨pre0,x,rfl,h0,y,hy,hh⟩:=h
 rw [lastI_snoc]
 obtain ⟨t,ht⟩:=hp
 have hlen:pre0.length<l.length:=by have:=congrArg List.length ht;simp [edgesOf_len] at this;omega
 have hx:x=⟨(pre0.length,pt l pre0.length,rat l ((pre0.length:Int)+1)),by omega⟩:=by
  have:=edgesOf_get hlen (by omega)
  rw [← this]
  simp only [← ht]
  simp
 have hpre:∀ j (hj:j<pre0.length),(⟨(j,pt l j,rat l ((j:Int)+1)),by omega⟩:Edge)∈pre0:=fun j hj=>by
  have hjl:j<l.length:=by omega
  have e:=edgesOf_get hjl (by omega)
  have e2:(edgesOf l)[j]'(by rw [edgesOf_len];exact hjl)=pre0[j]:=by
   simp only [← ht]
   rw [List.getElem_append_left (by simp;omega),List.getElem_append_left hj]
  rw [← e,e2];exact List.getElem_mem _
 rw [hx]
 refine firstN_some hlen ?_ ?_
 ·obtain ⟨k,hk,hk2,rfl⟩:=(mem_edges hl).1 hy
  refine any_range_true hk ?_
  rw [hx] at hh;exact hh
 ·intro j hj
  have hj':j<pre0.length:=hj
  exact meetB_none hl (show j<l.length by omega) (h0 _ (hpre j hj'))
theorem cells_own {β:Type} (B:Nat) (f:β→Array Value) (t:TypeId):Own (fun (s:β) W=>W.heap[B]? = some (.cells (f s) t (0,0))):=fun s W W' row hs hg hr =>
 (hg.block B (Array.getElem?_eq_some_iff.1 hs).1 (fun e=>by obtain ⟨o,ho,hc⟩:=hr B e.symm;rw [hs] at ho;cases ho;cases hc)).trans hs
theorem heap_a8 {w:World} {k:Nat} {o o':Obj} (h:w.heap[k]? = some o):(w.alloc o').heap[k]? = some o:=(Below.heap_alloc _ _ _ (Array.getElem?_eq_some_iff.1 h).1).trans h
theorem row_set8 {w:World} {B o:Nat} {cur:Array Value} {t:TypeId} (u:Value) (h:w.heap[B]? = some (.cells cur t (0,0))):(w.setCell ⟨B,o,none⟩ u).heap[B]? = some (.cells (cur.setIfInBounds o u) t (0,0)):=by
 simp [World.setCell,Array.getElem?_modify,h]
theorem row_off8 {w:World} {B C o:Nat} {cur:Array Value} {t:TypeId} (u:Value) (hne:C≠B) (h:w.heap[B]? = some (.cells cur t (0,0))):(w.setCell ⟨C,o,none⟩ u).heap[B]? = some (.cells cur t (0,0)) :=
 (Below.heap_setCell _ _ _ _ (fun e=>hne e.symm)).trans h
theorem froz_row8 {w:World} {B:Nat} {cur:Array Value} {t:TypeId} (h:w.heap[B]? = some (.cells cur t (0,0))) (o:Nat):w.frozen? ⟨B,o,none⟩=false:=by simp [World.frozen?,h]
theorem keepsFrom_kp {B:Nat} {W W':World} (h:Kp W W'):KeepsFrom B W W':=⟨Below.size h,fun k o _ hk _=>(h.block k (Array.getElem?_eq_some_iff.1 hk).1).trans hk⟩
set_option maxRecDepth 100000 in
set_option maxHeartbeats 8000000 in
theorem mtS_any (b off len cap:Nat) (l:List Pt) (w:World) (hp:PtsAt w b off l) (hlen:len=l.length) (hpos:0<len) (hl:len≤100000):Calls Tryz.prog 213 #[.slice (some ⟨b,off,none⟩) len cap] w fun e w'=>e=.returned (.tuple #[.agg #[.int .i64 (mtS l).1,.int .i64 (mtS l).2.1],.bool (mtS l).2.2])∧Kp w w':=by
 have hbw:b<w.heap.size:=cell_lt (hp 0 (by omega)).1
 have hll:l.length≤100000:=by omega
 have HLL:=Lib.hid hll
 have HL:=Lib.hid hlen
 clear hll hlen
 have h1:(1:Nat)≤20:=by omega
 refine (callsIn_wide (n:=20)).1 ?_
 refine callsIn_of_wp_marks Tryz.func213 rfl trivial ?_ rfl
 simp only [Tryz.ntmps213,List.size_toArray,List.length_cons,List.length_nil,Nat.reduceAdd,Nat.reduceSub,Array.replicate_succ,Array.replicate_zero,List.push_toArray,List.append_toArray,List.nil_append,List.cons_append]
 gi_wp2_with (refine ⟨trivial,?_⟩;gi_at_call 286;refine (edges_in Fence.wide _ trivial rfl _ _ _ _).mono ?_;rintro e w' ⟨rfl,rfl⟩)
 obtain ⟨W0,hW0⟩:∃ W0,(((w.alloc (.cells #[.slice (some ⟨b,off,none⟩) len cap] 71)).alloc (.cells #[.int .i64 0,.int .i64 0] 88)).alloc (.cells #[.bool false] 4)).alloc (.cells #[.slice (some ⟨b,off,none⟩) len cap] 71)=W0:=⟨_,rfl⟩
 have hB0:Below w.heap.size w W0:=by rw [← hW0];exact ((((Below.refl _ w).alloc (Nat.le_refl _) _).alloc (by simp) _).alloc (by simp;omega) _).alloc (by simp;omega) _
 have hsz:w.heap.size+4≤W0.heap.size:=by rw [← hW0];simp
 have hsz':W0.heap.size≤w.heap.size+4:=by rw [← hW0];simp
 have r0:W0.heap[w.heap.size]? = some (.cells #[.slice (some ⟨b,off,none⟩) len cap] 71 (0,0)):=by rw [← hW0];exact heap_a8 (heap_a8 (heap_a8 (heap_alloc_new w _)))
 have r1:W0.heap[w.heap.size+1]? = some (.cells #[.int .i64 0,.int .i64 0] 88 (0,0)):=by rw [← hW0];exact heap_a8 (heap_a8 (by have h:=heap_alloc_new (w.alloc (.cells #[.slice (some ⟨b,off,none⟩) len cap] 71)) (.cells #[.int .i64 0,.int .i64 0] 88);rwa [World.size_alloc] at h))
 have r2:W0.heap[w.heap.size+1+1]? = some (.cells #[.bool false] 4 (0,0)):=by rw [← hW0];exact heap_a8 (by have h:=heap_alloc_new ((w.alloc (.cells #[.slice (some ⟨b,off,none⟩) len cap] 71)).alloc (.cells #[.int .i64 0,.int .i64 0] 88)) (.cells #[.bool false] 4);rwa [World.size_alloc,World.size_alloc] at h)
 have c3:W0.cell? ⟨w.heap.size+1+1+1,0,none⟩=some (.slice (some ⟨b,off,none⟩) len cap):=by rw [← hW0];simp [go_sem]
 rw [hW0]
 clear hW0
 have hp0:=hp.below hB0 hbw
 refine wpIn_rangeFunc_ownH rfl (by omega) (gf:=352) (lb:=#[.pointer (some ⟨w.heap.size+1+1+1,0,none⟩)]) rfl trivial (enters_of Tryz.func352 (by kernel_rfl) rfl)
  (edges_stops Fence.wide _ trivial rfl (by omega) (w.heap.size+1+1+1) W0.heap.size b off len cap l W0 (by omega) (by omega) (Nat.le_refl _) c3 hp0 HL.out hpos hl) belowK_t (belowK_b (Nat.le_refl _)) (Below.refl _ _) (fun _=>rfl)
  (fun pre W=>NoHits l pre∧Below W0.heap.size W0 W)
  (fun c pre W=>((c=.ret∧FstHit l pre)∧W.heap[w.heap.size+1]? = some (.cells #[.int .i64 193,.int .i64 (lastI pre:Int)] 88 (0,0)))∧(W.heap[w.heap.size+1+1]? = some (.cells #[.bool true] 4 (0,0))∧Below w.heap.size w W))
  (OwnFrom.and (ownFrom_pure _ _) (ownFrom_below (Nat.le_refl _) (Nat.le_refl _)))
  (fun c=>OwnFrom.and (OwnFrom.and (ownFrom_pure _ _) (Own.from (cells_own _ _ _) _)) (OwnFrom.and (Own.from (cells_own _ (fun _=>#[.bool true]) _) _) (ownFrom_below (Nat.le_refl _) (by omega))))
  ⟨(fun _ h=>by cases h),Below.refl _ _⟩
  (fun x a' W=>∃ Bi Bx,W0.heap.size≤Bi∧W0.heap.size≤Bx∧W.heap[Bi]? = some (.cells #[.int .i64 (x.1.1:Int)] 3 (0,0))∧W.heap[Bx]? = some (.cells #[.int .i64 x.1.2.1.1,.int .i64 x.1.2.1.2,.int .i64 x.1.2.2.1,.int .i64 x.1.2.2.2] 461 (0,0))∧a'={ tmps:=#[.slice (some ⟨b,off,none⟩) len cap,.pointer (some ⟨w.heap.size,0,none⟩),.pointer (some ⟨w.heap.size+1,0,none⟩),.pointer (some ⟨w.heap.size+1+1,0,none⟩),.pointer (some ⟨Bi,0,none⟩),.pointer (some ⟨Bx,0,none⟩),undef,undef,.slice (some ⟨b,off,none⟩) len cap,.func (.func 352) #[] #[.pointer (some ⟨w.heap.size+1+1+1,0,none⟩)],.int .i64 (x.1.1:Int),.agg #[.int .i64 x.1.2.1.1,.int .i64 x.1.2.1.2,.int .i64 x.1.2.2.1,.int .i64 x.1.2.2.2],undef,undef,undef,undef,undef,undef,undef,undef,undef,undef,undef,undef,undef,undef,undef,undef,undef,undef,undef,undef,undef,undef,undef,undef,undef,undef,undef,undef,undef,undef,undef,undef,undef,undef],defers:=[] })
  (fun x a' _ X Y row hs hg hr=>by obtain ⟨Bi,Bx,e1,e2,e3,e4,e5⟩:=hs;exact ⟨Bi,Bx,e1,e2,cells_own Bi (fun (_:Unit)=>#[.int .i64 (x.1.1:Int)]) _ () X Y row e3 hg (fun r e=>(hr r e).2),cells_own Bx (fun (_:Unit)=>#[.int .i64 x.1.2.1.1,.int .i64 x.1.2.1.2,.int .i64 x.1.2.2.1,.int .i64 x.1.2.2.2]) _ () X Y row e4 hg (fun r e=>(hr r e).2),e5⟩)
  ?assign ?body ?done ?stop
 case assign =>
  rintro y pre x W K ⟨hp1,hB1⟩ hK
  gi_wp2
  have hs1:=hB1.size
  refine hK _ _ (((KeepsOthers.alloc _ _).trans (KeepsOthers.alloc _ _)).from _) (((Below.refl _ W).alloc hs1 _).alloc (by simp;omega) _) ⟨hp1,(hB1.alloc hs1 _).alloc (by simp;omega) _⟩ ⟨W.heap.size,W.heap.size+1,hs1,by omega,heap_a8 (heap_alloc_new W _),?_,rfl⟩
  have h:=heap_alloc_new (W.alloc (.cells #[.int .i64 (x.1.1:Int)] 3)) (.cells #[.int .i64 x.1.2.1.1,.int .i64 x.1.2.1.2,.int .i64 x.1.2.2.1,.int .i64 x.1.2.2.2] 461)
  rwa [World.size_alloc] at h
 case body =>
  rintro y pre x a' W hl' ⟨r,hr⟩ ⟨hp1,hB1⟩ ⟨Bi,Bx,g1,g2,rI,rX,rfl⟩ hlt
  have hs1:=hB1.size
  have rS:W.heap[w.heap.size]? = some (.cells #[.slice (some ⟨b,off,none⟩) len cap] 71 (0,0)):=(hB1.block _ (by omega)).trans r0
  have cS:W.cell? ⟨w.heap.size,0,none⟩=some (.slice (some ⟨b,off,none⟩) len cap):=by rw [cell_of_row W _ 0 _ _ _ rS];rfl
  have hpW:=(hp0.below hB1 (by omega)).below ((Below.refl W.heap.size W).alloc (Nat.le_refl _) (.cells #[.slice (some ⟨b,off,none⟩) len cap] 71)) (by omega)
  have hBI:=(Array.getElem?_eq_some_iff.1 rI).1
  have hBX:=(Array.getElem?_eq_some_iff.1 rX).1
  have HP1:=Lib.hid hp1
  clear hp1
  gi_wp2_with (refine ⟨trivial,?_⟩;gi_at_call 286;refine (CallsIn.inRound y (edges_in Fence.wide _ trivial rfl _ _ _ _)).mono ?_;rintro e w' ⟨rfl,rfl⟩)
  obtain ⟨WA,hWA⟩:∃ WA,W.alloc (.cells #[.slice (some ⟨b,off,none⟩) len cap] 71)=WA:=⟨_,rfl⟩
  have hr':WA.heap[y]? = some (.loop r):=by rw [← hWA];exact heap_a8 hr
  have hszA:W.heap.size+1≤WA.heap.size:=by rw [← hWA];simp
  have hszA':WA.heap.size≤W.heap.size+1:=by rw [← hWA];simp
  have hbA:Below W.heap.size W WA:=by rw [← hWA];exact (Below.refl _ W).alloc (Nat.le_refl _) _
  have kfA:KeepsFrom W0.heap.size W WA:=by rw [← hWA];exact (KeepsOthers.alloc _ _).from _
  have cA:WA.cell? ⟨W.heap.size,0,none⟩=some (.slice (some ⟨b,off,none⟩) len cap):=by rw [← hWA];simp [go_sem]
  rw [hWA] at hpW ⊢
  clear hWA
  refine wpIn_rangeFunc_ownN (l₀:=y) (r₀:=r) rfl hr' (by omega) (gf:=352) (lb:=#[.pointer (some ⟨W.heap.size,0,none⟩)]) rfl trivial (enters_of Tryz.func352 (by kernel_rfl) rfl)
   ((edges_stops Fence.wide _ trivial rfl (by omega) W.heap.size (W.heap.size+1) b off len cap l WA (by omega) (by omega) (by omega) cA hpW HL.out hpos hl).inRound y) belowK_t (belowK_b (by omega)) (Below.refl _ _) (fun _=>rfl)
   (fun pre' W'=>NoHit l.length x pre'∧(Below WA.heap.size WA W'∧KeepsFrom W0.heap.size W W'))
   (fun c pre' W'=>((c=.ret∧HasHit l.length x pre')∧W'.heap[w.heap.size+1]? = some (.cells #[.int .i64 193,.int .i64 (x.1.1:Int)] 88 (0,0)))∧(W'.heap[w.heap.size+1+1]? = some (.cells #[.bool true] 4 (0,0))∧(Below w.heap.size W W'∧KeepsFrom W0.heap.size W W')))
   (OwnFrom.and (ownFrom_pure _ _) (OwnFrom.and (ownFrom_below (Nat.le_refl _) (Nat.le_refl _)) (ownFrom_keepsFrom (by omega))))
   (fun c=>OwnFrom.and (OwnFrom.and (ownFrom_pure _ _) (Own.from (cells_own _ (fun _=>#[.int .i64 193,.int .i64 (x.1.1:Int)]) _) _)) (OwnFrom.and (Own.from (cells_own _ (fun _=>#[.bool true]) _) _) (OwnFrom.and (ownFrom_below (by omega) (by omega)) (ownFrom_keepsFrom (by omega)))))
   ⟨(fun _ h=>by cases h),Below.refl _ _,kfA⟩
   (fun z a'' W'=>∃ By,W.heap.size≤By∧W'.heap[By]? = some (.cells #[.int .i64 z.1.2.1.1,.int .i64 z.1.2.1.2,.int .i64 z.1.2.2.1,.int .i64 z.1.2.2.2] 461 (0,0))∧a''={ tmps:=#[.slice (some ⟨b,off,none⟩) len cap,.pointer (some ⟨w.heap.size,0,none⟩),.pointer (some ⟨w.heap.size+1,0,none⟩),.pointer (some ⟨w.heap.size+1+1,0,none⟩),.pointer (some ⟨Bi,0,none⟩),.pointer (some ⟨Bx,0,none⟩),.int .i64 (z.1.1:Int),.pointer (some ⟨By,0,none⟩),.slice (some ⟨b,off,none⟩) len cap,.func (.func 352) #[] #[.pointer (some ⟨w.heap.size+1+1+1,0,none⟩)],.int .i64 (x.1.1:Int),.agg #[.int .i64 x.1.2.1.1,.int .i64 x.1.2.1.2,.int .i64 x.1.2.2.1,.int .i64 x.1.2.2.2],.slice (some ⟨b,off,none⟩) len cap,.func (.func 352) #[] #[.pointer (some ⟨W.heap.size,0,none⟩)],.int .i64 (z.1.1:Int),.agg #[.int .i64 z.1.2.1.1,.int .i64 z.1.2.1.2,.int .i64 z.1.2.2.1,.int .i64 z.1.2.2.2],undef,undef,undef,undef,undef,undef,undef,undef,undef,undef,undef,undef,undef,undef,undef,undef,undef,undef,undef,undef,undef,undef,undef,undef,undef,undef,undef,undef,undef,undef],defers:=[] })
   (fun z a'' _ X Y row hs hg hr=>by obtain ⟨By,e1,e2,e3⟩:=hs;exact ⟨By,e1,cells_own By (fun (_:Unit)=>#[.int .i64 z.1.2.1.1,.int .i64 z.1.2.1.2,.int .i64 z.1.2.2.1,.int .i64 z.1.2.2.2]) _ () X Y row e2 hg (fun r e=>(hr r e).2),e3⟩)
   ?assign2 ?body2 ?done2 ?stop2
  case assign2 =>
   rintro y2 pre' z W' K ⟨hq,hBA,hKF⟩ hK
   have hs2:=hBA.size
   gi_wp2
   exact hK _ _ ((KeepsOthers.alloc _ _).from _) ((Below.refl _ W').alloc (by omega) _) ⟨hq,hBA.alloc hs2 _,hKF.trans ((KeepsOthers.alloc _ _).from _)⟩ ⟨W'.heap.size,by omega,heap_alloc_new W' _,rfl⟩
  case body2 =>
   rintro y2 pre' z a'' W' _ _ ⟨hq,hBA,hKF⟩ ⟨By,g3,rY,rfl⟩ _
   have hBW:Below W.heap.size W W':=hbA.trans (hBA.mono (by omega))
   have hsW:=hBA.size
   have rI':=(hBW.block _ hBI).trans rI
   have rX':=(hBW.block _ hBX).trans rX
   have rS':=(hBW.block _ (by omega)).trans rS
   have q1:=(hBW.block _ (by omega)).trans ((hB1.block _ (by omega)).trans r1)
   have q2:=(hBW.block _ (by omega)).trans ((hB1.block _ (by omega)).trans r2)
   obtain ⟨⟨i,⟨p0,p1⟩,⟨p2,p3⟩⟩,hi5⟩:=x
   obtain ⟨⟨k,⟨u0,u1⟩,⟨u2,u3⟩⟩,hk5⟩:=z
   dsimp only at rI' rX' rY
   have cI:W'.cell? ⟨Bi,0,none⟩=some (.int .i64 (i:Int)):=by rw [cell_of_row W' _ 0 _ _ _ rI'];rfl
   have cS':W'.cell? ⟨w.heap.size,0,none⟩=some (.slice (some ⟨b,off,none⟩) len cap):=by rw [cell_of_row W' _ 0 _ _ _ rS'];rfl
   have x0:W'.cell? ⟨Bx,0,none⟩=some (.int .i64 p0):=by rw [cell_of_row W' _ 0 _ _ _ rX'];rfl
   have x1:W'.cell? ⟨Bx,1,none⟩=some (.int .i64 p1):=by rw [cell_of_row W' _ 1 _ _ _ rX'];rfl
   have x2:W'.cell? ⟨Bx,2,none⟩=some (.int .i64 p2):=by rw [cell_of_row W' _ 2 _ _ _ rX'];rfl
   have x3:W'.cell? ⟨Bx,3,none⟩=some (.int .i64 p3):=by rw [cell_of_row W' _ 3 _ _ _ rX'];rfl
   have v0:W'.cell? ⟨By,0,none⟩=some (.int .i64 u0):=by rw [cell_of_row W' _ 0 _ _ _ rY];rfl
   have v1:W'.cell? ⟨By,1,none⟩=some (.int .i64 u1):=by rw [cell_of_row W' _ 1 _ _ _ rY];rfl
   have v2:W'.cell? ⟨By,2,none⟩=some (.int .i64 u2):=by rw [cell_of_row W' _ 2 _ _ _ rY];rfl
   have v3:W'.cell? ⟨By,3,none⟩=some (.int .i64 u3):=by rw [cell_of_row W' _ 3 _ _ _ rY];rfl
   have hit0:∀ h1 h2,hitE l.length ⟨(i,(p0,p1),(p2,p3)),h1⟩ ⟨(k,(u0,u1),(u2,u3)),h2⟩=(!skipB l.length i k && decide (meets (p0,p1) (p2,p3) (u0,u1) (u2,u3)≠0)):=fun _ _=>rfl
   have HIT:=Lib.hid hit0
   have HQ:=Lib.hid hq
   have HBA:=Lib.hid hBA
   have HBW:=Lib.hid hBW
   have HKF:=Lib.hid hKF
   have HQ1:=Lib.hid q1
   have HQ2:=Lib.hid q2
   have HLE:=HL.out
   have lI:Bi<W'.heap.size:=by omega
   have i0:(0:Int)≤(i:Int):=by omega
   have i5:(i:Int)≤100000:=by omega
   have k0:(0:Int)≤(k:Int):=by omega
   have k5:(k:Int)≤100000:=by omega
   have wk:IntKind.i64.wrap ((len:Int) - 1)=(len:Int) - 1:=IntWalk.i64_in _ (by omega)
   have wk2:IntKind.i64.wrap ((i:Int)+2)=(i:Int)+2:=IntWalk.i64_in _ (by omega)
   have hsk0:skipB l.length i k=(decide (k<i+2) || (decide (i=0) && decide (k+1=len))):=by unfold skipB;rw [← HLE]
   have HSK:=Lib.hid hsk0
   clear hq hBA hBW hKF q1 q2 rI' rX' rY rS' hit0 HLE hsk0
   have hcase:(decide ((k:Int)<(i:Int)+2)=true∧skipB l.length i k=true)∨(decide ((k:Int)<(i:Int)+2)=false∧((i:Int) == 0)=true∧((k:Int) == (len:Int) - 1)=true∧skipB l.length i k=true)∨(decide ((k:Int)<(i:Int)+2)=false∧((i:Int) == 0)=true∧((k:Int) == (len:Int) - 1)=false∧skipB l.length i k=false)∨(decide ((k:Int)<(i:Int)+2)=false∧((i:Int) == 0)=false∧skipB l.length i k=false):=by
    rw [HSK.out]
    by_cases a1:k<i+2
    ·left;exact ⟨decide_eq_true (by omega),by rw [decide_eq_true a1];rfl⟩
    ·right
     have b1:decide ((k:Int)<(i:Int)+2)=false:=decide_eq_false (by omega)
     by_cases a2:i=0
     ·by_cases a3:k+1=len
      ·left;exact ⟨b1,by simp [a2],by simp;omega,by rw [decide_eq_true a2,decide_eq_true a3];simp⟩
      ·right;left;exact ⟨b1,by simp [a2],by simp;omega,by rw [decide_eq_false a1,decide_eq_false a3];simp⟩
     ·right;right;exact ⟨b1,by simp;omega,by rw [decide_eq_false a1,decide_eq_false a2];rfl⟩
   have cont:∀ w1,Kp W' w1→hitE l.length ⟨(i,(p0,p1),(p2,p3)),hi5⟩ ⟨(k,(u0,u1),(u2,u3)),hk5⟩=false→NoHit l.length ⟨(i,(p0,p1),(p2,p3)),hi5⟩ (pre'++[⟨(k,(u0,u1),(u2,u3)),hk5⟩])∧Below WA.heap.size WA w1∧KeepsFrom W0.heap.size W w1:=fun w1 hk hf =>
    ⟨fun z hz=>(List.mem_append.1 hz).elim (HQ.out z) (fun e=>by obtain rfl:=List.mem_singleton.1 e;exact hf),HBA.out.trans (hk.mono hsW),HKF.out.trans (keepsFrom_kp hk)⟩
   have CONT:=Lib.hid cont
   clear cont
   rcases hcase with ⟨t1,t2⟩ | ⟨t1,t2,t3,t4⟩ | hns
   ·have HF:=Lib.hid (show hitE l.length ⟨(i,(p0,p1),(p2,p3)),hi5⟩ ⟨(k,(u0,u1),(u2,u3)),hk5⟩=false by rw [HIT.out,t2];rfl)
    have t5:(k:Int)<(i:Int)+2:=of_decide_eq_true t1
    have t6:k<i+2:=by omega
    clear t2 t1
    have t1:decide (k<i+2)=true:=decide_eq_true t6
    gi_wp2
    all_goals first
     | exact ⟨KeepsFrom.refl _ _,Below.refl _ _,CONT.out _ (kp_refl _) HF.out⟩
     | (rename_i hu _;injection hu with hu;cases hu)
     | (rename_i hu;injection hu with hu;cases hu)
   ·have HF:=Lib.hid (show hitE l.length ⟨(i,(p0,p1),(p2,p3)),hi5⟩ ⟨(k,(u0,u1),(u2,u3)),hk5⟩=false by rw [HIT.out,t4];rfl)
    clear t4
    gi_wp2
    exact ⟨KeepsFrom.refl _ _,Below.refl _ _,CONT.out _ (kp_refl _) HF.out⟩
   ·have hm0:=fun w=>meets_any p0 p1 p2 p3 u0 u1 u2 u3 w
    obtain ⟨M,hM⟩:∃ M,meets (p0,p1) (p2,p3) (u0,u1) (u2,u3)=M:=⟨_,rfl⟩
    rw [hM] at hm0
    have HM:=Lib.hid hm0
    have hbk:∃ t:Bool,skipB l.length i k=false∧decide ((k:Int)<(i:Int)+2)=false∧((i:Int) == 0)=t∧(t=true→((k:Int) == (len:Int) - 1)=false):=by
     rcases hns with ⟨t1,t2,t3,t4⟩ | ⟨t1,t2,t4⟩
     ·exact ⟨true,t4,t1,t2,fun _=>t3⟩
     ·exact ⟨false,t4,t1,t2,fun h=>by cases h⟩
    obtain ⟨t,t4,t1,t2,t3⟩:=hbk
    have hh:hitE l.length ⟨(i,(p0,p1),(p2,p3)),hi5⟩ ⟨(k,(u0,u1),(u2,u3)),hk5⟩=decide (M≠0):=by rw [HIT.out,t4,hM];rfl
    have HH:=Lib.hid hh
    clear hm0 hM hns t4 hh
    by_cases h0:M=0
    ·have HF:=Lib.hid (show hitE l.length ⟨(i,(p0,p1),(p2,p3)),hi5⟩ ⟨(k,(u0,u1),(u2,u3)),hk5⟩=false by rw [HH.out];simp [h0])
     have tm:(M != 0)=false:=by simp [h0]
     clear h0
     cases t
     all_goals (first | replace t3:=t3 rfl | clear t3)
     all_goals gi_wp2_with (refine ⟨trivial,?_⟩;gi_at_call 216;refine (CallsIn.inRound y2 (callsIn_wide.2 (HM.out _))).mono ?_;rintro e w1 ⟨rfl,hk⟩;have HK1:=Lib.hid hk;clear hk)
     all_goals exact ⟨keepsFrom_kp HK1.out,Below.mono HK1.out (by omega),CONT.out _ HK1.out HF.out⟩
    ·have HF:=Lib.hid (show hitE l.length ⟨(i,(p0,p1),(p2,p3)),hi5⟩ ⟨(k,(u0,u1),(u2,u3)),hk5⟩=true by rw [HH.out];exact decide_eq_true h0)
     have tm:(M != 0)=true:=by simpa using h0
     clear h0
     cases t
     all_goals (first | replace t3:=t3 rfl | clear t3)
     all_goals gi_wp2_with (first
      | (refine ⟨trivial,?_⟩;gi_at_call 216;refine (CallsIn.inRound y2 (callsIn_wide.2 (HM.out _))).mono ?_;rintro e w1 ⟨rfl,hk⟩;have HK1:=Lib.hid hk;have cI1:=kp_cell hk cI;have lI1:Bi<w1.heap.size:=cell_lt cI1;clear hk)
      | (refine ⟨trivial,?_⟩;gi_at_call 280;refine (CallsIn.inRound y2 (callsIn_wide.2 (bad_any _ _ _))).mono ?_;rintro e w2 ⟨rfl,hk⟩;have HK2:=Lib.hid (kp_trans HK1.out hk);have e1:=(HK2.out.block _ (by omega)).trans HQ1.out;have e2:=(HK2.out.block _ (by omega)).trans HQ2.out;have HE1:=Lib.hid e1;have HE2:=Lib.hid e2;have z0:w2.cell? ⟨w.heap.size+1,0,none⟩=some (.int .i64 0):=(by rw [cell_of_row w2 _ 0 _ _ _ e1];rfl);have z1:w2.cell? ⟨w.heap.size+1,1,none⟩=some (.int .i64 0):=(by rw [cell_of_row w2 _ 1 _ _ _ e1];rfl);have z2:w2.cell? ⟨w.heap.size+1+1,0,none⟩=some (.bool false):=(by rw [cell_of_row w2 _ 0 _ _ _ e2];rfl);have f0:=froz_row8 e1 0;have f1:=froz_row8 e1 1;have f2:=froz_row8 e2 0;clear e1 e2 hk))
     all_goals exact ⟨(keepsFrom_kp HK2.out).trans (((KeepsOthers.setCell _ _ _).trans ((KeepsOthers.setCell _ _ _).trans (KeepsOthers.setCell _ _ _))).from _),⟨⟨rfl,_,List.mem_append.2 (.inr (List.mem_singleton.2 rfl)),HF.out⟩,row_off8 _ (by omega) (row_set8 _ (row_set8 _ HE1.out))⟩,row_set8 _ (row_off8 _ (by omega) (row_off8 _ (by omega) HE2.out)),
      ((((HBW.out.mono (by omega)).trans (HK2.out.mono (by omega))).setCell (p:=⟨w.heap.size+1,0,none⟩) (by simp) _).setCell (p:=⟨w.heap.size+1,1,none⟩) (by simp) _).setCell (p:=⟨w.heap.size+1+1,0,none⟩) (by simp;omega) _,HKF.out.trans ((keepsFrom_kp HK2.out).trans (((KeepsOthers.setCell _ _ _).trans ((KeepsOthers.setCell _ _ _).trans (KeepsOthers.setCell _ _ _))).from _))⟩
  case done2 =>
   rintro ys' W' rfl ⟨hq,hBA,hKF⟩
   have hBW:Below W.heap.size W W':=hbA.trans (hBA.mono (by omega))
   gi_wp2
   exact ⟨hKF,hBW.mono (by omega),fun z hz=>by
    rcases List.mem_append.1 hz with h | h
    ·exact HP1.out z h
    ·obtain rfl:z=x:=by simpa using h
     exact hq,hB1.trans (hBW.mono (by omega))⟩
  case stop2 =>
   rintro c pre' W' hpre ⟨⟨⟨rfl,z,hz,hzh⟩,q1⟩,q2,hBW,hKF⟩
   gi_wp2
   exact ⟨hKF,⟨⟨rfl,pre,x,rfl,HP1.out,z,hpre.subset hz,hzh⟩,by rw [lastI_snoc];exact q1⟩,q2,(hB0.trans (hB1.mono (by omega))).trans hBW⟩
 case done =>
  rintro D ys W hD rfl ⟨hp1,hB1⟩ hK
  have hf:=mt_none HLL.out hp1
  have q1:W.heap[w.heap.size+1]? = some (.cells #[.int .i64 0,.int .i64 0] 88 (0,0)):=(hB1.block _ (by omega)).trans r1
  have q2:W.heap[w.heap.size+1+1]? = some (.cells #[.bool false] 4 (0,0)):=(hB1.block _ (by omega)).trans r2
  have z0:W.cell? ⟨w.heap.size+1,0,none⟩=some (.int .i64 0):=by rw [cell_of_row W _ 0 _ _ _ q1];rfl
  have z1:W.cell? ⟨w.heap.size+1,1,none⟩=some (.int .i64 0):=by rw [cell_of_row W _ 1 _ _ _ q1];rfl
  have f0:=froz_row8 q1 0
  have f1:=froz_row8 q1 1
  have z2:W.cell? ⟨w.heap.size+1+1,0,none⟩=some (.bool false):=by rw [cell_of_row W _ 0 _ _ _ q2];rfl
  have f2:=froz_row8 q2 0
  have HF:=Lib.hid hf
  clear hp1 hf q1 q2
  gi_wp2
  obtain ⟨S,hS⟩:∃ S,((W.setCell ⟨w.heap.size+1,0,none⟩ (.int .i64 0)).setCell ⟨w.heap.size+1,1,none⟩ (.int .i64 0)).setCell ⟨w.heap.size+1+1,0,none⟩ (.bool false)=S:=⟨_,rfl⟩
  have s0:S.cell? ⟨w.heap.size+1,0,none⟩=some (.int .i64 0):=by rw [← hS];simp [go_sem,z0]
  have s1:S.cell? ⟨w.heap.size+1,1,none⟩=some (.int .i64 0):=by rw [← hS];simp [go_sem,z1]
  have s2:S.cell? ⟨w.heap.size+1+1,0,none⟩=some (.bool false):=by rw [← hS];simp [go_sem,z2]
  have hK':S.heap[D]? = some (.deferred (some [])):=by rw [← hS];exact ((KeepsOthers.setCell W _ _).trans ((KeepsOthers.setCell _ _ _).trans (KeepsOthers.setCell _ _ _))).same D _ hK rfl
  have hBS:Below w.heap.size w S:=by rw [← hS];exact (((hB0.trans (hB1.mono (by omega))).setCell (p:=⟨w.heap.size+1,0,none⟩) (by simp) _).setCell (p:=⟨w.heap.size+1,1,none⟩) (by simp) _).setCell (p:=⟨w.heap.size+1+1,0,none⟩) (by simp;omega) _
  rw [hS]
  refine ⟨by simp,.inl ⟨_,_,rfl,run_takeDeferred hK',?_⟩⟩
  have e0:=cell_kept s0 (grownBy_putObj' _ D (.deferred none)) (fun r e=>by cases e;exact ⟨_,hK',rfl⟩)
  have e1:=cell_kept s1 (grownBy_putObj' _ D (.deferred none)) (fun r e=>by cases e;exact ⟨_,hK',rfl⟩)
  have e2:=cell_kept s2 (grownBy_putObj' _ D (.deferred none)) (fun r e=>by cases e;exact ⟨_,hK',rfl⟩)
  refine ⟨(.tuple #[.agg #[.int .i64 0,.int .i64 0],.bool false]),?_,by unfold mtS;rw [HF.out];rfl,hBS.trans (belowK_b (w:=w) (Nat.le_refl _) S D _ _ (by omega) hK' rfl rfl)⟩
  simp [results,Tryz.f213,go_sem,e0,e1,e2]
 case stop =>
  rintro D c pre W hD hpre ⟨⟨⟨rfl,hh⟩,q1⟩,q2,hB1⟩ hK
  have hf:=mt_some HLL.out hpre hh
  have z0:W.cell? ⟨w.heap.size+1,0,none⟩=some (.int .i64 193):=by rw [cell_of_row W _ 0 _ _ _ q1];rfl
  have z1:W.cell? ⟨w.heap.size+1,1,none⟩=some (.int .i64 (lastI pre:Int)):=by rw [cell_of_row W _ 1 _ _ _ q1];rfl
  have z2:W.cell? ⟨w.heap.size+1+1,0,none⟩=some (.bool true):=by rw [cell_of_row W _ 0 _ _ _ q2];rfl
  gi_wp2
  refine ⟨by simp,.inl ⟨_,_,rfl,run_takeDeferred hK,?_⟩⟩
  have e0:=cell_kept z0 (grownBy_putObj' _ D (.deferred none)) (fun r e=>by cases e;exact ⟨_,hK,rfl⟩)
  have e1:=cell_kept z1 (grownBy_putObj' _ D (.deferred none)) (fun r e=>by cases e;exact ⟨_,hK,rfl⟩)
  have e2:=cell_kept z2 (grownBy_putObj' _ D (.deferred none)) (fun r e=>by cases e;exact ⟨_,hK,rfl⟩)
  refine ⟨(.tuple #[.agg #[.int .i64 193,.int .i64 (lastI pre:Int)],.bool true]),?_,by unfold mtS;rw [hf];rfl,hB1.trans (belowK_b (w:=w) (Nat.le_refl _) W D _ _ (by omega) hK rfl rfl)⟩
  simp [results,Tryz.f213,go_sem,e0,e1,e2]
end Go.Proofs.YtgliljnbajohhaaGreatDoor
namespace Go.Proofs.Geo
theorem szS_ok {l:List Pt} (h1:3≤l.length) (h2:l.length≤200):szS l=(0,0,false):=by unfold szS;rw [if_neg (by omega),if_neg (by omega)]
theorem vdS_ok {l:List Pt} (h:∀ i,i<l.length→(!okP (pt l i))=false):vdS l=(0,0,false):=by unfold vdS;rw [firstN_none h];rfl
theorem twS_ok {l:List Pt} (h:∀ i,i<l.length→twiceB l i=false):twS l=(0,0,false):=by unfold twS;rw [firstN_none h];rfl
theorem bkS_ok {l:List Pt} (h:∀ i,i<l.length→backB l i=false):bkS l=(0,0,false):=by unfold bkS;rw [firstN_none h];rfl
theorem mtS_ok {l:List Pt} (h:∀ i,i<l.length→meetB l i=false):mtS l=(0,0,false):=by unfold mtS;rw [firstN_none h];rfl
theorem chk_ok {l:List Pt} (h1:3≤l.length) (h2:l.length≤200) (h3:∀ i,i<l.length→(!okP (pt l i))=false) (h4:∀ i,i<l.length→twiceB l i=false) (h5:∀ i,i<l.length→backB l i=false) (h6:∀ i,i<l.length→meetB l i=false):chk l=(0,0):=by
 unfold chk;rw [szS_ok h1 h2,vdS_ok h3,twS_ok h4,bkS_ok h5,mtS_ok h6];rfl
end Go.Proofs.Geo
