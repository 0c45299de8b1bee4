import Derived.Test.YtgliljnbajohhaaGreatDoorQ09
import Derived.Test.YtgliljnbajohhaaGreatDoorQ00
import Derived.Test.YtgliljnbajohhaaGreatDoorQ08
set_option linter.unusedVariables false
set_option linter.unusedSimpArgs false
namespace Go.Proofs.YtgliljnbajohhaaGreatDoor
open Go.RowKit Go.Proofs.Top
theorem fld_err0 (a b:Int) (w:World):(Instr.field 88 (.agg #[.int .i64 a,.int .i64 b]) 0).run Tryz.prog w=.ok (.int .i64 a) w:=by kernel_rfl
set_option maxHeartbeats 4000000 in
theorem cr_number (gr g pb po:Nat) (v:Value) (bs pre post:List Int) (n:Nat) (hn:n<1048576) (x:Int) (w:World) (hR:RdU w v bs) (hbs:bs=pre++(enc n++post)) (hl:bs.length≤100000) (hg:RdrB g v pre.length w)
  (hr:w.cell? ⟨gr,0,none⟩=some (.pointer (some ⟨g,0,none⟩))) (hp:w.cell? ⟨pb,po,none⟩=some (.int .i64 x)) (hf:w.frozen? ⟨pb,po,none⟩=false) (hne:pb≠g) :
  Calls Tryz.prog 521 #[.pointer (some ⟨gr,0,none⟩),.pointer (some ⟨pb,po,none⟩)] w fun e w'=>e=.returned (.tuple #[])∧∃ w1,RdrB g v (pre++enc n).length w1∧KX [g] w w1∧w'=w1.setCell ⟨pb,po,none⟩ (.int .i64 n):=by
 have HC:=Lib.hid (rint_any g v bs pre post n hn (-9223372036854775808) 9223372036854775807 (by omega) (by omega) w hR hbs hl hg)
 have lr:=cell_lt hr
 have lp:=cell_lt hp
 have hnm:pb∉[g]:=by simpa using hne
 clear hR hbs hl hg
 go_enter Tryz.func521,Tryz.ntmps521
 go_wp2_with (go_at_call 249;refine HC.out.mono ?_;rintro e w1 ⟨rfl,hr1,hk1⟩;have p1:=hk1.cell hp hnm;have f1:=hk1.froz lp hf hnm;have lp1:=cell_lt p1)
 go_end0
 exact ⟨rfl,w1,hr1,hk1,rfl⟩
set_option maxHeartbeats 4000000 in
theorem cr_count (gr g:Nat) (v:Value) (bs pre post:List Int) (n:Nat) (hn:n<60000) (x:Int) (w:World) (hR:RdU w v bs) (hbs:bs=pre++(enc n++post)) (hl:bs.length≤100000) (hg:RdrB g v pre.length w)
  (hr:w.cell? ⟨gr,0,none⟩=some (.pointer (some ⟨g,0,none⟩))) :
  Calls Tryz.prog 519 #[.pointer (some ⟨gr,0,none⟩),.int .i64 x] w (NumEnd g v (pre++enc n).length n w):=by
 have HC:=Lib.hid (rcount_any g v bs pre post n (by omega) 65536 (by omega) w hR hbs hl hg)
 have lr:=cell_lt hr
 clear hR hbs hl hg
 go_enter Tryz.func519,Tryz.ntmps519
 go_wp2_with (go_at_call 250;refine HC.out.mono ?_;rintro e w1 ⟨rfl,hr1,hk1⟩)
 go_ret
 exact ⟨rfl,hr1,hk1⟩
set_option maxHeartbeats 4000000 in
theorem cr_fine (gr g:Nat) (v:Value) (at0:Nat) (w:World) (hg:RdrB g v at0 w) (hr:w.cell? ⟨gr,0,none⟩=some (.pointer (some ⟨g,0,none⟩))) :
  Calls Tryz.prog 520 #[.pointer (some ⟨gr,0,none⟩)] w fun e w'=>e=.returned (.bool true)∧Kp w w':=by
 have HC:=Lib.hid (rfault_any g v at0 w hg)
 have lr:=cell_lt hr
 have hfl:=fld_err0 0 0
 clear hg
 go_enter Tryz.func520,Tryz.ntmps520
 go_wp2_with (go_at_call 130;refine HC.out.mono ?_;rintro e w1 ⟨rfl,hk1⟩)
 go_ret
 exact ⟨rfl,hk1⟩
def encs (ns:List Nat):List Int:=(ns.map enc).flatten
theorem encs_take (ns:List Nat) {k:Nat} (h:k<ns.length):encs (ns.take (k+1))=encs (ns.take k)++enc (ns.getD k 0):=by
 unfold encs
 rw [List.take_succ_eq_append_getElem h,List.map_append,List.flatten_append,List.getD_eq_getElem?_getD,List.getElem?_eq_getElem h]
 simp
theorem encs_split (ns:List Nat) {k:Nat} (h:k<ns.length):encs ns=encs (ns.take k)++(enc (ns.getD k 0)++encs (ns.drop (k+1))):=by
 have e:ns=ns.take (k+1)++ns.drop (k+1):=(List.take_append_drop _ _).symm
 have h1:encs ns=encs (ns.take (k+1))++encs (ns.drop (k+1)):=by
  conv=>lhs;rw [e]
  unfold encs
  rw [List.map_append,List.flatten_append]
 rw [h1,encs_take ns h,List.append_assoc]
def setAll (cs:Array Value):List Nat→List Nat→Array Value
 | o :: os,n :: ns=>setAll (cs.setIfInBounds o (.int .i64 n)) os ns
 | _,_=>cs
theorem setAll_take (os ns:List Nat):∀ (cs:Array Value) (k:Nat),k<os.length→k<ns.length→setAll cs (os.take (k+1)) (ns.take (k+1))=(setAll cs (os.take k) (ns.take k)).setIfInBounds (os.getD k 0) (.int .i64 (ns.getD k 0:Nat)):=by
 induction os generalizing ns with
 | nil=>intro cs k h;simp at h
 | cons o os ih =>
  intro cs k h1 h2
  cases ns with
  | nil=>simp at h2
  | cons n ns =>
   cases k with
   | zero=>simp [setAll]
   | succ k =>
    simp only [List.take_succ_cons,setAll,List.getD_cons_succ]
    exact ih ns _ k (by simpa using h1) (by simpa using h2)
theorem mth_rnumber (p:Option Addr) (w:World):(method 799 146 (.pointer p) "apportion/config.number").run Tryz.prog w=.ok (521,.pointer p) w:=by kernel_rfl
set_option maxHeartbeats 8000000 in
set_option maxRecDepth 100000 in
theorem cr_numbers (gr g pb lb m cap:Nat) (v:Value) (bs pre post:List Int) (ns os:List Nat) (cs:Array Value) (T:TypeId) (hn:ns.length=m) (ho:os.length=m) (hm10:m≤10) (hns:∀ k,k<m→ns.getD k 0<1048576)
  (hrow:∀ k,k<m→∃ x:Int,(setAll cs (os.take k) (ns.take k))[os.getD k 0]? = some (.int .i64 x)) (w:World) (hR:RdU w v bs) (hbs:bs=pre++(encs ns++post)) (hl:bs.length≤100000) (hg:RdrB g v pre.length w) (hvq:∀ b off n c,v=.slice (some ⟨b,off,none⟩) n c→b≠g∧b≠pb)
  (hr:w.cell? ⟨gr,0,none⟩=some (.pointer (some ⟨g,0,none⟩))) (hp:w.heap[pb]? = some (.cells cs T (0,0))) (hlb:∀ k,k<m→w.cell? ⟨lb,k,none⟩=some (.pointer (some ⟨pb,os.getD k 0,none⟩))) (hne:pb≠g) (hgr:gr≠g∧gr≠pb) (hl2:lb≠g∧lb≠pb) :
  Calls Tryz.prog 202 #[.iface 146 (.pointer (some ⟨gr,0,none⟩)),.slice (some ⟨lb,0,none⟩) m cap] w fun e w'=>e=.returned (.tuple #[])∧RdrB g v (pre++encs ns).length w'∧w'.heap[pb]? = some (.cells (setAll cs os ns) T (0,0))∧KX [g,pb] w w':=by
 have HN:=Lib.hid hn;have HO:=Lib.hid ho;have HNS:=Lib.hid hns;have HROW:=Lib.hid hrow;have HR:=Lib.hid hR;have HBS:=Lib.hid hbs;have HL:=Lib.hid hl;have HG:=Lib.hid hg;have HVQ:=Lib.hid hvq;have HCR:=Lib.hid hr;have HP:=Lib.hid hp;have HLB:=Lib.hid hlb
 have hmth:=mth_rnumber (some ⟨gr,0,none⟩)
 clear hn ho hns hrow hR hbs hl hg hvq hr hp hlb
 go_enter Tryz.func202,Tryz.ntmps202
 go_wp2_with fail
 go_loopw [8] (fun i wr=>∃ k:Nat,k≤m∧i=.int .i64 k∧RdrB g v (pre++encs (ns.take k)).length wr∧wr.heap[pb]? = some (.cells (setAll cs (os.take k) (ns.take k)) T (0,0))∧KX [g,pb] w wr) (fun i _=>m - (intOf i).toNat)
 case atStart=>exact ⟨0,by omega,rfl,by simpa [encs] using HG.out,by simpa [setAll] using HP.out,KX.refl _⟩
 case round =>
  obtain ⟨k,hk,rfl,hrd,hpr,hkx⟩:=hrel
  by_cases hlt:k<m
  ·have z1:(0:Int)≤(k:Int):=by omega
   have z2:(k:Int)<(m:Int):=by omega
   have wi:IntKind.i64.wrap ((k:Int)+1)=(k:Int)+1:=IntWalk.i64_in _ (by omega)
   have hlc:=hkx.cell (HLB.out k hlt) (by simp;exact hl2)
   have llb:=cell_lt hlc
   obtain ⟨x,hx⟩:=HROW.out k hlt
   have hpc:wr.cell? ⟨pb,os.getD k 0,none⟩=some (.int .i64 x):=by rw [cell_of_row wr pb _ _ _ _ hpr];exact hx
   have hpf:wr.frozen? ⟨pb,os.getD k 0,none⟩=false:=frozen_of_row wr pb _ _ _ hpr
   have HC:=Lib.hid (cr_number gr g pb (os.getD k 0) v bs (pre++encs (ns.take k)) (encs (ns.drop (k+1))++post) (ns.getD k 0) (HNS.out k hlt) x wr
    (HR.out.kx hkx (fun b off n c hv=>by have:=HVQ.out b off n c hv;simp;exact this)) (by rw [HBS.out,encs_split ns (k:=k) (by rw [HN.out];exact hlt)];simp) HL.out hrd (hkx.cell HCR.out (by simp;exact hgr)) hpc hpf hne)
   generalize hoff:os.getD k 0=off at *
   have HX:=Lib.hid hkx;have HPR:=Lib.hid hpr
   clear hx hkx hpr hrd hpc hpf
   go_wp2_with (go_at_call 521;refine HC.out.mono ?_;rintro e w2 ⟨rfl,w1,hr1,hk1,rfl⟩)
   have hs1:=setAll_take os ns cs k (by rw [HO.out];exact hlt) (by rw [HN.out];exact hlt)
   rw [hoff] at hs1
   have hp1:w1.heap[pb]? = some (.cells (setAll cs (os.take k) (ns.take k)) T (0,0)):=hk1.row HPR.out (by simpa using hne)
   refine ⟨⟨k+1,by omega,by go_num,?_,?_,?_⟩,by simp [intOf];omega⟩
   ·rw [encs_take ns (by rw [HN.out];exact hlt),← List.append_assoc]
    exact hr1.off (Ne.symm hne) _
   ·rw [hs1,heap_setCell_same w1 pb _ _ _ _ hp1];rfl
   ·exact (HX.out.trans hk1 (by simp)).set (.inl (by simp)) _
  ·obtain rfl:k=m:=by omega
   have z2:¬ (k:Int)<(k:Int):=by omega
   have e1:ns.take k=ns:=List.take_of_length_le (by rw [HN.out];exact Nat.le_refl _)
   have e2:os.take k=os:=List.take_of_length_le (by rw [HO.out];exact Nat.le_refl _)
   rw [e1] at hrd
   rw [e1,e2] at hpr
   have HX:=Lib.hid hkx;have HPR:=Lib.hid hpr;have HRD:=Lib.hid hrd
   clear hkx hpr hrd e1 e2
   go_wp2_with fail
   go_end0
   exact ⟨rfl,by have h:=HRD.out;rwa [List.length_append] at h,HPR.out,HX.out⟩
theorem row2_ok (a b:Int) (x y:Nat):∀ k,k<2→∃ z:Int,(setAll #[.int .i64 a,.int .i64 b] ([0,1].take k) ([x,y].take k))[[0,1].getD k 0]? = some (.int .i64 z):=by
 intro k hk
 match k,hk with
 | 0,_=>exact ⟨a,rfl⟩
 | 1,_=>exact ⟨b,rfl⟩
set_option maxHeartbeats 8000000 in
set_option maxRecDepth 100000 in
theorem cr_place (gr g pb:Nat) (v:Value) (bs pre post:List Int) (x y:Nat) (a b:Int) (hx:x<1048576) (hy:y<1048576) (w:World) (hR:RdU w v bs) (hbs:bs=pre++(encs [x,y]++post)) (hl:bs.length≤100000) (hg:RdrB g v pre.length w) (hvq:∀ b off n c,v=.slice (some ⟨b,off,none⟩) n c→b≠g∧b≠pb)
  (hr:w.cell? ⟨gr,0,none⟩=some (.pointer (some ⟨g,0,none⟩))) (hp:w.heap[pb]? = some (.cells #[.int .i64 a,.int .i64 b] 53 (0,0))) (hne:pb≠g) (hgr:gr≠g∧gr≠pb) :
  Calls Tryz.prog 207 #[.iface 146 (.pointer (some ⟨gr,0,none⟩)),.pointer (some ⟨pb,0,none⟩)] w fun e w'=>e=.returned (.tuple #[])∧RdrB g v (pre++encs [x,y]).length w'∧w'.heap[pb]? = some (.cells #[.int .i64 x,.int .i64 y] 53 (0,0))∧KX [g,pb] w w':=by
 have lg:=hg.lt
 have lp:pb<w.heap.size:=(Array.getElem?_eq_some_iff.1 hp).1
 have HC:=Lib.hid (fun lb w' (k:Kp w w') (c0:w'.cell? ⟨lb,0,none⟩=some (.pointer (some ⟨pb,0,none⟩))) (c1:w'.cell? ⟨lb,1,none⟩=some (.pointer (some ⟨pb,1,none⟩))) (n1:lb≠g∧lb≠pb) =>
  cr_numbers gr g pb lb 2 2 v bs pre post [x,y] [0,1] #[.int .i64 a,.int .i64 b] 53 rfl rfl (by decide) (fun k hk=>by match k,hk with | 0,_=>exact hx | 1,_=>exact hy) (row2_ok a b x y) w' (hR.kp k) hbs hl (hg.kp k) hvq (kp_cell k hr) ((k.block pb lp).trans hp) (fun k hk=>by match k,hk with | 0,_=>exact c0 | 1,_=>exact c1) hne hgr n1)
 clear hR hbs hl hg hvq hr hp
 go_enter Tryz.func207,Tryz.ntmps207
 go_upto_region 0 with fail
 go_region_with (go_at_call 202;refine (HC.out w.heap.size _ (by (repeat (first | exact kp_refl _ | apply kp_alloc | apply kp_drew | apply kp_drewN))) (by simp [go_sem]) (by simp [go_sem]) (by omega)).mono ?_;rintro e w4 ⟨rfl,h1,h2,h3⟩)
 go_end0
 exact ⟨rfl,h1,h2,KX.then (KX.of (by (repeat (first | exact kp_refl _ | apply kp_alloc | apply kp_drew | apply kp_drewN)))) h3⟩
set_option maxHeartbeats 8000000 in
set_option maxRecDepth 100000 in
theorem cr_day (gr g pb:Nat) (v:Value) (bs pre post:List Int) (x y:Nat) (a b:Int) (hx:x<1048576) (hy:y<1048576) (w:World) (hR:RdU w v bs) (hbs:bs=pre++(encs [x,y]++post)) (hl:bs.length≤100000) (hg:RdrB g v pre.length w) (hvq:∀ b off n c,v=.slice (some ⟨b,off,none⟩) n c→b≠g∧b≠pb)
  (hr:w.cell? ⟨gr,0,none⟩=some (.pointer (some ⟨g,0,none⟩))) (hp:w.heap[pb]? = some (.cells #[.int .i64 a,.int .i64 b] 41 (0,0))) (hne:pb≠g) (hgr:gr≠g∧gr≠pb) :
  Calls Tryz.prog 206 #[.iface 146 (.pointer (some ⟨gr,0,none⟩)),.pointer (some ⟨pb,0,none⟩)] w fun e w'=>e=.returned (.tuple #[])∧RdrB g v (pre++encs [x,y]).length w'∧w'.heap[pb]? = some (.cells #[.int .i64 x,.int .i64 y] 41 (0,0))∧KX [g,pb] w w':=by
 have lg:=hg.lt
 have lp:pb<w.heap.size:=(Array.getElem?_eq_some_iff.1 hp).1
 have HC:=Lib.hid (fun lb w' (k:Kp w w') (c0:w'.cell? ⟨lb,0,none⟩=some (.pointer (some ⟨pb,0,none⟩))) (c1:w'.cell? ⟨lb,1,none⟩=some (.pointer (some ⟨pb,1,none⟩))) (n1:lb≠g∧lb≠pb) =>
  cr_numbers gr g pb lb 2 2 v bs pre post [x,y] [0,1] #[.int .i64 a,.int .i64 b] 41 rfl rfl (by decide) (fun k hk=>by match k,hk with | 0,_=>exact hx | 1,_=>exact hy) (row2_ok a b x y) w' (hR.kp k) hbs hl (hg.kp k) hvq (kp_cell k hr) ((k.block pb lp).trans hp) (fun k hk=>by match k,hk with | 0,_=>exact c0 | 1,_=>exact c1) hne hgr n1)
 clear hR hbs hl hg hvq hr hp
 go_enter Tryz.func206,Tryz.ntmps206
 go_upto_region 0 with fail
 go_region_with (go_at_call 202;refine (HC.out w.heap.size _ (by (repeat (first | exact kp_refl _ | apply kp_alloc | apply kp_drew | apply kp_drewN))) (by simp [go_sem]) (by simp [go_sem]) (by omega)).mono ?_;rintro e w4 ⟨rfl,h1,h2,h3⟩)
 go_end0
 exact ⟨rfl,h1,h2,KX.then (KX.of (by (repeat (first | exact kp_refl _ | apply kp_alloc | apply kp_drew | apply kp_drewN)))) h3⟩
end Go.Proofs.YtgliljnbajohhaaGreatDoor
namespace Go.Proofs.YtgliljnbajohhaaGreatDoor
open Go.RowKit Go.Proofs.Top Go.Proofs.Geo
theorem mth_rcount (p:Option Addr) (w:World):(method 799 146 (.pointer p) "apportion/config.count").run Tryz.prog w=.ok (519,.pointer p) w:=by kernel_rfl
theorem mth_rfine (p:Option Addr) (w:World):(method 799 146 (.pointer p) "apportion/config.fine").run Tryz.prog w=.ok (520,.pointer p) w:=by kernel_rfl
theorem nil_rcount (a:Addr) (w:World):(nilAhead 799 146 (.pointer (some a)) "apportion/config.count").run Tryz.prog w=.ok (some false) w:=by kernel_rfl
abbrev NPt:=Nat×Nat
def ptsN (l:List NPt):List Pt:=l.map fun p=>((p.1:Int),(p.2:Int))
def encPs (l:List NPt):List Int:=(l.map fun p=>encs [p.1,p.2]).flatten
theorem encPs_take (l:List NPt) {k:Nat} (h:k<l.length):encPs (l.take (k+1))=encPs (l.take k)++encs [(l.getD k (0,0)).1,(l.getD k (0,0)).2]:=by
 unfold encPs
 rw [List.take_succ_eq_append_getElem h,List.map_append,List.flatten_append,List.getD_eq_getElem?_getD,List.getElem?_eq_getElem h]
 simp
theorem encPs_split (l:List NPt) {k:Nat} (h:k<l.length):encPs l=encPs (l.take k)++(encs [(l.getD k (0,0)).1,(l.getD k (0,0)).2]++encPs (l.drop (k+1))):=by
 have e:l=l.take (k+1)++l.drop (k+1):=(List.take_append_drop _ _).symm
 have h1:encPs l=encPs (l.take (k+1))++encPs (l.drop (k+1)):=by
  conv=>lhs;rw [e]
  unfold encPs
  rw [List.map_append,List.flatten_append]
 rw [h1,encPs_take l h,List.append_assoc]
theorem ptsN_take (l:List NPt) {k:Nat} (h:k<l.length):ptsN (l.take (k+1))=ptsN (l.take k)++[(((l.getD k (0,0)).1:Int),((l.getD k (0,0)).2:Int))]:=by
 unfold ptsN
 rw [List.take_succ_eq_append_getElem h,List.map_append,List.getD_eq_getElem?_getD,List.getElem?_eq_getElem h]
 simp
theorem arm_append_own_at {P:Program} {o:Oper} {a:Act} {w:World} {next:Act→World→Prop} {Q:Exit→Act→World→Prop} (s x:Operand) (t:TypeId)
  (ho:o.op=.call { callee:=.builtin .append,args:=#[s,x],argTypes:=#[t,t] })
  (base:Nat) (e:TypeId) (i:TypeInfo) (z:Value) (size bytes:Nat) (ht:P.underlying t=some (.slice e)) (hi:P.info? e=some i) (hz:i.zero=some z)
  (hsize:i.size=size) (hby:i.bytes=bytes) (hzs:z.cells.size=size) (hsz:0<size)
  (v:Value) (n:Nat) (xs:List Value) (hs:a.eval s=v) (hown:w.ownsRow base e size v n xs)
  (ad:Addr) (m c:Nat) (news:List Value) (hx:a.eval x=.slice (some ad) m c) (hl:news.length=m * size) (hnews:∀ j u,news[j]? = some u→w.cell? (ad.add j)=some u) (h1:∀ u∈news,u.oneCell'=true)
  (h63:n+m≤maxLen) (hbytes:(n+m) * bytes≤140737488355328) (hbase:base≤w.heap.size)
  (h:∀ v' w',w'.ownsRow base e size v' (n+m) (xs++news)→w.grownBy w' v.ownBlock→(v'=.slice none 0 0↔v=.slice none 0 0∧m=0)→(v'.ownBlock=v.ownBlock∨v'.ownBlock=some w.heap.size)→next (a.put o.dst v') w') :
  o.wp P a w next Q:=by
 obtain ⟨v',w',hr,h2,h3,h4,h5⟩:=run_append_own_at (P:=P) w base t o.type e i z size bytes ht hi hz hsize hby hzs hsz v n xs hown ad m c news hl hnews h1 h63 hbytes hbase
 unfold Oper.wp execOp
 simp only [ho,resolve,invoke,builtin,Sem.run_bind,Sem.run_pure,Result.andThen_ok,List.map_toArray,List.map_cons,List.map_nil,hs,hx,hr]
 exact h v' w' h2 h3 h4 h5
theorem OwnP.kx {S:List Nat} {w w':World} {B:Nat} {v:Value} {l:List Pt} (h:OwnP w B v l) (k:KX S w w') (hne:∀ g,v.ownBlock=some g→g∉S):OwnP w' B v l:=by
 obtain ⟨h1,⟨hv,hn⟩ | ⟨g,cap,cur,hv,hb,hg,rest⟩⟩:=h
 ·exact ⟨h1,.inl ⟨hv,hn⟩⟩
 ·exact ⟨h1,.inr ⟨g,cap,cur,hv,hb,k.row hg (hne g (by rw [hv];rfl)),rest⟩⟩
set_option maxHeartbeats 16000000 in
set_option maxRecDepth 100000 in
theorem cr_listPt (gr g lb lo m:Nat) (v:Value) (bs pre post:List Int) (l:List NPt) (cs:Array Value) (T:TypeId) (hlen:l.length=m) (hm:0<m) (hm2:m≤1000) (hsm:∀ k,k<m→(l.getD k (0,0)).1<1048576∧(l.getD k (0,0)).2<1048576)
  (w:World) (hR:RdU w v bs) (hbs:bs=pre++((enc m++encPs l)++post)) (hl:bs.length≤100000) (hg:RdrB g v pre.length w) (hvq:∀ b off n c,v=.slice (some ⟨b,off,none⟩) n c→b≠g∧b≠lb)
  (hr:w.cell? ⟨gr,0,none⟩=some (.pointer (some ⟨g,0,none⟩))) (hp:w.heap[lb]? = some (.cells cs T (0,0))) (hcs:cs[lo]? = some (.slice none 0 0)) (hne:lb≠g) (hgr:gr≠g∧gr≠lb) :
  Calls Tryz.prog 279 #[.iface 146 (.pointer (some ⟨gr,0,none⟩)),.pointer (some ⟨lb,lo,none⟩),.func (.func 207) #[] #[]] w fun e w' =>
   e=.returned (.tuple #[])∧RdrB g v (pre++(enc m++encPs l)).length w'∧∃ u,w'.heap[lb]? = some (.cells (cs.setIfInBounds lo u) T (0,0))∧OwnP w' w.heap.size u (ptsN l)∧KX [g,lb] w w':=by
 have lg:=hg.lt
 have llb:lb<w.heap.size:=(Array.getElem?_eq_some_iff.1 hp).1
 have c0:w.cell? ⟨lb,lo,none⟩=some (.slice none 0 0):=by rw [cell_of_row w lb _ _ _ _ hp];exact hcs
 have HC:=Lib.hid (fun w' (k:Kp w w')=>cr_count gr g v bs pre (encPs l++post) m (by omega) 0 w' (hR.kp k) (by rw [hbs,List.append_assoc]) hl (hg.kp k) (kp_cell k hr))
 have HLEN:=Lib.hid hlen;have HSM:=Lib.hid hsm;have HR:=Lib.hid hR;have HBS:=Lib.hid hbs;have HL:=Lib.hid hl;have HVQ:=Lib.hid hvq;have HCR:=Lib.hid hr;have HP:=Lib.hid hp;have HCS:=Lib.hid hcs
 have hm1:=mth_rcount (some ⟨gr,0,none⟩)
 have hm3:=mth_rfine (some ⟨gr,0,none⟩)
 have hm2':=nil_rcount ⟨gr,0,none⟩
 clear hlen hsm hR hbs hl hg hvq hr hp hcs
 go_enter Tryz.func279,Tryz.ntmps279
 go_upto_region 0 with fail
 go_cut [6] (fun n wx=>n=.int .i64 m∧RdrB g v (pre++enc m).length wx∧KX [g] w wx)
 case first =>
  go_region_with (go_at_call 519;refine (HC.out _ (by (repeat (first | exact kp_refl _ | apply kp_alloc | apply kp_drew | apply kp_drewN)))).mono ?_;rintro e w4 ⟨rfl,h1,h2⟩)
  all_goals
   go_wp2_with fail
   go_meet
   exact ⟨rfl,h1,KX.then (KX.of (by (repeat (first | exact kp_refl _ | apply kp_alloc | apply kp_drew | apply kp_drewN)))) h2⟩
 case rest =>
  obtain ⟨rfl,hrd,hkx⟩:=hcut
  have hlg:lb∉[g]:=by simpa using hne
  have hp1:=hkx.row HP.out hlg
  have c1:wc.cell? ⟨lb,lo,none⟩=some (.slice none 0 0):=by rw [cell_of_row wc lb _ _ _ _ hp1];exact HCS.out
  have llb1:=cell_lt c1
  have z0:(0:Int)<(m:Int):=by omega
  have HRD:=Lib.hid hrd;have HKX:=Lib.hid hkx;have HP1:=Lib.hid hp1
  have hpl:=HKX.out.size
  clear hrd hkx hp1 HC c0
  go_wp2_with fail
  go_loopw [8] (fun i wr=>∃ (k:Nat) (u:Value),k≤m∧i=.int .i64 k∧RdrB g v (pre++(enc m++encPs (l.take k))).length wr∧wr.heap[lb]? = some (.cells (cs.setIfInBounds lo u) T (0,0))∧OwnP wr w.heap.size u (ptsN (l.take k))∧KX [g,lb] w wr) (fun i _=>m - (intOf i).toNat)
  case atStart =>
   refine ⟨0,.slice none 0 0,by omega,rfl,by simpa [encPs] using HRD.out,?_,OwnP.nil _ _,HKX.out.mono (by simp)⟩
   rw [HP1.out]
   congr 2
   apply Array.ext_getElem?
   intro j
   rw [Array.getElem?_setIfInBounds]
   by_cases e:lo=j
   ·subst e
    rw [if_pos rfl,HCS.out]
    have hlo:lo<cs.size:=(Array.getElem?_eq_some_iff.1 HCS.out).1
    rw [if_pos hlo]
   ·rw [if_neg e]
  case round =>
   obtain ⟨k,u,hk,rfl,hrd,hpr,hown,hkx⟩:=hrel
   have HRD2:=Lib.hid hrd;have HPR:=Lib.hid hpr;have HOW:=Lib.hid hown;have HX2:=Lib.hid hkx
   clear hrd hpr hown hkx HRD HKX HP1 c1 llb1
   have hgr1:gr∉[g,lb]:=by simp;exact hgr
   by_cases hlt:k<m
   ·have z1:(k:Int)<(m:Int):=by omega
    have z2:¬ (k:Int)<0:=by omega
    have wi:IntKind.i64.wrap ((k:Int)+1)=(k:Int)+1:=IntWalk.i64_in _ (by omega)
    have z3:decide ((k:Int)<0)=false:=decide_eq_false z2
    have HF:=Lib.hid (cr_fine gr g v _ wr HRD2.out (HX2.out.cell HCR.out hgr1))
    go_upto_region 9 with (go_at_call 520;refine HF.out.mono ?_;rintro e w1 ⟨rfl,hk1⟩)
    have hgl:g≠lb:=fun e=>hne e.symm
    have HR1:=Lib.hid (HRD2.out.kp hk1);have HX1:=Lib.hid (HX2.out.kp hk1);have HO1:=Lib.hid (HOW.out.kp hk1);have HP1:=Lib.hid ((hk1.block lb (Array.getElem?_eq_some_iff.1 HPR.out).1).trans HPR.out)
    have hen:1≤(enc m).length:=(vz_len (by omega)).1
    have HVL:Hid (∀ b off n c,v=.slice (some ⟨b,off,none⟩) n c→b<w1.heap.size):=by
     refine Lib.hid ?_
     intro b off n c hv
     obtain ⟨b',off',c',hv',_,hc⟩:=HR.out
     rw [hv'] at hv
     simp only [Value.slice.injEq,Option.some.injEq,Addr.mk.injEq] at hv
     have h0:0<bs.length:=by rw [HBS.out];simp only [List.length_append];omega
     rw [← hv.1.1]
     exact Nat.lt_of_lt_of_le (cell_lt (hc 0 h0)) HX1.out.size
    clear hk1 HRD2 HX2 HOW HPR HF
    obtain ⟨px,hpx⟩:∃ px,w1.heap.size=px:=⟨_,rfl⟩
    have lg1:g<px:=by rw [← hpx];exact HR1.out.lt
    have llb1:lb<px:=by rw [← hpx];exact (Array.getElem?_eq_some_iff.1 HP1.out).1
    have lgr1:gr<px:=by rw [← hpx];exact cell_lt (HX1.out.cell HCR.out hgr1)
    have hpre:(pre++(enc m++encPs (l.take k)))++(encs [(l.getD k (0,0)).1,(l.getD k (0,0)).2]++(encPs (l.drop (k+1))++post))=bs:=by rw [HBS.out,encPs_split l (k:=k) (by rw [HLEN.out];exact hlt)];simp
    obtain ⟨x,hx⟩:∃ x,(l.getD k (0,0)).1=x:=⟨_,rfl⟩
    obtain ⟨y,hy⟩:∃ y,(l.getD k (0,0)).2=y:=⟨_,rfl⟩
    have hsx:=HSM.out k hlt
    rw [hx,hy] at hsx hpre
    have HPL:=Lib.hid (fun w2 (k2:Kp w1 w2) (h2:w2.heap[px]? = some (.cells #[.int .i64 0,.int .i64 0] 53 (0,0))) =>
     cr_place gr g px v bs (pre++(enc m++encPs (l.take k))) (encPs (l.drop (k+1))++post) x y 0 0 hsx.1 hsx.2 w2 ((HR.out.kx HX1.out (fun b off n c hv=>by have:=HVQ.out b off n c hv;simp;exact this)).kp k2) hpre.symm HL.out (HR1.out.kp k2)
      (fun b off n c hv=>⟨(HVQ.out b off n c hv).1,by have:=HVL.out b off n c hv;omega⟩) (kp_cell k2 (HX1.out.cell HCR.out hgr1)) h2 (by omega) ⟨hgr.1,by omega⟩)
    clear hpre
    go_upto_region 11 with (go_at_call 207;refine (HPL.out _ (kp_alloc (kp_refl _) _) (by rw [← hpx];exact heap_alloc_new _ _)).mono ?_;rintro e w2 ⟨rfl,h1,h2,h3⟩)
    obtain ⟨W,hW⟩:∃ W,w1.alloc (.cells #[.int .i64 0,.int .i64 0] 53)=W:=⟨_,rfl⟩
    have KW:Kp w1 W:=by rw [← hW];exact kp_alloc (kp_refl _) _
    have sW:px+1=W.heap.size:=by rw [← hW,← hpx];simp
    have hub:∀ b,u.ownBlock=some b→w.heap.size≤b∧b<px:=fun b hb=>by rw [← hpx];exact World.ownsRow.lt HO1.out b hb
    have h3':KX [g,px] W w2:=by rw [← hW];exact h3
    have HOW2:=Lib.hid ((HO1.out.kp KW).kx h3' (fun b hb=>by have:=hub b hb;simp;omega))
    have hlo:lo<cs.size:=(Array.getElem?_eq_some_iff.1 HCS.out).1
    have p2:w2.heap[lb]? = some (.cells (cs.setIfInBounds lo u) T (0,0)):=h3'.row ((KW.block lb (by rw [hpx];exact llb1)).trans HP1.out) (by simp;omega)
    have c2:w2.cell? ⟨lb,lo,none⟩=some u:=by rw [cell_of_row w2 lb _ _ _ _ p2];simp [hlo]
    have f2:w2.frozen? ⟨lb,lo,none⟩=false:=frozen_of_row w2 lb _ _ _ p2
    have x0:w2.cell? ⟨px,0,none⟩=some (.int .i64 x):=by rw [cell_of_row w2 px _ _ _ _ h2];rfl
    have x1:w2.cell? ⟨px,1,none⟩=some (.int .i64 y):=by rw [cell_of_row w2 px _ _ _ _ h2];rfl
    have hpn:px∉lb :: u.ownBlock.toList:=by simp only [List.mem_cons,Option.mem_toList,not_or];exact ⟨by omega,fun hb=>by have:=hub px hb;omega⟩
    have lpx:=cell_lt x0
    have hs2:w.heap.size≤w2.heap.size:=Nat.le_trans HX1.out.size (Nat.le_trans (Below.size KW) h3'.size)
    have KW':=KW
    have HLK:=Lib.hid (show (ptsN (l.take k)).length≤10000 by unfold ptsN;simp;omega)
    obtain ⟨i0,hi,hz0,hz1,hz2⟩:=info_parts infoPt
    have HI:=Lib.hid hi;have HZ0:=Lib.hid hz0;have HZ1:=Lib.hid hz1;have HZ2:=Lib.hid hz2
    clear hi hz0 hz1 hz2 h3 HPL
    refine wp_region_noPanic ?_
    refine wp_region_held_drew (S:=fun w'=>KX (lb :: u.ownBlock.toList) w2 w') (by kernel_rfl) ?_ (fun hHeld=>?_)
    ·exact (KX.refl _).drew
    obtain ⟨WD,hWD⟩:∃ W,w2.drew=W:=⟨_,rfl⟩
    have KD:Kp w2 WD:=by rw [← hWD];exact kp_drew (kp_refl _)
    have cD:=kp_cell KD c2
    have pD:=(KD.block lb (Array.getElem?_eq_some_iff.1 p2).1).trans p2
    have hbD:w.heap.size≤WD.heap.size:=Nat.le_trans hs2 (Below.size KD)
    have fD:=kp_froz KD c2 f2
    have HOD:=Lib.hid (HOW2.out.kp KD)
    have hSD:KX (lb :: u.ownBlock.toList) w2 WD:=KX.of KD
    rw [hWD] at hHeld ⊢
    refine take_yes (i:=0) (d:=48) (v:=?_) rfl rfl (by kernel_rfl) (by kernel_rfl) (by kernel_rfl) (fun _ _ _ h=>h) (by rfl) ?_ hHeld ?_
    rotate_left
    ·intro wq hSw;(try dsimp only at hSw);go_simp;(try with_reducible rfl)
    (try simp only [Act.put,List.setIfInBounds_toArray,List.set_cons_zero,List.set_cons_succ])
    refine take_yes (i:=1) (d:=49) (v:=?_) rfl rfl (by kernel_rfl) (by kernel_rfl) (by kernel_rfl) (fun _ _ _ h=>h) (by rfl) ?_ hHeld ?_
    rotate_left
    ·intro wq hSw;(try dsimp only at hSw);go_simp;(try with_reducible rfl)
    (try simp only [Act.put,List.setIfInBounds_toArray,List.set_cons_zero,List.set_cons_succ])
    refine take_yes (i:=2) (d:=50) (v:=?_) rfl rfl (by kernel_rfl) (by kernel_rfl) (by kernel_rfl) (fun _ _ _ h=>h) (by rfl) ?_ hHeld ?_
    rotate_left
    ·intro wq hSw;(try dsimp only at hSw);go_simp;(try with_reducible rfl)
    (try simp only [Act.put,List.setIfInBounds_toArray,List.set_cons_zero,List.set_cons_succ])
    refine take_yes (i:=4) (d:=52) (v:=?_) rfl rfl (by kernel_rfl) (by kernel_rfl) (by kernel_rfl) (fun _ _ _ h=>h) (by rfl) ?_ hHeld ?_
    rotate_left
    ·intro wq hSw;(try dsimp only at hSw);have q0:=hSw.cell x0 hpn;have q1:=hSw.cell x1 hpn;go_simp;(try with_reducible rfl)
    (try simp only [Act.put,List.setIfInBounds_toArray,List.set_cons_zero,List.set_cons_succ])
    refine wpAnyH_ready (rs:=[3,5]) (by kernel_rfl) (by simp) ?_
    refine (AllReadyH.cons rfl (fun K' hK=>?_) (AllReadyH.cons rfl (fun K' hK=>?_) AllReadyH.nil))
    ·go_simp
     refine hK.out _ _ ?_ (fun hHeld=>?_)
     ·exact hSD
     clear hK K'
     (try simp only [Act.put,List.setIfInBounds_toArray,List.set_cons_zero,List.set_cons_succ])
     refine wpAnyH_ready (rs:=[5]) (by kernel_rfl) (by simp) ?_
     refine (AllReadyH.cons rfl (fun K' hK=>?_) AllReadyH.nil)
     go_simp
     refine hK.out _ _ ?_ (fun hHeld=>?_)
     ·exact hSD.alloc _
     obtain ⟨bn,hbn⟩:∃ b,WD.heap.size=b:=⟨_,rfl⟩
     obtain ⟨WB,hWB⟩:∃ W,WD.alloc (.cells #[.int .i64 x,.int .i64 y] 53)=W:=⟨_,rfl⟩
     have hnew:=cell_two_pt WD x y 53
     have KB:Kp WD WB:=by rw [← hWB];exact kp_alloc (kp_refl _) _
     have cB:=kp_cell KB cD
     have fB:=kp_froz KB cD fD
     have HOB:=Lib.hid (HOD.out.kp KB)
     have hSB:=hSD.kp KB
     have pB:=(KB.block lb (Array.getElem?_eq_some_iff.1 pD).1).trans pD
     have hbB:=Nat.le_trans hbD (Below.size KB)
     rw [hbn,hWB] at hnew
     rw [hbn,hWB]
     rw [hWB] at hHeld
     clear hbn hWB KB
     clear hK K'
     (try simp only [Act.put,List.setIfInBounds_toArray,List.set_cons_zero,List.set_cons_succ])
     refine wpAnyH_ready (rs:=[6]) (by kernel_rfl) (by simp) ?_
     refine (AllReadyH.cons rfl (fun K' hK=>?_) AllReadyH.nil)
     refine arm_append_own_at _ _ 71 rfl w.heap.size 53 i0 (.agg #[.int .i64 0,.int .i64 0]) 2 16 Tryz.underlying71 HI.out HZ0.out HZ1.out HZ2.out rfl (by decide) _ _ _ rfl HOB.out ⟨bn,0,none⟩ 1 1 [.int .i64 x,.int .i64 y] rfl rfl hnew (by simp [Value.oneCell']) (by have:=HLK.out;unfold maxLen;omega) (by have:=HLK.out;omega) hbB ?_
     intro v' w5 hown hgrow hnil hat
     have HO5:=Lib.hid (OwnP.snoc hown)
     have hvc:v'.cells = #[v']:=by rcases hown.2 with ⟨hv,_⟩ | ⟨g',cap,cur,hv,_⟩ <;> subst hv <;> rfl
     simp only [Value.cells] at hvc
     have hv1:v'.oneCell'=true:=by rcases hown.2 with ⟨hv,_⟩ | ⟨g',cap,cur,hv,_⟩ <;> subst hv <;> rfl
     have hS5:=hSB.grown hgrow (fun b hb=>.inl (by simp only [List.mem_cons,Option.mem_toList];exact .inr hb))
     have p5:w5.heap[lb]? = some (.cells (cs.setIfInBounds lo u) T (0,0)):=(hgrow.block lb (Array.getElem?_eq_some_iff.1 pB).1 (fun e=>by have:=hub lb e.symm;omega)).trans pB
     have c5:w5.cell? ⟨lb,lo,none⟩=some u:=by rw [cell_of_row w5 lb _ _ _ _ p5];simp [hlo]
     have f5:w5.frozen? ⟨lb,lo,none⟩=false:=frozen_of_row w5 lb _ _ _ p5
     have l5:∀ b,v'.ownBlock=some b→w.heap.size≤b∧b<w5.heap.size:=fun b hb=>World.ownsRow.lt hown b hb
     clear hown hgrow hnil hat hnew HOB hSB pB cB fB
     refine hK.out _ _ ?_ (fun hHeld=>?_)
     ·exact hS5
     clear hK K'
     (try simp only [Act.put,List.setIfInBounds_toArray,List.set_cons_zero,List.set_cons_succ])
     refine take_yes (i:=7) (d:=55) (v:=?_) rfl rfl (by kernel_rfl) (by kernel_rfl) (by kernel_rfl) (fun _ _ _ h=>h) (by rfl) ?_ hHeld ?_
     rotate_left
     ·intro wq hSw;(try dsimp only at hSw);go_simp;(try with_reducible rfl)
     (try simp only [Act.put,List.setIfInBounds_toArray,List.set_cons_zero,List.set_cons_succ])
     refine wpAnyH_ready (rs:=[8]) (by kernel_rfl) (by simp) ?_
     refine (AllReadyH.cons rfl (fun K' hK=>?_) AllReadyH.nil)
     go_simp
     rw [run_store _ _ _ _ _ hv1]
     go_simp
     refine hK.out _ _ ?_ (fun hHeld=>?_)
     ·exact hS5.set (.inl (by simp)) _
     clear hK K'
     (try simp only [Act.put,List.setIfInBounds_toArray,List.set_cons_zero,List.set_cons_succ])
     refine wpAnyH_done (by kernel_rfl) ?_ _
     refine NoPanic.normal ?_
     go_wp2_with fail
     have hK5:KX [lb] w5 (w5.setCell ⟨lb,lo,none⟩ v'):=(KX.refl w5).set (.inl (by simp)) _
     have hS6:=hS5.trans hK5 (by simp)
     refine ⟨⟨k+1,v',by omega,by go_num,?_,?_,?_,?_⟩,by simp [intOf];omega⟩
     ·rw [encPs_take l (by rw [HLEN.out];exact hlt),hx,hy,← List.append_assoc,← List.append_assoc,List.append_assoc pre]
      exact h1.kx hS6 (by simp only [List.mem_cons,Option.mem_toList,not_or];exact ⟨hgl,fun hb=>by have:=hub g hb;omega⟩)
     ·rw [heap_setCell_same w5 lb _ _ _ _ p5];simp
     ·have e:=HO5.out.kx hK5 (fun b hb=>by have:=l5 b hb;simp;omega)
      rw [ptsN_take l (by rw [HLEN.out];exact hlt),hx,hy]
      exact e
     ·exact ((HX1.out.kp KW').trans h3' (fun b hb=>by simp at hb ⊢;rcases hb with rfl | rfl;exact .inl (.inl rfl);exact .inr (by have:=HX1.out.size;omega))).trans hS6 (fun b hb=>by simp only [List.mem_cons,Option.mem_toList] at hb ⊢;rcases hb with rfl | hb;exact .inl (.inr (.inl rfl));exact .inr (hub b hb).1)
    ·go_simp
     refine hK.out _ _ ?_ (fun hHeld=>?_)
     ·exact hSD.alloc _
     obtain ⟨bn,hbn⟩:∃ b,WD.heap.size=b:=⟨_,rfl⟩
     obtain ⟨WB,hWB⟩:∃ W,WD.alloc (.cells #[.int .i64 x,.int .i64 y] 53)=W:=⟨_,rfl⟩
     have hnew:=cell_two_pt WD x y 53
     have KB:Kp WD WB:=by rw [← hWB];exact kp_alloc (kp_refl _) _
     have cB:=kp_cell KB cD
     have fB:=kp_froz KB cD fD
     have HOB:=Lib.hid (HOD.out.kp KB)
     have hSB:=hSD.kp KB
     have pB:=(KB.block lb (Array.getElem?_eq_some_iff.1 pD).1).trans pD
     have hbB:=Nat.le_trans hbD (Below.size KB)
     rw [hbn,hWB] at hnew
     rw [hbn,hWB]
     rw [hWB] at hHeld
     clear hbn hWB KB
     clear hK K'
     (try simp only [Act.put,List.setIfInBounds_toArray,List.set_cons_zero,List.set_cons_succ])
     refine wpAnyH_ready (rs:=[3]) (by kernel_rfl) (by simp) ?_
     refine (AllReadyH.cons rfl (fun K' hK=>?_) AllReadyH.nil)
     go_simp
     refine hK.out _ _ ?_ (fun hHeld=>?_)
     ·exact hSB
     clear hK K'
     (try simp only [Act.put,List.setIfInBounds_toArray,List.set_cons_zero,List.set_cons_succ])
     refine wpAnyH_ready (rs:=[6]) (by kernel_rfl) (by simp) ?_
     refine (AllReadyH.cons rfl (fun K' hK=>?_) AllReadyH.nil)
     refine arm_append_own_at _ _ 71 rfl w.heap.size 53 i0 (.agg #[.int .i64 0,.int .i64 0]) 2 16 Tryz.underlying71 HI.out HZ0.out HZ1.out HZ2.out rfl (by decide) _ _ _ rfl HOB.out ⟨bn,0,none⟩ 1 1 [.int .i64 x,.int .i64 y] rfl rfl hnew (by simp [Value.oneCell']) (by have:=HLK.out;unfold maxLen;omega) (by have:=HLK.out;omega) hbB ?_
     intro v' w5 hown hgrow hnil hat
     have HO5:=Lib.hid (OwnP.snoc hown)
     have hvc:v'.cells = #[v']:=by rcases hown.2 with ⟨hv,_⟩ | ⟨g',cap,cur,hv,_⟩ <;> subst hv <;> rfl
     simp only [Value.cells] at hvc
     have hv1:v'.oneCell'=true:=by rcases hown.2 with ⟨hv,_⟩ | ⟨g',cap,cur,hv,_⟩ <;> subst hv <;> rfl
     have hS5:=hSB.grown hgrow (fun b hb=>.inl (by simp only [List.mem_cons,Option.mem_toList];exact .inr hb))
     have p5:w5.heap[lb]? = some (.cells (cs.setIfInBounds lo u) T (0,0)):=(hgrow.block lb (Array.getElem?_eq_some_iff.1 pB).1 (fun e=>by have:=hub lb e.symm;omega)).trans pB
     have c5:w5.cell? ⟨lb,lo,none⟩=some u:=by rw [cell_of_row w5 lb _ _ _ _ p5];simp [hlo]
     have f5:w5.frozen? ⟨lb,lo,none⟩=false:=frozen_of_row w5 lb _ _ _ p5
     have l5:∀ b,v'.ownBlock=some b→w.heap.size≤b∧b<w5.heap.size:=fun b hb=>World.ownsRow.lt hown b hb
     clear hown hgrow hnil hat hnew HOB hSB pB cB fB
     refine hK.out _ _ ?_ (fun hHeld=>?_)
     ·exact hS5
     clear hK K'
     (try simp only [Act.put,List.setIfInBounds_toArray,List.set_cons_zero,List.set_cons_succ])
     refine take_yes (i:=7) (d:=55) (v:=?_) rfl rfl (by kernel_rfl) (by kernel_rfl) (by kernel_rfl) (fun _ _ _ h=>h) (by rfl) ?_ hHeld ?_
     rotate_left
     ·intro wq hSw;(try dsimp only at hSw);go_simp;(try with_reducible rfl)
     (try simp only [Act.put,List.setIfInBounds_toArray,List.set_cons_zero,List.set_cons_succ])
     refine wpAnyH_ready (rs:=[8]) (by kernel_rfl) (by simp) ?_
     refine (AllReadyH.cons rfl (fun K' hK=>?_) AllReadyH.nil)
     go_simp
     rw [run_store _ _ _ _ _ hv1]
     go_simp
     refine hK.out _ _ ?_ (fun hHeld=>?_)
     ·exact hS5.set (.inl (by simp)) _
     clear hK K'
     (try simp only [Act.put,List.setIfInBounds_toArray,List.set_cons_zero,List.set_cons_succ])
     refine wpAnyH_done (by kernel_rfl) ?_ _
     refine NoPanic.normal ?_
     go_wp2_with fail
     have hK5:KX [lb] w5 (w5.setCell ⟨lb,lo,none⟩ v'):=(KX.refl w5).set (.inl (by simp)) _
     have hS6:=hS5.trans hK5 (by simp)
     refine ⟨⟨k+1,v',by omega,by go_num,?_,?_,?_,?_⟩,by simp [intOf];omega⟩
     ·rw [encPs_take l (by rw [HLEN.out];exact hlt),hx,hy,← List.append_assoc,← List.append_assoc,List.append_assoc pre]
      exact h1.kx hS6 (by simp only [List.mem_cons,Option.mem_toList,not_or];exact ⟨hgl,fun hb=>by have:=hub g hb;omega⟩)
     ·rw [heap_setCell_same w5 lb _ _ _ _ p5];simp
     ·have e:=HO5.out.kx hK5 (fun b hb=>by have:=l5 b hb;simp;omega)
      rw [ptsN_take l (by rw [HLEN.out];exact hlt),hx,hy]
      exact e
     ·exact ((HX1.out.kp KW').trans h3' (fun b hb=>by simp at hb ⊢;rcases hb with rfl | rfl;exact .inl (.inl rfl);exact .inr (by have:=HX1.out.size;omega))).trans hS6 (fun b hb=>by simp only [List.mem_cons,Option.mem_toList] at hb ⊢;rcases hb with rfl | hb;exact .inl (.inr (.inl rfl));exact .inr (hub b hb).1)
   ·obtain rfl:k=m:=by omega
    have z1:¬ (k:Int)<(k:Int):=by omega
    go_wp2_with fail
    go_end0
    have e1:l.take k=l:=List.take_of_length_le (by rw [HLEN.out];exact Nat.le_refl _)
    have h1:=HRD2.out
    have h2:=HOW.out
    rw [e1] at h1 h2
    exact ⟨rfl,by have h:=h1;simpa [List.length_append] using h,u,HPR.out,h2,HX2.out⟩
end Go.Proofs.YtgliljnbajohhaaGreatDoor
namespace Go.Proofs.Top
theorem enc_len {n:Nat} (h:n<1048576):1≤(enc n).length∧(enc n).length≤3:=vz_len (by omega)
theorem enc0:enc 0=[0]:=vz_one (by decide)
end Go.Proofs.Top
