import Derived.Test.YtgliljnbajohhaaGreatDoorQ38
import Derived.Test.YtgliljnbajohhaaGreatDoorQ37
import Derived.Test.YtgliljnbajohhaaGreatDoorQ24
import Derived.Test.YtgliljnbajohhaaGreatDoorQ09
set_option linter.unusedVariables false
set_option linter.unusedSimpArgs false
namespace Go.Ex
open Go Go.RowKit Go.Proofs Go.Proofs.YtgliljnbajohhaaGreatDoor Go.Proofs.Geo
set_option maxRecDepth 100000
def lRj (j:Nat):List AV:=[.lx .i64 (4 * j),.lx .i64 (4 * j+1),.lx .i64 (4 * j+2),.lx .i64 (4 * j+1),.lx .i64 (4 * j+2),.lx .i64 (4 * j+3),.lx .i64 (4 * j),.lx .i64 (4 * j+3)]
def ringJ [Val] (j:Nat):List Pt:=ring4 (Val.val (4 * j)) (Val.val (4 * j+1)) (Val.val (4 * j+2)) (Val.val (4 * j+3))
theorem lRj_vr [Val] (ρ:Env) (j:Nat):VRs ρ (lRj j) (flat (ringJ j)):=.cons (.lx _ _) (.cons (.lx _ _) (.cons (.lx _ _) (.cons (.lx _ _) (.cons (.lx _ _) (.cons (.lx _ _) (.cons (.lx _ _) (.cons (.lx _ _) .nil)))))))
noncomputable def orcC (N k:Nat) (args:List AV) (st:S):Option (AV×S) :=
 match args with
 | [.agg [.ly j]] =>
  bif Nat.ble (Nat.succ j) N && Nat.ble st.nx 900000 then
   (bif Nat.beq k 55 then some (.agg [.i .i64 0,.i .i64 0],st)
   else bif Nat.beq k 56 then some (.tup [.agg [.lx .i64 (4 * j),.lx .i64 (4 * j+1),.lx .i64 (100+2 * j),.lx .i64 (100+2 * j+1)],.b true],st)
   else bif Nat.beq k 57 then some (.agg [.sl (Nat.succ st.nx) 0 1 1],(st.put1 (.row (lRj j) 53 2 .yes)).put1 (.row [.sl st.nx 0 4 4] 71 1 .yes))
   else none)
  else none
 | _=>none
structure BoxesV [Val] (N:Nat):Prop where
 x:∀ j,j<N→Val.val (4 * j)<Val.val (4 * j+2)
 y:∀ j,j<N→Val.val (4 * j+1)<Val.val (4 * j+3)
 b0:∀ j,j<N→-1048576<Val.val (4 * j)∧Val.val (4 * j)<1048576
 b1:∀ j,j<N→-1048576<Val.val (4 * j+1)∧Val.val (4 * j+1)<1048576
 b2:∀ j,j<N→-1048576<Val.val (4 * j+2)∧Val.val (4 * j+2)<1048576
 b3:∀ j,j<N→-1048576<Val.val (4 * j+3)∧Val.val (4 * j+3)<1048576
 h2:∀ j,j<N→Val.val (100+2 * j)=Val.val (4 * j+2)+1
 h3:∀ j,j<N→Val.val (100+2 * j+1)=Val.val (4 * j+3)+1
 c:∀ Pr w0,Val.ctx Pr w0→∀ j,j<N→∃ b1 b2 c1 c2 s1 s2,RgAt w0 (Val.vv j) (Val.val (4 * j)) (Val.val (4 * j+1)) (Val.val (4 * j+2)) (Val.val (4 * j+3)) b1 b2 c1 c2 s1 s2∧Pr b1∧Pr b2
theorem bnd4 {a b c d:Int} (hx:a<c) (hy:b<d) (ha:okP (a,b)=true) (hc:okP (c,d)=true):bndB (ring4 a b c d)=(a,b,c+1,d+1)∧bndOk (ring4 a b c d)=true:=by
 have hb:okP (c,b)=true:=by unfold okP at *;simp only [Bool.and_eq_true] at *;exact ⟨hc.1,ha.2⟩
 have hd:okP (a,d)=true:=by unfold okP at *;simp only [Bool.and_eq_true] at *;exact ⟨ha.1,hc.2⟩
 have hall:(ring4 a b c d).all okP=true:=by simp [ring4,ha,hb,hc,hd]
 constructor
 ·have e:ring4 a b c d=(a,b) :: [(c,b),(c,d),(a,d)]:=rfl
  unfold bndB
  rw [e] at hall ⊢
  simp only [hall,if_true]
  simp only [mnC,mxC,List.foldl_cons,List.foldl_nil,Prod.mk.injEq]
  omega
 ·unfold bndOk
  rw [hall]
  rfl
theorem orcC_ok [Val] {N:Nat} (B:BoxesV N) {k:Nat} {args:List AV} {st st':S} {r:AV} (h:orcC N k args st=some (r,st'))
  (Pr:Nat→Prop) (w0:World) (ρ:Env) (w:World) (vs:List Value) (W:WR Pr w0 ρ st.h.get st.nx w) (hv:VRs ρ args vs):CallS Tryz.prog k vs w (Out Pr w0 ρ st.nx r st'):=by
 unfold orcC at h
 split at h
 ·rename_i j
  cases hq:(Nat.ble (Nat.succ j) N && Nat.ble st.nx 900000) with
  | false=>rw [hq] at h;cases h
  | true =>
   rw [hq] at h
   simp only [cond_true] at h
   simp only [nble,Bool.and_eq_true,decide_eq_true_eq] at hq
   obtain ⟨hj,hnx⟩:=hq
   have hj:j<N:=hj
   obtain ⟨b1,b2,c1,c2,s1,s2,R0,p1,p2⟩:=B.c _ _ W.cx j hj
   have R:RgAt w (Val.vv j) (Val.val (4 * j)) (Val.val (4 * j+1)) (Val.val (4 * j+2)) (Val.val (4 * j+3)) b1 b2 c1 c2 s1 s2:=R0.kept (W.pr _ p1) (W.pr _ p2)
   have hx:=B.x j hj
   have hy:=B.y j hj
   have g0:=B.b0 j hj
   have g1:=B.b1 j hj
   have g2:=B.b2 j hj
   have g3:=B.b3 j hj
   have k1:okP (Val.val (4 * j),Val.val (4 * j+1))=true:=okP_iff.2 (by simp only;omega)
   have k2:okP (Val.val (4 * j+2),Val.val (4 * j+3))=true:=okP_iff.2 (by simp only;omega)
   have hu:vs=[.agg #[Val.vv j]]:=by
    cases hv with
    | cons h1 h2 =>
     cases h2
     cases h1 with
     | agg h3=>cases h3 with
      | cons h4 h5=>cases h5;cases h4;rfl
   subst hu
   cases hk:Nat.beq k 55 with
   | true =>
    have hkk:=nbt hk
    subst hkk
    simp only [hk,cond_true,Option.some.injEq,Prod.mk.injEq] at h
    obtain ⟨rfl,rfl⟩:=h
    refine calls_S Tryz.func55 (by kernel_rfl) rfl (rcheck_one _ _ (by rw [ring4_len];decide) (box_chk hx hy k1 k2) w R.oneR) ?_
    rintro e w' ⟨rfl,hkp⟩
    exact ⟨_,rfl,ρ,Ext.refl _ _,Nat.le_refl _,.agg (xs:=[_,_]) (.cons (.i _ _) (.cons (.i _ _) .nil)),W.kept hkp⟩
   | false =>
    simp only [hk,cond_false] at h
    cases hk2:Nat.beq k 56 with
    | true =>
     have hkk:=nbt hk2
     subst hkk
     simp only [hk2,cond_true,Option.some.injEq,Prod.mk.injEq] at h
     obtain ⟨rfl,rfl⟩:=h
     obtain ⟨e1,e2⟩:=bnd4 hx hy k1 k2
     have hb:=rbox_one _ (ring4 (Val.val (4 * j)) (Val.val (4 * j+1)) (Val.val (4 * j+2)) (Val.val (4 * j+3))) (by rw [ring4_len];decide) w R.oneR
     refine calls_S Tryz.func56 (by kernel_rfl) rfl hb ?_
     rintro e w' ⟨rfl,hkp⟩
     rw [e1,e2,← B.h2 j hj,← B.h3 j hj]
     exact ⟨_,rfl,ρ,Ext.refl _ _,Nat.le_refl _,.tup (xs:=[_,_]) (.cons (.agg (xs:=[_,_,_,_]) (.cons (.lx _ _) (.cons (.lx _ _) (.cons (.lx _ _) (.cons (.lx _ _) .nil))))) (.cons (.b _) .nil)),W.kept hkp⟩
    | false =>
     simp only [hk2,cond_false] at h
     cases hk3:Nat.beq k 57 with
     | false=>simp [hk3] at h
     | true =>
      have hkk:=nbt hk3
      subst hkk
      simp only [hk3,cond_true,Option.some.injEq,Prod.mk.injEq] at h
      obtain ⟨rfl,rfl⟩:=h
      refine calls_S Tryz.func57 (by kernel_rfl) rfl (cloneX_any R hx hy g0 g1 g2 g3) ?_
      rintro e w' ⟨u',q1,q2,d1,d2,t1,t2,rfl,R',n1,n2,hkp⟩
      obtain ⟨rfl,r2,r3,r4,r5⟩:=R'
      have hne:q1≠q2:=fun e=>by rw [e,r4] at r2;simp at r2
      have W1:=W.kept hkp
      have fresh0:ρ st.nx=none:=W.fresh _ (Nat.le_refl _)
      have live:∀ i oi g s',st.h.get i=some oi→ρ i=some (g,s')→g<w.heap.size:=fun i oi g s' hi he=>(W.live_lt hi he).1
      have W2:=W1.add (id:=st.nx) (nx':=st.nx+1) (g:=q2) (s:=d2) (o:=.row (lRj j) 53 2 .yes) (by omega) (by omega) (by omega) fresh0 r4 (fun hp=>by have:=W.prlt _ hp;have:=W.size;omega) (fun i oi s' hi he=>by have:=live i oi _ _ hi he;omega) (.row (lRj_vr _ j) r5 (by intro y hy;simp [lRj] at hy;rcases hy with rfl | rfl | rfl | rfl | rfl | rfl | rfl | rfl <;> rfl) trivial)
      have W2':WR Pr w0 (ρ.add st.nx (q2,d2)) (st.put1 (.row (lRj j) 53 2 .yes)).h.get (st.nx+1) w':=W2.congr fun i=>(set_get st.h _ (by omega) i).symm
      have W3:=W2'.add (id:=st.nx+1) (nx':=st.nx+2) (g:=q1) (s:=d1) (o:=.row [.sl st.nx 0 4 4] 71 1 .yes) (by omega) (by omega) (by omega) (by rw [Env.add_other ρ _ (by omega)];exact W.fresh _ (by omega)) r2 (fun hp=>by have:=W.prlt _ hp;have:=W.size;omega) (fun i oi s' hi he=>by
       by_cases ci:i=st.nx
       ·subst ci;rw [Env.add_same] at he;cases he;exact hne rfl
       ·rw [Env.add_other ρ _ ci] at he
        have hi':st.h.get i=some oi:=by
         have:=set_get st.h (some (.row (lRj j) 53 2 .yes)) (id:=st.nx) (by omega) i
         rw [if_neg ci] at this
         rw [← this];exact hi
        have:=live i oi _ _ hi' he
        omega) (.row (.cons (.sl (Env.add_same _ _ _)) .nil) (by omega) (by intro y hy;simp at hy;subst hy;rfl) trivial)
      have W3':WR Pr w0 ((ρ.add st.nx (q2,d2)).add (st.nx+1) (q1,d1)) ((st.put1 (.row (lRj j) 53 2 .yes)).put1 (.row [.sl st.nx 0 4 4] 71 1 .yes)).h.get (st.nx+2) w':=W3.congr fun i=>(set_get _ _ (by show st.nx+1<1000100;omega) i).symm
      exact ⟨_,rfl,_,fun id hid=>by rw [Env.add_other _ _ (by omega),Env.add_other _ _ (by omega)],by show st.nx≤st.nx+1+1;omega,.agg (xs:=[_]) (.cons (.sl (Env.add_same _ _ _)) .nil),W3'⟩
 ·cases h
end Go.Ex
namespace Go.Ex
open Go Go.RowKit
def bodyOf (fn:Func):Code:=match fn.body with
 | some c=>c
 | none=>.skip
def dropK:Nat→Code→Code
 | 0,c=>c
 | n+1,.seq _ b=>dropK n b
 | _,c=>c
theorem runK_code {ex:Code→Fr→S→Option (Ex×Fr×S)}:∀ (n:Nat) {c c':Code} {F F':Fr} {st st':S},runK ex n c F st=some (F',st',c')→c'=dropK n c
 | 0,c,c',F,F',st,st',h=>by cases h;rfl
 | n+1,c,c',F,F',st,st',h=>by
  unfold runK at h
  split at h
  ·split at h
   ·exact runK_code n h
   ·cases h
  ·cases h
def headOps:Code→Array Oper
 | .seq (.region _ ops _) _=>ops
 | _=>#[]
def tailC:Code→Code
 | .seq _ b=>b
 | c=>c
def isReg:Code→Bool
 | .seq (.region _ _ false) _=>true
 | _=>false
theorem isReg_ok {c:Code} (h:isReg c=true):∃ id,c=.seq (.region id (headOps c) false) (tailC c):=by
 unfold isReg at h
 split at h
 ·exact ⟨_,rfl⟩
 ·cases h
def tmpsAre:List Operand→List Nat→Bool
 | [],[]=>true
 | .tmp t :: l,n :: r=>Nat.beq t n && tmpsAre l r
 | _,_=>false
theorem tmpsAre_ok:∀ {l:List Operand} {r:List Nat},tmpsAre l r=true→l=r.map .tmp
 | [],[],_=>rfl
 | .tmp t :: l,n :: r,h=>by
  simp only [tmpsAre,Bool.and_eq_true] at h
  rw [List.map_cons,tmpsAre_ok h.2,Nat.eq_of_beq_eq_true h.1]
 | [],_ :: _,h=>by cases h
 | .tmp _ :: _,[],h=>by cases h
 | .const _ :: _,[],h=>by cases h
 | .const _ :: _,_ :: _,h=>by cases h
 | .global _ :: _,[],h=>by cases h
 | .global _ :: _,_ :: _,h=>by cases h
 | .func _ :: _,[],h=>by cases h
 | .func _ :: _,_ :: _,h=>by cases h
def isCall (ops:Array Oper) (j k d:Nat) (args:List Nat):Bool :=
 match ops.toList[j]? with
 | some o =>
  match o.op,o.guard,o.dst with
  | .call c,none,some e =>
   match c.callee with
   | .value (.func f)=>Nat.beq f k && (Nat.beq e d && tmpsAre c.args.toList args)
   | _=>false
  | _,_,_=>false
 | none=>false
theorem isCall_ok {ops:Array Oper} {j k d:Nat} {args:List Nat} (h:isCall ops j k d args=true):∃ o c,ops.toList[j]? = some o∧o.op=.call c∧c.callee=.value (.func k)∧o.guard=none∧o.dst=some d∧c.args.toList=args.map .tmp:=by
 unfold isCall at h
 split at h
 ·rename_i o ho
  split at h
  ·rename_i c e h1 h2 h3
   split at h
   ·rename_i f hf
    simp only [Bool.and_eq_true] at h
    have e1:=Nat.eq_of_beq_eq_true h.1
    have e2:=Nat.eq_of_beq_eq_true h.2.1
    subst e1 e2
    exact ⟨o,c,ho,h1,hf,h2,h3,tmpsAre_ok h.2.2⟩
   ·cases h
  ·cases h
 ·cases h
section
variable {P:Program} {tb:Tb} {Pr:Nat→Prop} {w0:World}
theorem wp_upto [Val] (T:TbOk' P tb) {fuel n j k d:Nat} (hE:ExOk P (exec tb fuel)) (C:CallOk P (callX tb (exec tb fuel))) {c0:Code} {F F1 F2:Fr} {st st1 st2:S} {c1:Code} {args:List Nat} {xs:List AV} (hr:runK (exec tb fuel) n c0 F st=some (F1,st1,c1)) (hreg:isReg (dropK n c0)=true)
  (hcall:isCall (headOps (dropK n c0)) j k d args=true) (hpre:runOps tb (callX tb (exec tb fuel)) (headOps (dropK n c0)) ((headOps (dropK n c0)).toList.take j) F1 st1=some (F2,st2)) (hx:evl F2.t (args.map .tmp)=some xs)
  {ρ:Env} {a:Act} {w:World} (h:FRm ρ F a) (W:WR Pr w0 ρ st.h.get st.nx w) {Q:Exit→Act→World→Prop}
  (H:∀ ρ2 a2 w2,Ext st.nx ρ ρ2→st.nx≤st2.nx→FRm ρ2 F2 a2→WR Pr w0 ρ2 st2.h.get st2.nx w2→∃ R,(∀ vs,VRs ρ2 xs vs→CallS P k vs w2 R)∧∀ v w3,R v w3→wpList P (headOps (dropK n c0)) (Exit.then ((tailC (dropK n c0)).wp P Q) Q) ((headOps (dropK n c0)).toList.drop (j+1)) (a2.put (some d) v) w3):c0.wp P Q a w:=by
 refine runK_ok hE n hr h W fun a1 w1 ⟨ρ1,e1,n1,h1,W1⟩=>?_
 rw [runK_code n hr]
 obtain ⟨id,hc⟩:=isReg_ok hreg
 obtain ⟨o,c,g1,g2,g3,g4,g5,g6⟩:=isCall_ok hcall
 rw [hc]
 refine wp_seq ?_
 refine wp_region_hole T C g1 g2 g3 g4 hpre (by rw [g6];exact hx) h1 W1 fun ρ2 a2 w2 e2 n2 h2 W2=>?_
 obtain ⟨R,hR,hK⟩:=H ρ2 a2 w2 (e1.trans e2 n1) (Nat.le_trans n1 n2) h2 W2
 exact ⟨R,hR,fun v w3 hv=>by rw [g5];exact hK v w3 hv⟩
end
end Go.Ex
namespace Go.Ex
open Go Go.RowKit Go.Proofs Go.Proofs.YtgliljnbajohhaaGreatDoor Go.Proofs.Geo
set_option maxRecDepth 100000
noncomputable def tbC (N:Nat):Tb:=⟨tiT,ftT,xtT,orcC N,fun _ _=>none,fun _ _ _ _=>none⟩
def lyRow (N:Nat):List AV:=(List.range N).map .ly
def ibSt (N:Nat):List (Option AObj):=[some (.row (lyRow N) 36 1 (.told 0))]
noncomputable def ibF (N:Nat):Fr:=⟨initT [.sl 0 0 N N] 0 .e,Tryz.f18.ntmps,[]⟩
noncomputable def ibA (N:Nat):Option (Fr×S×Code):=runK (exec (tbC N) 300) 5 (bodyOf Tryz.f18) (ibF N) (S.ofL (ibSt N))
noncomputable def ibOps:Array Oper:=headOps (dropK 5 (bodyOf Tryz.f18))
noncomputable def ibRest:Code:=tailC (dropK 5 (bodyOf Tryz.f18))
noncomputable def boxRow (N:Nat):List AV:=(List.range N).flatMap fun j=>[.lx .i64 (4 * j),.lx .i64 (4 * j+1),.lx .i64 (100+2 * j),.lx .i64 (100+2 * j+1)]
noncomputable def regOk (st:S) (j:Nat):Option AV→Bool
 | some (.sl r 0 1 1) =>
  match st.h.get r with
  | some (.row [.sl p 0 4 4] e 1 .yes)=>Nat.beq e 71 && rowIs st p (lRj j) 53 2 .yes
  | _=>false
 | _=>false
def zRow (N:Nat):List AV:=(List.range (3 * N)).map zOnce
noncomputable def live (st:S) (id:Nat):Bool:=match st.h.get id with
 | some _=>true
 | none=>false
noncomputable def endB (N:Nat) (st2:S) (X:Nat) (st:S):Bool :=
 match st.h.get X with
 | some (.row [.b true,.sl L 0 n c,.p t 0,.sl O 0 n1 c1,.sl s 0 n2 c2] e 5 .no) =>
  match st.h.get L with
  | some (.row l e2 1 .yes) =>
   Nat.beq e 156 && (Nat.beq n N && (Nat.beq c N && (Nat.beq t st2.nx && (Nat.beq n1 N && (Nat.beq c1 N && (Nat.beq n2 N && (Nat.beq c2 N && (Nat.beq e2 36 && (Nat.beq l.length N &&
   (rowIs st O (zRow N) 391 3 .no && (rowIs st s (List.replicate N .p0) 281 1 .no && (rowIs st 0 (lyRow N) 36 1 (.told 0) && ((List.range N).all (fun j=>regOk st j l[j]?) && (live st2 X && (live st2 L && (live st2 O && live st2 s))))))))))))))))
  | _=>false
 | _=>false
noncomputable def ibChk (N:Nat):Bool :=
 match ibA N with
 | some (F1,st1,_) =>
  match runOps (tbC N) (callX (tbC N) (exec (tbC N) 300)) ibOps (ibOps.toList.take 2) F1 st1 with
  | some (F2,st2) =>
   match evl F2.t [.tmp 62] with
   | some [.sl B 0 n _] =>
    Nat.beq n N && (Nat.ble st2.nx 900000 && (rowIs st2 B (boxRow N) 160 4 .yes &&
    (match F2.put (some 63) (.tup [.p st2.nx 0,.i .i64 0]) with
    | some F3 =>
     match runOps (tbC N) (callX (tbC N) (exec (tbC N) 300)) ibOps (ibOps.toList.drop 3) F3 st2.nm with
     | some (F4,st4) =>
      match exec (tbC N) 300 ibRest F4 st4 with
      | some (.ret,F5,st5) =>
       match F5.d,resX (tbC N) F5.t st5.h Tryz.f18.results.toList with
       | [],some [.p X 0,.agg [.i .i64 0,.i .i64 0]]=>endB N st2 X st5
       | _,_=>false
      | _=>false
     | none=>false
    | none=>false)))
   | _=>false
  | none=>false
 | none=>false
theorem ib_reg:isReg (dropK 5 (bodyOf Tryz.f18))=true:=by kernel_rfl
theorem ib_call:isCall ibOps 2 58 63 [62]=true:=by kernel_rfl
end Go.Ex
namespace Go.Proofs.YtgliljnbajohhaaGreatDoor
open Go.RowKit Go.Proofs.Top Go.Proofs.Geo Go.Ex
theorem ix_cells {w:World} {x N:Nat} {us oc sc spl:List Value} {tv:Value} {gl go gs lc:Nat} (I:IxAt w x N us oc sc spl tv gl go gs lc):w.cell? ⟨x,0,none⟩=some (.bool true)∧w.cell? ⟨x,2,none⟩=some tv:=by
 constructor <;> (rw [cell_of_row w x _ _ _ _ I.x];rfl)
set_option maxHeartbeats 8000000 in
set_option maxRecDepth 20000 in
theorem near_any (x N:Nat) (us oc sc spl:List Value) (tb gl go gs lc:Nat) (bs:List Bx) (px py:Int) (w:World) (I:IxAt w x N us oc sc spl (.pointer (some ⟨tb,0,none⟩)) gl go gs lc) (hT:TreeIs tb bs w) (hn:bs.length≤1000) :
  Calls Tryz.prog 142 #[.pointer (some ⟨x,0,none⟩),.agg #[.int .i64 px,.int .i64 py]] w (OwnEndI w (atL px py bs)):=by
 obtain ⟨c0,c2⟩:=ix_cells I
 have lx:=cell_lt c0
 have HT:=Lib.hid (fun W (k:Kp w W)=>treeAt_any tb bs px py W (hT.kp k) hn)
 clear I hT
 unfold OwnEndI at *
 go_enter Tryz.func142,Tryz.ntmps142
 go_upto_region 3 with fail
 go_region_with (go_at_call 223;refine (HT.out _ (by (repeat (first | exact kp_refl _ | apply kp_alloc | apply kp_drew | apply kp_drewN)))).mono ?_;rintro e w1 ⟨v1,rfl,ho1,hk1⟩)
 all_goals (
  try go_wp2_with fail
  go_ret
  exact ⟨_,rfl,ownsRow_mono ho1 (by simp),kp_trans (by (repeat (first | exact kp_refl _ | apply kp_alloc | apply kp_drew | apply kp_drewN))) hk1⟩)
def inH (px py:Int) (x:Bx):Bool:=decide ((x.1:Int)≤px∧px<(x.2.2.1:Int)) && decide ((x.2.1:Int)≤py∧py<(x.2.2.2:Int))
def hitL (px py:Int) (ts bs:List Bx):List Int:=(atL px py ts).filter fun z=>inH px py (bxOf bs z)
theorem atL_mem {px py:Int} {bs:List Bx} {z:Int} (h:z∈atL px py bs):∃ j:Nat,j<bs.length∧z=j:=by
 unfold atL at h
 obtain ⟨j,hj,rfl⟩:=List.mem_map.1 (List.mem_filter.1 h).1
 exact ⟨j,List.mem_range.1 hj,rfl⟩
theorem atL_nodup (px py:Int) (bs:List Bx):(atL px py bs).Nodup:=by
 unfold atL
 refine List.Pairwise.filter _ ?_
 rw [List.pairwise_map]
 exact List.nodup_range.imp fun h e=>h (by omega)
theorem IxAt_kx {w w':World} {x N:Nat} {us oc sc spl:List Value} {tv:Value} {gl go gs lc:Nat} (I:IxAt w x N us oc sc spl tv gl go gs lc) (k:Kp w w'):IxAt w' x N us oc sc spl tv gl go gs lc where
 x:=(k.block _ (Array.getElem?_eq_some_iff.1 I.x).1).trans I.x
 l:=(k.block _ (Array.getElem?_eq_some_iff.1 I.l).1).trans I.l
 ll:=I.ll
 lsp:=I.lsp
 o:=(k.block _ (Array.getElem?_eq_some_iff.1 I.o).1).trans I.o
 ol:=I.ol
 s:=(k.block _ (Array.getElem?_eq_some_iff.1 I.s).1).trans I.s
 sl:=I.sl
 one:=I.one
theorem IxAt_kxs {S:List Nat} {w w':World} {x N:Nat} {us oc sc spl:List Value} {tv:Value} {gl go gs lc:Nat} (I:IxAt w x N us oc sc spl tv gl go gs lc) (k:KX S w w') (h1:x∉S) (h2:gl∉S) (h3:go∉S) (h4:gs∉S):IxAt w' x N us oc sc spl tv gl go gs lc where
 x:=k.row I.x h1
 l:=k.row I.l h2
 ll:=I.ll
 lsp:=I.lsp
 o:=k.row I.o h3
 ol:=I.ol
 s:=k.row I.s h4
 sl:=I.sl
 one:=I.one
theorem takeI_snoc {α:Type} {l:List α} {k:Nat} {a:α} (h:l[k]? = some a):l.take (k+1)=l.take k++[a]:=by
 obtain ⟨hk,e⟩:=List.getElem?_eq_some_iff.1 h
 rw [List.take_succ_eq_append_getElem hk,e]
theorem RgAt_kx {S:List Nat} {w w':World} {u:Value} {a b c d:Int} {b1 b2 c1 c2:Nat} {sp1 sp2:List Value} (h:RgAt w u a b c d b1 b2 c1 c2 sp1 sp2) (k:KX S w w') (n1:b1∉S) (n2:b2∉S):RgAt w' u a b c d b1 b2 c1 c2 sp1 sp2 :=
 h.kept (k.block b1 (Array.getElem?_eq_some_iff.1 h.2.1).1 n1) (k.block b2 (Array.getElem?_eq_some_iff.1 h.2.2.2.1).1 n2)
theorem ix_apart {w w':World} {x N:Nat} {us oc sc spl:List Value} {tv u:Value} {gl go gs lc:Nat} (I:IxAt w x N us oc sc spl tv gl go gs lc) {a b c d:Int} {b1 b2 c1 c2:Nat} {sp1 sp2:List Value} (h:RgAt w u a b c d b1 b2 c1 c2 sp1 sp2):b1∉[go,gs]∧b2∉[go,gs]:=by
 obtain ⟨h1,h2,h3,h4,h5⟩:=h
 have ho:=I.o
 have hs:=I.s
 refine ⟨fun m=>?_,fun m=>?_⟩ <;> simp only [List.mem_cons,List.not_mem_nil,or_false] at m <;> rcases m with rfl | rfl
 ·rw [h2] at ho;simp at ho
 ·rw [h2] at hs;simp at hs
 ·rw [h4] at ho;simp at ho
 ·rw [h4] at hs;simp at hs
structure BxFit (q:Bx):Prop where
 hx:q.1<q.2.2.1
 hy:q.2.1<q.2.2.2
 mx:q.2.2.1<1048576
 my:q.2.2.2<1048576
set_option maxHeartbeats 8000000 in
set_option maxRecDepth 20000 in
theorem ixAt_any (x N:Nat) (us oc sc spl:List Value) (tb gl go gs lc:Nat) (ts bs:List Bx) (px py:Int) (w:World) (I:IxAt w x N us oc sc spl (.pointer (some ⟨tb,0,none⟩)) gl go gs lc) (hN:NOk N) (hF:∀ j,j<N→Fresh oc sc j)
  (hR:∀ (j:Nat) (b:Bx) (u:Value),bs[j]? = some b→us[j]? = some u→RgO w u b.1 b.2.1 b.2.2.1 b.2.2.2) (hb:bs.length=N) (hok:∀ b∈bs,BxFit b) (hts:ts.length=N) (hT:TreeIs tb ts w) (bpx:-1048576<px∧px<1048576) (bpy:-1048576<py∧py<1048576) :
  Calls Tryz.prog 62 #[.pointer (some ⟨x,0,none⟩),.agg #[.int .i64 px,.int .i64 py]] w fun e w'=>∃ v,e=.returned v∧OwnI w' w.heap.size v (hitL px py ts bs)∧(hitL px py ts bs=[]→v=.slice none 0 0)∧KX [go,gs] w w':=by
 have hN30:N≤30:=by rcases hN with h | h | h | h | h | h <;> omega
 have HNR:=Lib.hid (fun W (k:Kp w W)=>near_any x N us oc sc spl tb gl go gs lc ts px py W (IxAt_kx I k) (hT.kp k) (by omega))
 have hgo:=(Array.getElem?_eq_some_iff.1 I.o).1
 have hgs:=(Array.getElem?_eq_some_iff.1 I.s).1
 have hlx:=(Array.getElem?_eq_some_iff.1 I.x).1
 obtain ⟨M,hM⟩:∃ M,atL px py ts=M:=⟨_,rfl⟩
 have HM:Hid (∀ z∈M,∃ j:Nat,j<N∧z=j):=Lib.hid (fun z hz=>by rw [← hM] at hz;obtain ⟨j,h1,h2⟩:=atL_mem hz;exact ⟨j,by omega,h2⟩)
 have HND:Hid M.Nodup:=Lib.hid (hM ▸ atL_nodup px py ts)
 have HHL:Hid (hitL px py ts bs=M.filter fun z=>inH px py (bxOf bs z)):=Lib.hid (by rw [← hM];rfl)
 have HLE:Hid (M.length≤N):=Lib.hid (by rw [← hM,← hts];unfold atL;exact Nat.le_trans (List.length_filter_le _ _) (by simp))
 rw [hM] at HNR
 rw [HHL.out]
 obtain ⟨n,hn⟩:∃ n,M.length=n:=⟨_,rfl⟩
 have HLN:=Lib.hid hn
 have hn30:n≤30:=by have:=HLE.out;omega
 have HI:=Lib.hid I;have HF:=Lib.hid hF;have HR:=Lib.hid hR;have HB:=Lib.hid hb;have HOK:=Lib.hid hok
 obtain ⟨i0,hi,hz0,hz1,hz2⟩:=info_parts infoInt8
 have JI:=Lib.hid hi;have JZ0:=Lib.hid hz0;have JZ1:=Lib.hid hz1;have JZ2:=Lib.hid hz2
 clear I hF hR hb hok hT hM hts hi hz0 hz1 hz2 hn
 unfold OwnEndI at HNR
 go_enter Tryz.func62,Tryz.ntmps62
 go_wp2_with (go_at_call 142;refine (HNR.out _ (kp_alloc (kp_refl _) _)).mono ?_;rintro e w1 ⟨v1,rfl,ho1,hk1⟩;obtain ⟨p1,c1,hv1⟩:=ownsRow_slice ho1;rw [HLN.out] at hv1;subst hv1)
 obtain ⟨p0,hp0⟩:∃ p,w.heap.size=p:=⟨_,rfl⟩
 have y0:w1.cell? ⟨p0,0,none⟩=some (.int .i64 px):=kp_cell hk1 (by rw [← hp0];simp [go_sem])
 have y1:w1.cell? ⟨p0,1,none⟩=some (.int .i64 py):=kp_cell hk1 (by rw [← hp0];simp [go_sem])
 have K1:Kp w w1:=kp_trans (kp_alloc (kp_refl _) _) hk1
 have HO1:Hid (OwnI w1 p0 (.slice p1 n c1) M):=Lib.hid (ownsRow_mono ho1 (by rw [← hp0];simp))
 have npo:p0≠go∧p0≠gs:=by omega
 have HK1:=Lib.hid K1
 have HSZ:Hid (w.heap.size=p0):=Lib.hid hp0
 obtain ⟨s1,hs1⟩:∃ s1,w1.heap.size=s1:=⟨_,rfl⟩
 have HS1:Hid (w1.heap.size=s1):=Lib.hid hs1
 have hps:p0<s1:=by rw [← hs1];exact cell_lt y0
 have hgll:=(Array.getElem?_eq_some_iff.1 HI.out.l).1
 have hlo4:x<s1∧gl<s1∧go<s1∧gs<s1:=by omega
 clear hs1 hgll
 simp only [hp0]
 clear ho1 hk1 hp0 HNR
 go_loopw [5,12] (fun v i wr=>∃ (k:Nat) (oc' sc':List Value),k≤n∧i=.int .i64 k∧(OwnI wr s1 v ((M.take k).filter fun z=>inH px py (bxOf bs z))∧(((M.take k).filter fun z=>inH px py (bxOf bs z))=[]→v=.slice none 0 0))∧IxAt wr x N us oc' sc' spl (.pointer (some ⟨tb,0,none⟩)) gl go gs lc∧(∀ j:Nat,j<N→(∀ q,q<k→M[q]?≠some (j:Int))→Fresh oc' sc' j)∧KX [go,gs] w1 wr) (fun v i _=>n - (intOf i).toNat)
 case atStart=>exact ⟨0,oc,sc,by omega,rfl,⟨by rw [List.take_zero];exact World.ownsRow_nil _ _ _ _,fun _=>rfl⟩,IxAt_kx HI.out HK1.out,fun j hj _=>HF.out j hj,KX.refl _⟩
 case round =>
  obtain ⟨k,oc',sc',hk,rfl,⟨hown,hnl⟩,hI,hFr,hkx⟩:=hrel
  have HNL:=Lib.hid hnl
  clear hnl
  by_cases hlt:k<n
  ·have z1:(k:Int)<(n:Int):=by omega
   have z0:(0:Int)≤(k:Int):=by omega
   have wi:IntKind.i64.wrap ((k:Int)+1)=(k:Int)+1:=IntWalk.i64_in _ (by omega)
   obtain ⟨g5,c5,hv5,hc5,hcell5⟩:=own_cells HO1.out (by rw [HLN.out];omega)
   rw [HLN.out] at hv5 hc5
   simp only [Value.slice.injEq] at hv5
   obtain ⟨rfl,-,rfl⟩:=hv5
   have hg5:=World.ownsRow.lt HO1.out g5 rfl
   have hkl:k<M.length:=by rw [HLN.out];exact hlt
   obtain ⟨j,hj,hMj⟩:=HM.out M[k] (List.getElem_mem hkl)
   have hMk:M[k]? = some (j:Int):=by rw [List.getElem?_eq_getElem hkl,hMj]
   have e5:wr.cell? ⟨g5,k,none⟩=some (.int .i64 (j:Int)):=hkx.cell (hcell5 k _ (by unfold intsV;rw [List.getElem?_map,hMk];rfl)) (by have h1:=HSZ.out;simp;omega)
   have le5:=cell_lt e5
   have x0:=hkx.cell y0 (by simp [npo])
   have x1:=hkx.cell y1 (by simp [npo])
   have lp0:=cell_lt x0
   have hfr:Fresh oc' sc' j:=hFr j hj (fun q hq he=>by
    have hql:q<M.length:=by omega
    rw [List.getElem?_eq_getElem hql] at he
    have h2:=List.getElem?_eq_getElem hkl
    rw [hMk] at h2
    simp only [Option.some.injEq] at he h2
    exact (List.pairwise_iff_getElem.1 HND.out) q k hql hkl hq (by rw [he,h2]))
   obtain ⟨bx,hbx⟩:∃ bx,bs[j]? = some bx:=⟨_,List.getElem?_eq_getElem (by rw [HB.out];exact hj)⟩
   obtain ⟨u,hu⟩:∃ u,us[j]? = some u:=⟨_,List.getElem?_eq_getElem (by rw [HI.out.ll];exact hj)⟩
   obtain ⟨b1,b2,d1,d2,sp1,sp2,hrg⟩:=HR.out j bx u hbx hu
   obtain ⟨na,nb⟩:=ix_apart (w':=w) HI.out hrg
   have hrg1:RgAt wr u bx.1 bx.2.1 bx.2.2.1 bx.2.2.2 b1 b2 d1 d2 sp1 sp2:=RgAt_kx (RgAt_kx (S:=[]) hrg (KX.of HK1.out) (by simp) (by simp)) hkx na nb
   have hbo:=HOK.out bx (List.mem_of_getElem? hbx)
   obtain ⟨o1,o2,o3,o4⟩:=hbo
   have HS:=Lib.hid (fun W (k:Kp wr W)=>slabs_any (IxAt_kx hI k) hN hj hu (RgAt_kx (S:=[]) hrg1 (KX.of k) (by simp) (by simp)) hfr (by omega) (by omega) (by omega) (by omega) (by omega) (by omega))
   have HQ:=Lib.hid (fun W g (h:SlabIs W g bx.1 bx.2.1 bx.2.2.1 bx.2.2.2)=>in_any (px:=px) (py:=py) h (by omega) (by omega) (by omega) (by omega) (by omega) (by omega) bpx bpy)
   have hbz:bxOf bs (j:Int)=bx:=by unfold bxOf;rw [List.getD_eq_getElem?_getD,show ((j:Int)).toNat=j by omega,hbx];rfl
   have htk:((M.take (k+1)).filter fun z=>inH px py (bxOf bs z))=((M.take k).filter fun z=>inH px py (bxOf bs z))++(if inH px py bx then [(j:Int)] else []):=by
    rw [takeI_snoc hMk,List.filter_append]
    congr 1
    simp only [List.filter_cons,List.filter_nil,hbz]
   have HTK:=Lib.hid htk
   have HQ2:Hid (∀ W g,SlabIs W g bx.1 bx.2.1 bx.2.2.1 bx.2.2.2→Calls Tryz.prog 144 #[.pointer (some ⟨g,0,none⟩),.agg #[.int .i64 px,.int .i64 py]] W fun e w'=>e=.returned (.bool (inH px py bx))∧Kp W w'):=Lib.hid (fun W g h=>HQ.out W g h)
   have HFR:=Lib.hid hFr;have HX:=Lib.hid hkx;have HOW:=Lib.hid hown;have HMK:=Lib.hid hMk;have HIX:=Lib.hid hI
   have hfl:((M.take k).filter fun z=>inH px py (bxOf bs z)).length≤30:=Nat.le_trans (List.length_filter_le _ _) (by simp;omega)
   have HFL:=Lib.hid hfl
   clear hcell5 hc5 hMj hMk hfr hbx hu hrg hrg1 na nb o1 o2 o3 o4 hbz htk hFr hkx hown hI HQ hkl hfl
   cases hin:inH px py bx with
   | false =>
    rw [hin] at HQ2 HTK
    go_upto_region 5 with fail
    refine wp_region_noPanic ?_
    refine wp_region_held_drew (S:=fun w'=>KX [go,gs] wr w') (by kernel_rfl) ?_ (fun hHeld=>?_)
    ·exact (KX.refl _).drew
    refine take_yes (i:=0) (d:=16) (v:=?_) rfl rfl (by kernel_rfl) (by kernel_rfl) (by kernel_rfl) (fun _ _ _ h=>h) (by rfl) ?_ hHeld ?_
    rotate_left
    ·intro wq hSw;(try dsimp only at hSw);go_simp;(try with_reducible rfl)
    (try simp only [Act.put,List.setIfInBounds_toArray,List.set_cons_zero,List.set_cons_succ])
    refine take_yes (i:=1) (d:=17) (v:=?_) rfl rfl (by kernel_rfl) (by kernel_rfl) (by kernel_rfl) (fun _ _ _ h=>h) (by rfl) ?_ hHeld ?_
    rotate_left
    ·intro wq hSw;(try dsimp only at hSw);go_simp;(try with_reducible rfl)
    (try simp only [Act.put,List.setIfInBounds_toArray,List.set_cons_zero,List.set_cons_succ])
    refine take_yes (i:=3) (d:=19) (v:=?_) rfl rfl (by kernel_rfl) (by kernel_rfl) (by kernel_rfl) (fun _ _ _ h=>h) (by rfl) ?_ hHeld ?_
    rotate_left
    ·intro wq hSw;(try dsimp only at hSw);have q0:=hSw.cell x0 (by simp [npo]);have q1:=hSw.cell x1 (by simp [npo]);go_simp;(try with_reducible rfl)
    (try simp only [Act.put,List.setIfInBounds_toArray,List.set_cons_zero,List.set_cons_succ])
    refine wpAnyH_ready (rs:=[2]) (by kernel_rfl) (by simp) ?_
    refine (AllReadyH.cons rfl (fun K' hK=>?_) AllReadyH.nil)
    go_simp
    go_at_call 143
    refine (HS.out _ (kp_drew (kp_refl _))).mono ?_
    rintro e w4 ⟨g,oc2,sc2,rfl,hsl,hI2,ho2,hs2,hx2⟩
    have X4:KX [go,gs] wr w4:=(KX.of (kp_drew (kp_refl _))).then hx2
    have HSL:=Lib.hid hsl;have HI2:=Lib.hid hI2;have HO2:=Lib.hid ho2;have HS2:=Lib.hid hs2;have HX4:=Lib.hid X4
    clear hsl hI2 ho2 hs2 hx2
    refine hK.out _ _ ?_ (fun hHeld=>?_)
    ·exact X4
    clear hK K'
    (try simp only [Act.put,List.setIfInBounds_toArray,List.set_cons_zero,List.set_cons_succ])
    refine wpAnyH_ready (rs:=[4]) (by kernel_rfl) (by simp) ?_
    refine (AllReadyH.cons rfl (fun K' hK=>?_) AllReadyH.nil)
    go_simp
    go_at_call 144
    refine (HQ2.out _ _ HSL.out).mono ?_
    rintro e w5 ⟨rfl,hk5⟩
    have X5:KX [go,gs] wr w5:=HX4.out.kp hk5
    have HI5:=Lib.hid (IxAt_kx HI2.out hk5)
    have HOW5:Hid (OwnI w5 s1 u5 ((M.take k).filter fun z=>inH px py (bxOf bs z))):=Lib.hid (ownsRow_kx HOW.out X5 (fun b hb=>by have h1:=World.ownsRow.lt HOW.out b hb;simp;omega))
    have lp5:=Nat.lt_of_lt_of_le lp0 X5.size
    have HX5:=Lib.hid X5
    clear hk5 HSL HX4
    refine hK.out _ _ ?_ (fun hHeld=>?_)
    ·exact X5
    clear hK K'
    (try simp only [Act.put,List.setIfInBounds_toArray,List.set_cons_zero,List.set_cons_succ])
    refine wpAnyH_done (by kernel_rfl) ?_ _
    refine NoPanic.normal ?_
    go_wp2_with fail
    exact ⟨⟨k+1,oc2,sc2,by omega,by go_num,⟨by rw [HTK.out];simpa using HOW5.out,fun h=>HNL.out (by rw [HTK.out] at h;simpa using h)⟩,HI5.out,(fun j' hj' hq'=>by
      obtain ⟨f1,f2,f3,f4⟩:=HFR.out j' hj' (fun q hq=>hq' q (by omega))
      have hne:j'≠j:=fun e=>hq' k (by omega) (by rw [e];exact HMK.out)
      exact ⟨(HO2.out _ (by omega)).trans f1,(HO2.out _ (by omega)).trans f2,(HO2.out _ (by omega)).trans f3,(HS2.out _ hne).trans f4⟩),HX.out.then HX5.out⟩,by simp [intOf];omega⟩
   | true =>
    rw [hin] at HQ2 HTK
    go_upto_region 5 with fail
    refine wp_region_noPanic ?_
    refine wp_region_held_drew (S:=fun w'=>KX [go,gs] wr w') (by kernel_rfl) ?_ (fun hHeld=>?_)
    ·exact (KX.refl _).drew
    refine take_yes (i:=0) (d:=16) (v:=?_) rfl rfl (by kernel_rfl) (by kernel_rfl) (by kernel_rfl) (fun _ _ _ h=>h) (by rfl) ?_ hHeld ?_
    rotate_left
    ·intro wq hSw;(try dsimp only at hSw);go_simp;(try with_reducible rfl)
    (try simp only [Act.put,List.setIfInBounds_toArray,List.set_cons_zero,List.set_cons_succ])
    refine take_yes (i:=1) (d:=17) (v:=?_) rfl rfl (by kernel_rfl) (by kernel_rfl) (by kernel_rfl) (fun _ _ _ h=>h) (by rfl) ?_ hHeld ?_
    rotate_left
    ·intro wq hSw;(try dsimp only at hSw);go_simp;(try with_reducible rfl)
    (try simp only [Act.put,List.setIfInBounds_toArray,List.set_cons_zero,List.set_cons_succ])
    refine take_yes (i:=3) (d:=19) (v:=?_) rfl rfl (by kernel_rfl) (by kernel_rfl) (by kernel_rfl) (fun _ _ _ h=>h) (by rfl) ?_ hHeld ?_
    rotate_left
    ·intro wq hSw;(try dsimp only at hSw);have q0:=hSw.cell x0 (by simp [npo]);have q1:=hSw.cell x1 (by simp [npo]);go_simp;(try with_reducible rfl)
    (try simp only [Act.put,List.setIfInBounds_toArray,List.set_cons_zero,List.set_cons_succ])
    refine wpAnyH_ready (rs:=[2]) (by kernel_rfl) (by simp) ?_
    refine (AllReadyH.cons rfl (fun K' hK=>?_) AllReadyH.nil)
    go_simp
    go_at_call 143
    refine (HS.out _ (kp_drew (kp_refl _))).mono ?_
    rintro e w4 ⟨g,oc2,sc2,rfl,hsl,hI2,ho2,hs2,hx2⟩
    have X4:KX [go,gs] wr w4:=(KX.of (kp_drew (kp_refl _))).then hx2
    have HSL:=Lib.hid hsl;have HI2:=Lib.hid hI2;have HO2:=Lib.hid ho2;have HS2:=Lib.hid hs2;have HX4:=Lib.hid X4
    clear hsl hI2 ho2 hs2 hx2
    refine hK.out _ _ ?_ (fun hHeld=>?_)
    ·exact X4
    clear hK K'
    (try simp only [Act.put,List.setIfInBounds_toArray,List.set_cons_zero,List.set_cons_succ])
    refine wpAnyH_ready (rs:=[4]) (by kernel_rfl) (by simp) ?_
    refine (AllReadyH.cons rfl (fun K' hK=>?_) AllReadyH.nil)
    go_simp
    go_at_call 144
    refine (HQ2.out _ _ HSL.out).mono ?_
    rintro e w5 ⟨rfl,hk5⟩
    have X5:KX [go,gs] wr w5:=HX4.out.kp hk5
    have HI5:=Lib.hid (IxAt_kx HI2.out hk5)
    have HOW5:Hid (OwnI w5 s1 u5 ((M.take k).filter fun z=>inH px py (bxOf bs z))):=Lib.hid (ownsRow_kx HOW.out X5 (fun b hb=>by have h1:=World.ownsRow.lt HOW.out b hb;simp;omega))
    have lp5:=Nat.lt_of_lt_of_le lp0 X5.size
    have HX5:=Lib.hid X5
    clear hk5 HSL HX4
    refine hK.out _ _ ?_ (fun hHeld=>?_)
    ·exact X5
    clear hK K'
    (try simp only [Act.put,List.setIfInBounds_toArray,List.set_cons_zero,List.set_cons_succ])
    refine wpAnyH_done (by kernel_rfl) ?_ _
    refine NoPanic.normal ?_
    go_wp2_with (at_builtin;refine wpList_append_own_at _ rfl _ _ 22 rfl s1 3 i0 (.int .i64 0) 1 8 Tryz.underlying22 JI.out JZ0.out JZ1.out JZ2.out rfl (by decide) _ _ _ rfl (HOW5.out.kp (kp_alloc (kp_refl _) _)) ⟨w5.heap.size,0,none⟩ 1 1 [.int .i64 (j:Int)] rfl rfl (cells_new w5 [.int .i64 (j:Int)] _) (by simp [Value.oneCell']) (Nat.le_trans (Nat.add_le_add_right HFL.out 1) (by decide)) (Nat.le_trans (Nat.mul_le_mul_right 8 (Nat.add_le_add_right HFL.out 1)) (by decide)) (by have h1:=HX5.out.size;have h2:=HX.out.size;have h3:=HS1.out;simp;omega) ?_;intro v' w6 hown hgrow hnil hat;have HO6:Hid (OwnI w6 s1 v' (((M.take k).filter fun z=>inH px py (bxOf bs z))++[(j:Int)])):=Lib.hid (OwnI.append (m:=[(j:Int)]) hown);have HX6:Hid (KX [] w5 w6∨True):=Lib.hid (.inr trivial);have HG6:=Lib.hid (fun b (hb:u5.ownBlock=some b)=>(World.ownsRow.lt HOW5.out b hb));have HK6:=Lib.hid hgrow;clear hown hgrow hnil hat)
    refine ⟨⟨k+1,oc2,sc2,by omega,by go_num,⟨by rw [HTK.out];exact HO6.out,fun h=>by rw [HTK.out] at h;simp at h⟩,?_,(fun j' hj' hq'=>by
      obtain ⟨f1,f2,f3,f4⟩:=HFR.out j' hj' (fun q hq=>hq' q (by omega))
      have hne:j'≠j:=fun e=>hq' k (by omega) (by rw [e];exact HMK.out)
      exact ⟨(HO2.out _ (by omega)).trans f1,(HO2.out _ (by omega)).trans f2,(HO2.out _ (by omega)).trans f3,(HS2.out _ hne).trans f4⟩),?_⟩,by simp [intOf];omega⟩
    ·exact IxAt_kxs HI5.out ((KX.of (S:=u5.ownBlock.toList) (kp_alloc (kp_refl _) _)).grown HK6.out (fun b hb=>.inl (Option.mem_toList.2 hb))) (fun m=>by have:=(HG6.out x (by simpa using m)).1;omega) (fun m=>by have:=(HG6.out gl (by simpa using m)).1;omega) (fun m=>by have:=(HG6.out go (by simpa using m)).1;omega) (fun m=>by have:=(HG6.out gs (by simpa using m)).1;omega)
    ·refine ⟨HK6.out.os.trans (HX.out.then HX5.out).os,HK6.out.tape.trans (HX.out.then HX5.out).tape,HK6.out.output.trans (HX.out.then HX5.out).output,Nat.le_trans (HX.out.then HX5.out).size (Nat.le_trans (by simp) HK6.out.size),fun b hb hn=>?_⟩
     have hb5:b<w5.heap.size:=Nat.lt_of_lt_of_le hb (HX.out.then HX5.out).size
     by_cases e:u5.ownBlock=some b
     ·exact absurd hb (by have h1:=(HG6.out b e).1;have h2:=HS1.out;omega)
     ·exact ((HK6.out.block b (by simp;omega) (fun h=>e h.symm)).trans ((kp_alloc (kp_refl w5) _).block b hb5)).trans ((HX.out.then HX5.out).block b hb hn)
  ·obtain rfl:k=n:=by omega
   have z1:¬ (k:Int)<(k:Int):=by omega
   have HT:M.take k=M:=List.take_of_length_le (by rw [HLN.out];exact Nat.le_refl _)
   rw [HT] at hown
   have HOW:=Lib.hid hown;have HX:=Lib.hid hkx
   clear hown hkx hI hFr
   go_wp2_with fail
   go_ret
   exact ⟨_,rfl,ownsRow_mono HOW.out (by rw [HSZ.out];omega),fun h=>HNL.out (by rw [HT];simpa using h),(KX.of (S:=[go,gs]) HK1.out).then HX.out⟩
end Go.Proofs.YtgliljnbajohhaaGreatDoor
