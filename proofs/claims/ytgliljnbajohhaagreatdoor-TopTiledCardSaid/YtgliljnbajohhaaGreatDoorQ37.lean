import Derived.Test.YtgliljnbajohhaaGreatDoorQ36
import Derived.Test.YtgliljnbajohhaaGreatDoorQ08
set_option linter.unusedVariables false
set_option linter.unusedSimpArgs false
namespace Go.Ex
open Go Go.RowKit Go.Proofs Go.Proofs.YtgliljnbajohhaaGreatDoor Go.Proofs.Geo
def smp (cx cy:Nat) (c:Nat):Nat:=match c with
 | 0=>10
 | 1=>10
 | 2=>20
 | 3=>20
 | 4=>5 * (cx+1)
 | _=>5 * (cy+1)
def cmN (a b:Nat):Cm:=bif Nat.beq a b then .eq else bif Nat.ble a b then .lt else .gt
noncomputable def cmL (n cx cy:Nat):XI→XI→Option Cm
 | .x a,.x b=>bif Nat.ble (Nat.succ a) n && (Nat.ble (Nat.succ b) n && Nat.beq (Nat.mod a 2) (Nat.mod b 2)) then some (cmN (smp cx cy a) (smp cx cy b)) else none
 | .x a,.n i=>bif Nat.ble (Nat.succ a) n then (bif ile 1048576 i then some .lt else bif ile i (-1048576) then some .gt else none) else none
 | .n i,.x a=>bif Nat.ble (Nat.succ a) n then (bif ile 1048576 i then some .gt else bif ile i (-1048576) then some .lt else none) else none
 | _,_=>none
structure Lies [Val] (n cx cy:Nat):Prop where
 lt:∀ a b,a<n→b<n→a % 2=b % 2→smp cx cy a<smp cx cy b→Val.val a<Val.val b
 eq:∀ a b,a<n→b<n→a % 2=b % 2→smp cx cy a=smp cx cy b→Val.val a=Val.val b
 bd:∀ a,a<n→-1048576<Val.val a∧Val.val a<1048576
theorem cmN_ok {a b:Nat} {x y:Int} (h1:a<b→x<y) (h2:a=b→x=y) (h3:b<a→y<x) {o:Cm} (h:cmN a b=o):(o=.lt→x<y)∧(o=.eq→x=y)∧(o=.gt→y<x)∧(o=.le→x≤y)∧(o=.ge→y≤x):=by
 subst h
 unfold cmN
 rw [nbeq,nble]
 by_cases c1:a=b
 ·rw [decide_eq_true c1];exact ⟨fun h=>(by cases h),fun _=>h2 c1,fun h=>(by cases h),fun h=>(by cases h),fun h=>(by cases h)⟩
 ·by_cases c2:a≤b
  ·rw [decide_eq_false c1,decide_eq_true c2];exact ⟨fun _=>h1 (by omega),fun h=>(by cases h),fun h=>(by cases h),fun h=>(by cases h),fun h=>(by cases h)⟩
  ·rw [decide_eq_false c1,decide_eq_false c2];exact ⟨fun h=>(by cases h),fun h=>(by cases h),fun _=>h3 (by omega),fun h=>(by cases h),fun h=>(by cases h)⟩
theorem letS [Val] {P:Program} {n cx cy:Nat} (L:Lies n cx cy):LetOk P (cmL n cx cy) (fun _ _ _ _=>none) where
 ari _ _ _ _ _ h:=by cases h
 cmp a b o h:=by
  unfold cmL at h
  split at h
  ·rename_i a b
   cases hq:(Nat.ble (Nat.succ a) n && (Nat.ble (Nat.succ b) n && Nat.beq (Nat.mod a 2) (Nat.mod b 2))) with
   | false=>rw [hq] at h;cases h
   | true =>
    rw [hq] at h
    simp only [nble,nbeq,Bool.and_eq_true,decide_eq_true_eq] at hq
    obtain ⟨h1,h2,h3⟩:=hq
    simp only [cond_true,Option.some.injEq] at h
    exact cmN_ok (L.lt a b h1 h2 h3) (L.eq a b h1 h2 h3) (L.lt b a h2 h1 h3.symm) h
  ·rename_i a i
   cases hq:Nat.ble (Nat.succ a) n with
   | false=>rw [hq] at h;cases h
   | true =>
    simp only [nble,decide_eq_true_eq] at hq
    obtain ⟨b1,b2⟩:=L.bd a hq
    simp only [nble,hq,decide_true,cond_true,ile_eq] at h
    change (o=.lt→Val.val a<i)∧(o=.eq→Val.val a=i)∧(o=.gt→i<Val.val a)∧(o=.le→Val.val a≤i)∧(o=.ge→i≤Val.val a)
    by_cases c1:(1048576:Int)≤i
    ·simp only [c1,decide_true,cond_true,Option.some.injEq] at h;subst h;exact ⟨fun _=>by omega,fun h=>(by cases h),fun h=>(by cases h),fun h=>(by cases h),fun h=>(by cases h)⟩
    ·by_cases c2:i≤(-1048576:Int)
     ·simp only [c1,c2,decide_true,decide_false,cond_true,cond_false,Option.some.injEq] at h;subst h;exact ⟨fun h=>(by cases h),fun h=>(by cases h),fun _=>by omega,fun h=>(by cases h),fun h=>(by cases h)⟩
     ·simp [c1,c2] at h
  ·rename_i i a
   cases hq:Nat.ble (Nat.succ a) n with
   | false=>rw [hq] at h;cases h
   | true =>
    simp only [nble,decide_eq_true_eq] at hq
    obtain ⟨b1,b2⟩:=L.bd a hq
    simp only [nble,hq,decide_true,cond_true,ile_eq] at h
    change (o=.lt→i<Val.val a)∧(o=.eq→i=Val.val a)∧(o=.gt→Val.val a<i)∧(o=.le→i≤Val.val a)∧(o=.ge→Val.val a≤i)
    by_cases c1:(1048576:Int)≤i
    ·simp only [c1,decide_true,cond_true,Option.some.injEq] at h;subst h;exact ⟨fun h=>(by cases h),fun h=>(by cases h),fun _=>by omega,fun h=>(by cases h),fun h=>(by cases h)⟩
    ·by_cases c2:i≤(-1048576:Int)
     ·simp only [c1,c2,decide_true,decide_false,cond_true,cond_false,Option.some.injEq] at h;subst h;exact ⟨fun _=>by omega,fun h=>(by cases h),fun h=>(by cases h),fun h=>(by cases h),fun h=>(by cases h)⟩
     ·simp [c1,c2] at h
  ·cases h
def turnX:Cm→AV
 | .lt=>.i .i64 1
 | .eq=>.i .i64 0
 | _=>.i .i64 (-1)
noncomputable def orcB (cx:Nat) (k:Nat) (args:List AV) (st:S):Option (AV×S) :=
 bif Nat.beq k 55 then
  match args with
  | [.agg [.sl id1 0 1 (_+1)]] =>
   match st.h.get id1 with
   | some (.row [.sl id2 0 4 _] _ _ _) =>
    match st.h.get id2 with
    | some (.row l _ _ _)=>bif AV.beqs l lRing then some (.agg [.i .i64 0,.i .i64 0],st) else none
    | _=>none
   | _=>none
  | _=>none
 else bif Nat.beq k 284 then
  match args with
  | [.agg a,.agg b,.agg c] =>
   bif AV.beqs c [.lx .i64 4,.lx .i64 5] then
    (bif AV.beqs a [.lx .i64 2,.lx .i64 1] && AV.beqs b [.lx .i64 2,.lx .i64 3] then some (turnX (cmN (smp cx 0 4) 20),st)
    else bif AV.beqs a [.lx .i64 0,.lx .i64 1] && AV.beqs b [.lx .i64 0,.lx .i64 3] then some (turnX (cmN (smp cx 0 4) 10),st) else none)
   else none
  | _=>none
 else none
noncomputable def tbB (n cx cy:Nat):Tb:=⟨tiT,ftT,xtT,orcB cx,cmL n cx cy,fun _ _ _ _=>none⟩
theorem turn_up {a b d px py:Int} (hb:b<d) (h1:okP (a,b)=true) (h2:okP (a,d)=true) (h3:okP (px,py)=true):turn (a,b) (a,d) (px,py)=(a - px).sign:=by
 unfold turn
 rw [h1,h2,h3]
 simp only [Bool.and_true,if_true]
 have e:det (a,b) (a,d) (px,py)=(d - b) * (a - px):=by unfold det;grind
 rw [e,Int.sign_mul,Int.sign_eq_one_of_pos (by omega),Int.one_mul]
set_option maxRecDepth 100000
structure BoxV [Val]:Prop where
 x:Val.val 0<Val.val 2
 y:Val.val 1<Val.val 3
 bd:∀ a,a<4→-1048576<Val.val a∧Val.val a<1048576
theorem ringV_chk [Val] (B:BoxV):chk ringV=(0,0):=by
 obtain ⟨hx,hy,bd⟩:=B
 have b0:=bd 0 (by omega);have b1:=bd 1 (by omega);have b2:=bd 2 (by omega);have b3:=bd 3 (by omega)
 exact box_chk hx hy (okP_iff.2 (by simp only;omega)) (okP_iff.2 (by simp only;omega))
theorem cmN_no (a b:Nat):cmN a b≠.le∧cmN a b≠.ge:=by
 unfold cmN
 cases Nat.beq a b <;> cases Nat.ble a b <;> exact ⟨by simp,by simp⟩
theorem cmN_sgn [Val] {cx cy:Nat} {c:Nat} {L:Lies 6 cx cy} (hc:c<6) (h2:c % 2=0):(turnX (cmN (smp cx 0 4) (smp cx cy c)))=.i .i64 (Val.val c - Val.val 4).sign:=by
 have h4:smp cx 0 4=smp cx cy 4:=rfl
 obtain ⟨k1,k2,k3,-,-⟩:=cmN_ok (L.lt 4 c (by omega) hc (by omega)) (L.eq 4 c (by omega) hc (by omega)) (L.lt c 4 hc (by omega) (by omega)) (o:=cmN (smp cx cy 4) (smp cx cy c)) rfl
 rw [h4]
 cases h:cmN (smp cx cy 4) (smp cx cy c) with
 | lt=>have:=k1 h;rw [Int.sign_eq_one_of_pos (by omega)];rfl
 | eq=>have:=k2 h;rw [show Val.val c - Val.val 4=0 by omega];rfl
 | gt=>have:=k3 h;rw [Int.sign_eq_neg_one_of_neg (by omega)];rfl
 | le=>exact absurd h (cmN_no _ _).1
 | ge=>exact absurd h (cmN_no _ _).2
theorem orcB_ok [Val] (B:BoxV) {cx cy:Nat} (L:Lies 6 cx cy) {k:Nat} {args:List AV} {st st':S} {r:AV} (h:orcB cx k args st=some (r,st'))
  (Pr:Nat→Prop) (w0:World) (ρ:Env) (w:World) (vs:List Value) (W:WR Pr w0 ρ st.h.get st.nx w) (hv:VRs ρ args vs):CallS Tryz.prog k vs w (Out Pr w0 ρ st.nx r st'):=by
 unfold orcB at h
 cases hk:Nat.beq k 55 with
 | true =>
  have hkk:=nbt hk
  subst hkk
  simp only [hk,cond_true] at h
  split at h
  ·rename_i id1 c1
   split at h
   ·rename_i id2 c2 e1 s1 g1 hr1
    split at h
    ·rename_i l e2 s2 g2 hr2
     cases hq:AV.beqs l lRing with
     | false=>simp [hq] at h
     | true =>
      simp only [hq,cond_true,Option.some.injEq,Prod.mk.injEq] at h
      obtain ⟨rfl,rfl⟩:=h
      cases AV.beqs_eq _ _ hq
      cases hv with
      | cons h1 h2 =>
       cases h2
       cases h1 with
       | agg h3 =>
        cases h3 with
        | cons h4 h5 =>
         cases h5
         have ho:=wr_oneR W hr1 hr2 h4
         refine calls_S Tryz.func55 (by kernel_rfl) rfl (rcheck_one _ ringV (by unfold ringV ring4;simp) (ringV_chk B) w ho) ?_
         rintro e w' ⟨rfl,hkp⟩
         exact ⟨_,rfl,ρ,Ext.refl _ _,Nat.le_refl _,.agg (xs:=[_,_]) (.cons (.i _ _) (.cons (.i _ _) .nil)),W.kept hkp⟩
    ·cases h
   ·cases h
  ·cases h
 | false =>
  simp only [hk,cond_false] at h
  cases hk2:Nat.beq k 284 with
  | false=>simp [hk2] at h
  | true =>
   have hkk:=nbt hk2
   subst hkk
   simp only [hk2,cond_true] at h
   split at h
   ·rename_i a b c
    cases hc:AV.beqs c [.lx .i64 4,.lx .i64 5] with
    | false=>simp [hc] at h
    | true =>
     cases AV.beqs_eq _ _ hc
     simp only [hc,cond_true] at h
     obtain ⟨hx,hy,bd⟩:=B
     have b0:=bd 0 (by omega);have b1:=bd 1 (by omega);have b2:=bd 2 (by omega);have b3:=bd 3 (by omega)
     have b4:=L.bd 4 (by omega);have b5:=L.bd 5 (by omega)
     have fin:∀ (i:Nat),i=0∨i=2→a=[.lx .i64 i,.lx .i64 1]→b=[.lx .i64 i,.lx .i64 3]→r=turnX (cmN (smp cx 0 4) (smp cx cy i))→st'=st→CallS Tryz.prog 284 vs w (Out Pr w0 ρ st.nx r st'):=fun i hi ha hb hr hs=>by
      subst ha
      subst hb
      subst hs
      have bi:-1048576<Val.val i∧Val.val i<1048576:=by rcases hi with rfl | rfl <;> assumption
      have hrr:r=.i .i64 (Val.val i - Val.val 4).sign:=hr.trans (cmN_sgn (L:=L) (by omega) (by omega))
      subst hrr
      have pv2:∀ {c d:Nat} {v:Value},VR ρ (.agg [.lx .i64 c,.lx .i64 d]) v→v=pv (Val.val c) (Val.val d):=fun hv=>by
       cases hv with
       | agg h1=>cases h1 with
        | cons p q=>cases q with
         | cons p2 q2=>cases q2;cases p;cases p2;rfl
      cases hv with
      | cons h1 h2 =>
       cases h2 with
       | cons h3 h4 =>
        cases h4 with
        | cons h5 h6 =>
         cases h6
         cases pv2 h1
         cases pv2 h3
         cases pv2 h5
         have ht:=turn_any (Val.val i) (Val.val 1) (Val.val i) (Val.val 3) (Val.val 4) (Val.val 5) w
         rw [turn_up hy (okP_iff.2 (by simp only;omega)) (okP_iff.2 (by simp only;omega)) (okP_iff.2 (by simp only;omega))] at ht
         refine calls_S Tryz.func284 (by kernel_rfl) rfl ht ?_
         rintro e w' ⟨rfl,hkp⟩
         exact ⟨_,rfl,ρ,Ext.refl _ _,Nat.le_refl _,.i _ _,W.kept hkp⟩
     cases q1:(AV.beqs a [.lx .i64 2,.lx .i64 1] && AV.beqs b [.lx .i64 2,.lx .i64 3]) with
     | true =>
      simp only [q1,cond_true,Option.some.injEq,Prod.mk.injEq] at h
      simp only [Bool.and_eq_true] at q1
      exact fin 2 (.inr rfl) (AV.beqs_eq _ _ q1.1) (AV.beqs_eq _ _ q1.2) h.1.symm h.2.symm
     | false =>
      simp only [q1,cond_false] at h
      cases q2:(AV.beqs a [.lx .i64 0,.lx .i64 1] && AV.beqs b [.lx .i64 0,.lx .i64 3]) with
      | true =>
       simp only [q2,cond_true,Option.some.injEq,Prod.mk.injEq] at h
       simp only [Bool.and_eq_true] at q2
       exact fin 0 (.inl rfl) (AV.beqs_eq _ _ q2.1) (AV.beqs_eq _ _ q2.2) h.1.symm h.2.symm
      | false=>simp [q2] at h
   ·cases h
def zOnce (j:Nat):AV:=bif Nat.beq (j % 3) 1 then .i .i32 0 else .i .u32 0
def dOnce (j:Nat):AV:=bif Nat.beq (j % 3) 0 then .i .u32 1 else zOnce j
def lRow (N i:Nat):List AV:=(List.range N).map fun j=>bif Nat.beq j i then .sl 1 0 1 1 else .ly j
def oRow (N i:Nat) (z:Nat→AV):List AV:=(List.range (3 * N)).map fun j=>bif Nat.beq (j / 3) i then z j else .ly (100+j)
def sRow (N i:Nat) (v:AV):List AV:=(List.range N).map fun j=>bif Nat.beq j i then v else .ly (200+j)
def xRow (N:Nat):List AV:=[.b true,.sl 2 0 N N,.ly 300,.sl 3 0 N N,.sl 4 0 N N]
def ixL (N i:Nat):List (Option AObj):=[some oPts,some oRings,some (.row (lRow N i) 36 1 (.told 2)),some (.row (oRow N i zOnce) 391 3 .no),
 some (.row (sRow N i .p0) 281 1 .no),some (.row (xRow N) 156 5 .no)]
def hRow:List AV:=[.lx .i64 1,.lx .i64 3,.i .i64 0,.i .i64 0]
def fRow:List AV:=[.i .i64 0,.i .i64 2]
def eRow:List AV:=[.lx .i64 2,.lx .i64 1,.lx .i64 2,.lx .i64 3,.lx .i64 0,.lx .i64 1,.lx .i64 0,.lx .i64 3]
def gRow (h f e:Nat):List AV:=[.b true,.sl h 0 2 4,.sl f 0 2 2,.sl e 0 2 2]
noncomputable def endIx (N i:Nat) (st:S):Bool :=
 rowIs st 0 lRing 53 2 (.told 0) && (rowIs st 1 [.sl 0 0 4 4] 71 1 (.told 1) && (rowIs st 2 (lRow N i) 36 1 (.told 2) && (rowIs st 3 (oRow N i dOnce) 391 3 .no &&
 (rowIs st 4 (sRow N i (.p 37 0)) 281 1 .no && (rowIs st 5 (xRow N) 156 5 .no && (rowIs st 37 (gRow 93 252 236) 472 4 .no && (rowIs st 93 hRow 3 1 .yes &&
 (rowIs st 252 fRow 3 1 .yes && rowIs st 236 eRow 476 4 .yes))))))))
noncomputable def chkIx (N i:Nat):Bool:=ends (run (tbB 6 1 1) 300 143 [.p 5 0,.i .i64 i] (S.ofL (ixL N i))) (.p 37 0) (endIx N i)
theorem ix2:((List.range 2).all (chkIx 2) && (List.range 3).all (chkIx 3) && (List.range 4).all (chkIx 4) && (List.range 5).all (chkIx 5))=true:=by kernel_rfl
theorem ix7:(List.range 7).all (chkIx 7)=true:=by kernel_rfl
theorem ix10:(List.range 10).all (chkIx 10)=true:=by kernel_rfl
def NOk (N:Nat):Prop:=N=2∨N=3∨N=4∨N=5∨N=7∨N=10
theorem ix_ok {N i:Nat} (hN:NOk N) (hi:i<N):chkIx N i=true:=by
 have h2:=ix2
 simp only [Bool.and_eq_true,List.all_eq_true,List.mem_range] at h2
 obtain ⟨⟨⟨a,b⟩,c⟩,d⟩:=h2
 have h7:=ix7
 have h10:=ix10
 simp only [List.all_eq_true,List.mem_range] at h7 h10
 rcases hN with rfl | rfl | rfl | rfl | rfl | rfl
 ·exact a i hi
 ·exact b i hi
 ·exact c i hi
 ·exact d i hi
 ·exact h7 i hi
 ·exact h10 i hi
theorem kx_of [Val] {ρ ρ':Env} {h h':Nat→Option AObj} {n n':Nat} {w w':World} (T:List Nat) (H:HR ρ h n w) (W:WR (PrOf ρ h w) w ρ' h' n' w') (e:Ext n ρ ρ') (hs:∀ id o,h id=some o→(o.sure=true∧h' id=some o)∨∃ g s,ρ id=some (g,s)∧g∈T):KX T w w' :=
 ⟨W.os,W.tape,W.output,W.size,fun k hk hn=>by
  by_cases c:∃ id o s,h id=some o∧ρ id=some (k,s)
  ·obtain ⟨id,o,s,ho,hr⟩:=c
   obtain ⟨g,s1,ob,a1,a2,a3⟩:=H.at_ id o ho
   rw [hr] at a1
   cases a1
   rcases hs id o ho with ⟨h1,h2⟩ | ⟨g,s,h1,h2⟩
   ·obtain ⟨g2,s2,ob2,b1,_,b2,b3⟩:=W.at_ id o h2
    have hid:id<n:=(H.wr' ho)
    rw [e id hid,hr] at b1
    cases b1
    have le:Le ρ ρ':=fun i x hx=>by
     by_cases ci:i<n
     ·rw [e i ci];exact hx
     ·rw [H.fresh i (by omega)] at hx;cases hx
    rw [a2,b2,or_fn h1 (a3.mono le) b3]
   ·rw [hr] at h1
    cases h1
    exact absurd h2 hn
  ·exact W.pr k ⟨hk,fun id o s ho hr=>c ⟨id,o,s,ho,hr⟩⟩⟩
theorem vrs_of [Val] {ρ:Env}:∀ {l:List AV} {xs:List Value},l.length=xs.length→(∀ (j:Nat) (a:AV) (x:Value),l[j]? = some a→xs[j]? = some x→VR ρ a x)→VRs ρ l xs
 | [],[],_,_=>.nil
 | a :: l,x :: xs,h,k=>.cons (k 0 a x rfl rfl) (vrs_of (by simpa using h) fun j b y hb hy=>k (j+1) b y (by simpa using hb) (by simpa using hy))
 | [],_ :: _,h,_=>by simp at h
 | _ :: _,[],h,_=>by simp at h
theorem lRow_len (N i:Nat):(lRow N i).length=N:=by simp [lRow]
theorem sRow_len (N i:Nat) (v:AV):(sRow N i v).length=N:=by simp [sRow]
theorem oRow_len (N i:Nat) (z:Nat→AV):(oRow N i z).length=3 * N:=by simp [oRow]
theorem lRow_get {N i j:Nat} (h:j<N):(lRow N i)[j]? = some (if j=i then .sl 1 0 1 1 else .ly j):=by
 unfold lRow
 rw [List.getElem?_map,List.getElem?_range h,Option.map_some,nbeq,Bool.cond_decide]
theorem sRow_get {N i j:Nat} {v:AV} (h:j<N):(sRow N i v)[j]? = some (if j=i then v else .ly (200+j)):=by
 unfold sRow
 rw [List.getElem?_map,List.getElem?_range h,Option.map_some,nbeq,Bool.cond_decide]
theorem oRow_get {N i j:Nat} {z:Nat→AV} (h:j<3 * N):(oRow N i z)[j]? = some (if j / 3=i then z j else .ly (100+j)):=by
 unfold oRow
 rw [List.getElem?_map,List.getElem?_range h,Option.map_some,nbeq,Bool.cond_decide]
structure IxAt (w:World) (x N:Nat) (us oc sc spl:List Value) (tv:Value) (gl go gs lc:Nat):Prop where
 x:w.heap[x]? = some (.cells #[.bool true,.slice (some ⟨gl,0,none⟩) N (N+lc:Nat),tv,.slice (some ⟨go,0,none⟩) N N,.slice (some ⟨gs,0,none⟩) N N] 156 (0,0))
 l:w.heap[gl]? = some (.cells (us++spl).toArray 36 (0,0))
 ll:us.length=N
 lsp:spl.length=lc
 o:w.heap[go]? = some (.cells oc.toArray 391 (0,0))
 ol:oc.length=3 * N
 s:w.heap[gs]? = some (.cells sc.toArray 281 (0,0))
 sl:sc.length=N
 one:(∀ v∈us,v.oneCell'=true)∧(∀ v∈oc,v.oneCell'=true)∧(∀ v∈sc,v.oneCell'=true)∧tv.oneCell'=true
def Fresh (oc sc:List Value) (i:Nat):Prop:=oc[3 * i]? = some (.int .u32 0)∧oc[3 * i+1]? = some (.int .i32 0)∧oc[3 * i+2]? = some (.int .u32 0)∧sc[i]? = some (.pointer none)
def SlabIs (w:World) (g:Nat) (a b c d:Int):Prop:=∃ h f e k1 k2 k3 sp1 sp2 sp3,w.heap[g]? = some (.cells #[.bool true,.slice (some ⟨h,0,none⟩) 2 (4+k1:Nat),.slice (some ⟨f,0,none⟩) 2 (2+k2:Nat),.slice (some ⟨e,0,none⟩) 2 (2+k3:Nat)] 472 (0,0)) ∧
 w.heap[h]? = some (.cells ([.int .i64 b,.int .i64 d,.int .i64 0,.int .i64 0]++sp1).toArray 3 (0,0))∧sp1.length=k1 ∧
 w.heap[f]? = some (.cells ([.int .i64 0,.int .i64 2]++sp2).toArray 3 (0,0))∧sp2.length=k2 ∧
 w.heap[e]? = some (.cells ([.int .i64 c,.int .i64 b,.int .i64 c,.int .i64 d,.int .i64 a,.int .i64 b,.int .i64 a,.int .i64 d]++sp3).toArray 476 (0,0))∧sp3.length=k3 * 4∧h≠f
@[reducible] def ixVal (a b c d:Int) (us oc sc:List Value) (tv:Value) (sp0 sp1 spl:List Value):Val :=
 ⟨fun | 0=>a | 1=>b | 2=>c | 3=>d | 4=>a | _=>b,fun c=>if c<100 then us.getD c (.pointer none) else if c<200 then oc.getD (c - 100) (.pointer none) else if c<300 then sc.getD (c - 200) (.pointer none) else tv,
 fun | 0=>sp0 | 1=>sp1 | _=>spl,fun _ _=>True,fun _ _ _ _ _ _ _=>trivial⟩
theorem six {P:Nat→Prop} (h0:P 0) (h1:P 1) (h2:P 2) (h3:P 3) (h4:P 4) (h5:P 5) (a:Nat) (ha:a<6):P a:=by
 have:a=0∨a=1∨a=2∨a=3∨a=4∨a=5:=by omega
 rcases this with rfl | rfl | rfl | rfl | rfl | rfl <;> assumption
theorem lies11 [Val] (B:BoxV) (h4:Val.val 4=Val.val 0) (h5:Val.val 5=Val.val 1):Lies 6 1 1 where
 lt a b ha hb:=by
  obtain ⟨hx,hy,bd⟩:=B
  revert b
  refine six (P:=fun a=>∀ b,b<6→a % 2=b % 2→smp 1 1 a<smp 1 1 b→Val.val a<Val.val b) ?_ ?_ ?_ ?_ ?_ ?_ a ha <;> refine six ?_ ?_ ?_ ?_ ?_ ?_ <;> intro hp hs <;> first
   | omega
   | (exfalso;revert hp;decide)
   | (exfalso;revert hs;decide)
 eq a b ha hb:=by
  obtain ⟨hx,hy,bd⟩:=B
  revert b
  refine six (P:=fun a=>∀ b,b<6→a % 2=b % 2→smp 1 1 a=smp 1 1 b→Val.val a=Val.val b) ?_ ?_ ?_ ?_ ?_ ?_ a ha <;> refine six ?_ ?_ ?_ ?_ ?_ ?_ <;> intro hp hs <;> first
   | rfl
   | omega
   | (exfalso;revert hp;decide)
   | (exfalso;revert hs;decide)
 bd a ha:=by
  obtain ⟨hx,hy,bd⟩:=B
  have b0:=bd 0 (by omega);have b1:=bd 1 (by omega);have b2:=bd 2 (by omega);have b3:=bd 3 (by omega)
  refine six (P:=fun a=>-1048576<Val.val a∧Val.val a<1048576) b0 b1 b2 b3 (by rw [h4];exact b0) (by rw [h5];exact b1) a ha
def ixB (b1 b2 c1 c2 gl go gs x lc:Nat):List (Nat×Nat):=[(b2,c2),(b1,c1),(gl,lc),(go,0),(gs,0),(x,0)]
section
variable {w:World} {x N i:Nat} {us oc sc spl sp1 sp2:List Value} {tv u:Value} {gl go gs lc b1 b2 c1 c2:Nat} {a b c d:Int}
theorem ix_hr (I:IxAt w x N us oc sc spl tv gl go gs lc) (hN:N≤30) (hi:i<N) (hu:us[i]? = some u) (R:RgAt w u a b c d b1 b2 c1 c2 sp1 sp2) (F:Fresh oc sc i) :
  letI:Val:=ixVal a b c d us oc sc tv sp2 sp1 spl
  HR (fun j=>(ixB b1 b2 c1 c2 gl go gs x lc)[j]?) (S.ofL (ixL N i)).h.get (S.ofL (ixL N i)).nx w:=by
 letI:Val:=ixVal a b c d us oc sc tv sp2 sp1 spl
 obtain ⟨rfl,r2,r3,r4,r5⟩:=R
 obtain ⟨f1,f2,f3,f4⟩:=F
 obtain ⟨hx,hl,hll,hlsp,ho,hol,hs,hsl,o1,o2,o3,o4⟩:=I
 refine HR.ofL (by simp [ixL,ixB]) (by simp [ixL]) (fun k o hk=>?_) (fun p q o o' g s s' hp hq ep eq=>?_)
 ·rcases k with _ | _ | _ | _ | _ | _ | k
  ·cases hk;exact ⟨b2,c2,_,rfl,r4,.row (lRing_vr _) r5 (by decide) rfl⟩
  ·cases hk;exact ⟨b1,c1,_,rfl,r2,.row (.cons (.sl (by rfl)) .nil) (by omega) (by decide) rfl⟩
  ·cases hk
   refine ⟨gl,lc,_,rfl,hl,.row (vrs_of (by rw [lRow_len,hll]) fun j y v hy hv=>?_) (by omega) (fun y hy=>?_) rfl⟩
   ·have hj:j<N:=by have:=(List.getElem?_eq_some_iff.1 hy).1;rwa [lRow_len] at this
    rw [lRow_get hj] at hy
    cases hy
    by_cases e:j=i
    ·subst e;rw [if_pos rfl];rw [hu] at hv;cases hv;exact .sl (by rfl)
    ·rw [if_neg e]
     have hvv:Val.vv j=v:=by
      show (if j<100 then us.getD j (.pointer none) else _)=v
      rw [if_pos (by omega),List.getD_eq_getElem?_getD,hv];rfl
     have:=o1 v (List.mem_of_getElem? hv)
     rw [← hvv] at this ⊢
     exact .ly j this
   ·unfold lRow at hy
    simp only [List.mem_map,List.mem_range] at hy
    obtain ⟨j,_,rfl⟩:=hy
    cases Nat.beq j i <;> rfl
  ·cases hk
   have ho':w.heap[go]? = some (.cells (oc++[]).toArray 391 (0,0)):=by rw [List.append_nil];exact ho
   refine ⟨go,0,_,rfl,ho',.row (vrs_of (by rw [oRow_len,hol]) fun j y v hy hv=>?_) (by simp) (fun y hy=>?_) rfl⟩
   ·have hj:j<3 * N:=by have:=(List.getElem?_eq_some_iff.1 hy).1;rwa [oRow_len] at this
    rw [oRow_get hj] at hy
    cases hy
    by_cases e:j / 3=i
    ·rw [if_pos e]
     have:j=3 * i∨j=3 * i+1∨j=3 * i+2:=by omega
     rcases this with rfl | rfl | rfl
     ·rw [f1] at hv;cases hv
      rw [show zOnce (3 * i)=.i .u32 0 by unfold zOnce;rw [show 3 * i % 3=0 by omega];rfl]
      exact .i _ _
     ·rw [f2] at hv;cases hv
      rw [show zOnce (3 * i+1)=.i .i32 0 by unfold zOnce;rw [show (3 * i+1) % 3=1 by omega];rfl]
      exact .i _ _
     ·rw [f3] at hv;cases hv
      rw [show zOnce (3 * i+2)=.i .u32 0 by unfold zOnce;rw [show (3 * i+2) % 3=2 by omega];rfl]
      exact .i _ _
    ·rw [if_neg e]
     have hvv:Val.vv (100+j)=v:=by
      show (if 100+j<100 then _ else if 100+j<200 then oc.getD (100+j - 100) (.pointer none) else _)=v
      rw [if_neg (by omega),if_pos (by omega),List.getD_eq_getElem?_getD,show 100+j - 100=j by omega,hv];rfl
     have:=o2 v (List.mem_of_getElem? hv)
     rw [← hvv] at this ⊢
     exact .ly _ this
   ·unfold oRow at hy
    simp only [List.mem_map,List.mem_range] at hy
    obtain ⟨j,_,rfl⟩:=hy
    cases Nat.beq (j / 3) i
    ·rfl
    ·show (zOnce j).one=true
     unfold zOnce
     cases Nat.beq (j % 3) 1 <;> rfl
  ·cases hk
   have hs':w.heap[gs]? = some (.cells (sc++[]).toArray 281 (0,0)):=by rw [List.append_nil];exact hs
   refine ⟨gs,0,_,rfl,hs',.row (vrs_of (by rw [sRow_len,hsl]) fun j y v hy hv=>?_) (by simp) (fun y hy=>?_) rfl⟩
   ·have hj:j<N:=by have:=(List.getElem?_eq_some_iff.1 hy).1;rwa [sRow_len] at this
    rw [sRow_get hj] at hy
    cases hy
    by_cases e:j=i
    ·subst e;rw [if_pos rfl];rw [f4] at hv;cases hv;exact .p0
    ·rw [if_neg e]
     have hvv:Val.vv (200+j)=v:=by
      show (if 200+j<100 then _ else if 200+j<200 then _ else if 200+j<300 then sc.getD (200+j - 200) (.pointer none) else _)=v
      rw [if_neg (by omega),if_neg (by omega),if_pos (by omega),List.getD_eq_getElem?_getD,show 200+j - 200=j by omega,hv];rfl
     have:=o3 v (List.mem_of_getElem? hv)
     rw [← hvv] at this ⊢
     exact .ly _ this
   ·unfold sRow at hy
    simp only [List.mem_map,List.mem_range] at hy
    obtain ⟨j,_,rfl⟩:=hy
    cases Nat.beq j i <;> rfl
  ·cases hk
   refine ⟨x,0,_,rfl,hx,OR.row (cs:=[.bool true,.slice (some ⟨gl,0,none⟩) N (N+lc:Nat),tv,.slice (some ⟨go,0,none⟩) N N,.slice (some ⟨gs,0,none⟩) N N]) (ds:=[]) (.cons (.b _) (.cons (.sl (by rfl)) (.cons (.ly 300 o4) (.cons (.sl (s:=0) (by rfl)) (.cons (.sl (s:=0) (by rfl)) .nil))))) rfl (by intro y hy;simp [xRow] at hy;rcases hy with rfl | rfl | rfl | rfl | rfl <;> rfl) rfl⟩
  ·simp [ixL] at hk
 ·have key:∀ k g s,(ixB b1 b2 c1 c2 gl go gs x lc)[k]? = some (g,s)→k<6∧∃ cs,w.heap[g]? = some (.cells cs ([53, 71, 36, 391, 281, 156].getD k 0) (0,0)):=fun k g s hk=>by
   rcases k with _ | _ | _ | _ | _ | _ | k
   ·cases hk;exact ⟨by omega,_,r4⟩
   ·cases hk;exact ⟨by omega,_,r2⟩
   ·cases hk;exact ⟨by omega,_,hl⟩
   ·cases hk;exact ⟨by omega,_,ho⟩
   ·cases hk;exact ⟨by omega,_,hs⟩
   ·cases hk;exact ⟨by omega,_,hx⟩
   ·simp [ixB] at hk
  obtain ⟨l1,cs1,h1⟩:=key p g s ep
  obtain ⟨l2,cs2,h2⟩:=key q g s' eq
  rw [h1] at h2
  simp only [Option.some.injEq,Obj.cells.injEq] at h2
  have inj:∀ p,p<6→∀ q,q<6→([53, 71, 36, 391, 281, 156]:List Nat).getD p 0=([53, 71, 36, 391, 281, 156]:List Nat).getD q 0→p=q:=by decide
  exact inj p l1 q l2 h2.2.1
end
theorem four {P:Nat→Prop} (h0:P 0) (h1:P 1) (h2:P 2) (h3:P 3) (a:Nat) (ha:a<4):P a:=by
 have:a=0∨a=1∨a=2∨a=3:=by omega
 rcases this with rfl | rfl | rfl | rfl <;> assumption
theorem row_no [Val] {Pr:Nat→Prop} {w0 w:World} {ρ:Env} {h:Nat→Option AObj} {nx id e sz:Nat} {l:List AV} (W:WR Pr w0 ρ h nx w) (hi:h id=some (.row l e sz .no)):∃ b cs,ρ id=some (b,0)∧w.heap[b]? = some (.cells cs.toArray e (0,0))∧VRs ρ l cs∧∀ v∈cs,v.oneCell'=true:=by
 obtain ⟨b,s,cs,ds,h1,h2,h3,h4,h5,h6⟩:=W.row hi
 have h6:s=0:=h6
 subst h6
 have:ds=[]:=List.eq_nil_of_length_eq_zero (by rw [h4];simp)
 subst this
 rw [List.append_nil] at h2
 exact ⟨b,cs,h1,h2,h3,h3.ones h5⟩
section
variable {w:World} {x N i:Nat} {us oc sc spl sp1 sp2:List Value} {tv u:Value} {gl go gs lc b1 b2 c1 c2:Nat} {a b c d:Int}
theorem slabs_any (I:IxAt w x N us oc sc spl tv gl go gs lc) (hN:NOk N) (hi:i<N) (hu:us[i]? = some u) (R:RgAt w u a b c d b1 b2 c1 c2 sp1 sp2) (F:Fresh oc sc i) (hx:a<c) (hy:b<d)
  (ba:-1048576<a∧a<1048576) (bb:-1048576<b∧b<1048576) (bc:-1048576<c∧c<1048576) (bd:-1048576<d∧d<1048576) :
  Calls Tryz.prog 143 #[.pointer (some ⟨x,0,none⟩),.int .i64 i] w fun e w'=>∃ g oc' sc',e=.returned (.pointer (some ⟨g,0,none⟩))∧SlabIs w' g a b c d∧IxAt w' x N us oc' sc' spl tv gl go gs lc ∧
   (∀ j,j / 3≠i→oc'[j]? = oc[j]?)∧(∀ j,j≠i→sc'[j]? = sc[j]?)∧KX [go,gs] w w':=by
 letI:Val:=ixVal a b c d us oc sc tv sp2 sp1 spl
 have B:BoxV:=⟨hx,hy,fun k hk=>four (P:=fun k=>-1048576<Val.val k∧Val.val k<1048576) ba bb bc bd k hk⟩
 have L:Lies 6 1 1:=lies11 B rfl rfl
 obtain ⟨st1,hrun,hend⟩:=ends_ok (ix_ok hN hi)
 have hN30:N≤30:=by rcases hN with h | h | h | h | h | h <;> omega
 have H:=ix_hr I hN30 hi hu R F
 have hr:=run_calls (tbOk (orcB 1) (letS L)) (xok fun _ _ _ _ _ h=>orcB_ok B L h) hrun Tryz.func143 (by kernel_rfl) rfl H trivial (vs:=[.pointer (some ⟨x,0,none⟩),.int .i64 i]) (.cons (.p (s:=0) (by rfl)) (.cons (.i _ _) .nil))
 refine hr.mono ?_
 rintro e w' ⟨v,ρ',rfl,hv,hext,W'⟩
 unfold endIx at hend
 simp only [Bool.and_eq_true] at hend
 obtain ⟨q0,q1,q2,q3,q4,q5,q6,q7,q8,q9⟩:=hend
 replace q0:=rowIs_ok q0
 replace q1:=rowIs_ok q1
 replace q2:=rowIs_ok q2
 replace q3:=rowIs_ok q3
 replace q4:=rowIs_ok q4
 replace q5:=rowIs_ok q5
 replace q6:=rowIs_ok q6
 replace q7:=rowIs_ok q7
 replace q8:=rowIs_ok q8
 replace q9:=rowIs_ok q9
 have hx0:=I.x
 have ho0:=I.o
 have hs0:=I.s
 have hl0:=I.l
 have n1:x≠go:=fun e=>by rw [e,ho0] at hx0;simp at hx0
 have n2:x≠gs:=fun e=>by rw [e,hs0] at hx0;simp at hx0
 have n3:gl≠go:=fun e=>by rw [e,ho0] at hl0;simp at hl0
 have n4:gl≠gs:=fun e=>by rw [e,hs0] at hl0;simp at hl0
 have K:KX [go,gs] w w':=kx_of [go,gs] H W' hext (fun id o ho=>by
  have ho:=ofL_some (by simp [ixL]) ho
  rcases id with _ | _ | _ | _ | _ | _ | id
  ·cases ho;exact .inl ⟨by decide,q0⟩
  ·cases ho;exact .inl ⟨by decide,q1⟩
  ·cases ho
   refine .inl ⟨?_,q2⟩
   show (lRow N i).all AV.sure=true
   simp only [lRow,List.all_map,List.all_eq_true,List.mem_range,Function.comp]
   intro j hj
   cases Nat.beq j i <;> rfl
  ·exact .inr ⟨go,0,rfl,by simp⟩
  ·exact .inr ⟨gs,0,rfl,by simp⟩
  ·cases ho;exact .inl ⟨rfl,q5⟩
  ·simp [ixL] at ho)
 obtain ⟨bo,oc',z1,z2,z3,z4⟩:=row_no W' q3
 rw [hext 3 (by show 3<(ixL N i).length;simp [ixL])] at z1
 cases z1
 obtain ⟨bs,sc',y1,y2,y3,y4⟩:=row_no W' q4
 rw [hext 4 (by show 4<(ixL N i).length;simp [ixL])] at y1
 cases y1
 cases hv with
 | @p _ _ g s hg =>
  obtain ⟨g',gc,k1,k2,k3,k4⟩:=row_no W' q6
  rw [k1] at hg
  cases hg
  obtain ⟨h7,s7,cs7,ds7,m1,m2,m3,m4,m5,m6⟩:=W'.row q7
  obtain ⟨h8,s8,cs8,ds8,p1,p2,p3,p4,p5,p6⟩:=W'.row q8
  obtain ⟨h9,s9,cs9,ds9,r1,r2,r3,r4,r5,r6⟩:=W'.row q9
  have hne:h7≠h8:=fun e=>by
   subst e
   have:=W'.inj _ _ _ _ _ _ _ q7 q8 m1 p1
   omega
  refine ⟨g,oc',sc',rfl,?_,?_,?_,?_,K⟩
  ·have e1:gc=[.bool true,.slice (some ⟨h7,0,none⟩) 2 (4+s7:Nat),.slice (some ⟨h8,0,none⟩) 2 (2+s8:Nat),.slice (some ⟨h9,0,none⟩) 2 (2+s9:Nat)]:=sure_fn (by decide) k3 (.cons (.b _) (.cons (.sl m1) (.cons (.sl p1) (.cons (.sl r1) .nil))))
   have e2:cs7=[.int .i64 b,.int .i64 d,.int .i64 0,.int .i64 0]:=sure_fn (l:=hRow) (by decide) m3 (.cons (.lx .i64 1) (.cons (.lx .i64 3) (.cons (.i _ _) (.cons (.i _ _) .nil))))
   have e3:cs8=[.int .i64 0,.int .i64 2]:=sure_fn (l:=fRow) (by decide) p3 (.cons (.i _ _) (.cons (.i _ _) .nil))
   have e4:cs9=[.int .i64 c,.int .i64 b,.int .i64 c,.int .i64 d,.int .i64 a,.int .i64 b,.int .i64 a,.int .i64 d]:=sure_fn (l:=eRow) (by decide) r3 (.cons (.lx .i64 2) (.cons (.lx .i64 1) (.cons (.lx .i64 2) (.cons (.lx .i64 3) (.cons (.lx .i64 0) (.cons (.lx .i64 1) (.cons (.lx .i64 0) (.cons (.lx .i64 3) .nil))))))))
   subst e1 e2 e3 e4
   exact ⟨h7,h8,h9,s7,s8,s9,ds7,ds8,ds9,k2,m2,by omega,p2,by omega,r2,by omega,hne⟩
  ·refine ⟨K.row I.x (by simp [n1,n2]),K.row I.l (by simp [n3,n4]),I.ll,I.lsp,z2,?_,y2,?_,I.one.1,z4,y4,I.one.2.2.2⟩
   ·rw [← z3.len,oRow_len]
   ·rw [← y3.len,sRow_len]
  ·intro j hj
   by_cases hlt:j<3 * N
   ·have hg:=oRow_get (i:=i) (z:=dOnce) hlt
    rw [if_neg hj] at hg
    obtain ⟨v,v1,v2⟩:=z3.get hg
    rw [v1]
    cases v2
    have hj2:j<oc.length:=by rw [I.ol];exact hlt
    rw [List.getElem?_eq_getElem hj2]
    show some (if 100+j<100 then _ else if 100+j<200 then oc.getD (100+j - 100) (.pointer none) else _)=_
    rw [if_neg (by omega),if_pos (by omega),List.getD_eq_getElem?_getD,show 100+j - 100=j by omega,List.getElem?_eq_getElem hj2]
    rfl
   ·rw [List.getElem?_eq_none (by rw [← z3.len,oRow_len];omega),List.getElem?_eq_none (by rw [I.ol];omega)]
  ·intro j hj
   by_cases hlt:j<N
   ·have hg:=sRow_get (i:=i) (v:=.p 37 0) hlt
    rw [if_neg hj] at hg
    obtain ⟨v,v1,v2⟩:=y3.get hg
    rw [v1]
    cases v2
    have hj2:j<sc.length:=by rw [I.sl];exact hlt
    rw [List.getElem?_eq_getElem hj2]
    show some (if 200+j<100 then _ else if 200+j<200 then _ else if 200+j<300 then sc.getD (200+j - 200) (.pointer none) else _)=_
    rw [if_neg (by omega),if_neg (by omega),if_pos (by omega),List.getD_eq_getElem?_getD,show 200+j - 200=j by omega,List.getElem?_eq_getElem hj2]
    rfl
   ·rw [List.getElem?_eq_none (by rw [← y3.len,sRow_len];omega),List.getElem?_eq_none (by rw [I.sl];omega)]
end
def inL:List (Option AObj):=[some (.row hRow 3 1 (.told 0)),some (.row fRow 3 1 (.told 1)),some (.row eRow 476 4 (.told 2)),some (.row (gRow 0 1 2) 472 4 .no)]
def inside (cx cy:Nat):Bool:=(Nat.beq cx 1 || Nat.beq cx 2) && (Nat.beq cy 1 || Nat.beq cy 2)
noncomputable def keep4 (st:S):Bool:=rowIs st 0 hRow 3 1 (.told 0) && (rowIs st 1 fRow 3 1 (.told 1) && (rowIs st 2 eRow 476 4 (.told 2) && rowIs st 3 (gRow 0 1 2) 472 4 .no))
noncomputable def chkIn (cx cy:Nat):Bool:=ends (run (tbB 6 cx cy) 300 144 [.p 3 0,.agg [.lx .i64 4,.lx .i64 5]] (S.ofL inL)) (.b (inside cx cy)) keep4
theorem inAll:((List.range 5).all fun cx=>(List.range 5).all (chkIn cx))=true:=by kernel_rfl
theorem in_ok {cx cy:Nat} (hx:cx<5) (hy:cy<5):chkIn cx cy=true:=by
 have h:=inAll
 simp only [List.all_eq_true,List.mem_range] at h
 exact h cx hx cy hy
def Rel (k:Nat) (p a c:Int):Prop:=match k with
 | 0=>p<a
 | 1=>p=a
 | 2=>a<p∧p<c
 | 3=>p=c
 | _=>c<p
theorem rel_some (p a c:Int) (h:a<c):∃ k,k<5∧Rel k p a c∧(Nat.beq k 1 || Nat.beq k 2)=decide (a≤p∧p<c):=by
 by_cases h0:p<a
 ·exact ⟨0,by omega,h0,by rw [decide_eq_false (by omega)];rfl⟩
 ·by_cases h1:p=a
  ·exact ⟨1,by omega,h1,by rw [decide_eq_true (by omega)];rfl⟩
  ·by_cases h2:p<c
   ·exact ⟨2,by omega,⟨by omega,h2⟩,by rw [decide_eq_true (by omega)];rfl⟩
   ·by_cases h3:p=c
    ·exact ⟨3,by omega,h3,by rw [decide_eq_false (by omega)];rfl⟩
    ·exact ⟨4,by omega,(show c<p by omega),by rw [decide_eq_false (by omega)];rfl⟩
theorem rel_lies {k:Nat} (hk:k<5) {p a c:Int} (h:a<c) (hr:Rel k p a c):(5 * (k+1)<10→p<a)∧(5 * (k+1)=10→p=a)∧(10<5 * (k+1)→a<p)∧(5 * (k+1)<20→p<c)∧(5 * (k+1)=20→p=c)∧(20<5 * (k+1)→c<p):=by
 have:k=0∨k=1∨k=2∨k=3∨k=4:=by omega
 rcases this with rfl | rfl | rfl | rfl | rfl <;> simp only [Rel] at hr <;> refine ⟨fun q=>?_,fun q=>?_,fun q=>?_,fun q=>?_,fun q=>?_,fun q=>?_⟩ <;> omega
theorem lies_in [Val] (B:BoxV) {cx cy:Nat} (hx:cx<5) (hy:cy<5) (rx:Rel cx (Val.val 4) (Val.val 0) (Val.val 2)) (ry:Rel cy (Val.val 5) (Val.val 1) (Val.val 3)) (b4:-1048576<Val.val 4∧Val.val 4<1048576) (b5:-1048576<Val.val 5∧Val.val 5<1048576):Lies 6 cx cy:=by
 obtain ⟨x1,x2,x3,x4,x5,x6⟩:=rel_lies hx B.x rx
 obtain ⟨y1,y2,y3,y4,y5,y6⟩:=rel_lies hy B.y ry
 have hbx:=B.x
 have hby:=B.y
 have bd:=B.bd
 clear rx ry B
 refine ⟨fun a b ha hb=>?_,fun a b ha hb=>?_,six (P:=fun a=>-1048576<Val.val a∧Val.val a<1048576) (bd 0 (by omega)) (bd 1 (by omega)) (bd 2 (by omega)) (bd 3 (by omega)) b4 b5⟩
 ·revert b
  refine six (P:=fun a=>∀ b,b<6→a % 2=b % 2→smp cx cy a<smp cx cy b→Val.val a<Val.val b) ?_ ?_ ?_ ?_ ?_ ?_ a ha <;> refine six ?_ ?_ ?_ ?_ ?_ ?_ <;> intro hp hs <;> first
   | (exfalso;revert hp;decide)
   | (exfalso;exact absurd hs (Nat.lt_irrefl _))
   | (exfalso;revert hs;simp only [smp];decide)
   | (simp only [smp] at hs;first | omega | exact x1 hs | exact x3 hs | exact x4 hs | exact x6 hs | exact y1 hs | exact y3 hs | exact y4 hs | exact y6 hs)
 ·revert b
  refine six (P:=fun a=>∀ b,b<6→a % 2=b % 2→smp cx cy a=smp cx cy b→Val.val a=Val.val b) ?_ ?_ ?_ ?_ ?_ ?_ a ha <;> refine six ?_ ?_ ?_ ?_ ?_ ?_ <;> intro hp hs <;> first
   | rfl
   | (exfalso;revert hp;decide)
   | (exfalso;revert hs;simp only [smp];decide)
   | (simp only [smp] at hs;first | exact x2 hs | exact x5 hs | exact y2 hs | exact y5 hs | exact (x2 hs.symm).symm | exact (x5 hs.symm).symm | exact (y2 hs.symm).symm | exact (y5 hs.symm).symm | omega)
@[reducible] def inVal (a b c d px py:Int) (sp0 sp1 sp2:List Value):Val :=
 ⟨fun | 0=>a | 1=>b | 2=>c | 3=>d | 4=>px | _=>py,fun _=>.pointer none,fun | 0=>sp0 | 1=>sp1 | _=>sp2,fun _ _=>True,fun _ _ _ _ _ _ _=>trivial⟩
theorem in_any {w:World} {g:Nat} {a b c d px py:Int} (hs:SlabIs w g a b c d) (hx:a<c) (hy:b<d) (ba:-1048576<a∧a<1048576) (bb:-1048576<b∧b<1048576) (bc:-1048576<c∧c<1048576) (bd:-1048576<d∧d<1048576)
  (bx:-1048576<px∧px<1048576) (by_:-1048576<py∧py<1048576) :
  Calls Tryz.prog 144 #[.pointer (some ⟨g,0,none⟩),.agg #[.int .i64 px,.int .i64 py]] w fun e w'=>e=.returned (.bool (decide (a≤px∧px<c) && decide (b≤py∧py<d)))∧Kp w w':=by
 obtain ⟨h,f,e,k1,k2,k3,sp1,sp2,sp3,h1,h2,h3,h4,h5,h6,h7,hne⟩:=hs
 obtain ⟨cx,lx,rx,ex⟩:=rel_some px a c hx
 obtain ⟨cy,ly,ry,ey⟩:=rel_some py b d hy
 letI:Val:=inVal a b c d px py sp1 sp2 sp3
 have B:BoxV:=⟨hx,hy,fun k hk=>four (P:=fun k=>-1048576<Val.val k∧Val.val k<1048576) ba bb bc bd k hk⟩
 have L:Lies 6 cx cy:=lies_in B lx ly rx ry bx by_
 obtain ⟨st1,hrun,hend⟩:=ends_ok (in_ok lx ly)
 have H:HR (fun j=>[(h,k1),(f,k2),(e,k3),(g,0)][j]?) (S.ofL inL).h.get (S.ofL inL).nx w:=by
  refine HR.ofL rfl (by decide) (fun k o hk=>?_) (fun p q o o' g1 s s' hp hq ep eq=>?_)
  ·rcases k with _ | _ | _ | _ | k
   ·cases hk;exact ⟨h,k1,_,rfl,h2,.row (.cons (.lx .i64 1) (.cons (.lx .i64 3) (.cons (.i _ _) (.cons (.i _ _) .nil)))) (by omega) (by decide) rfl⟩
   ·cases hk;exact ⟨f,k2,_,rfl,h4,.row (.cons (.i _ _) (.cons (.i _ _) .nil)) (by omega) (by decide) rfl⟩
   ·cases hk;exact ⟨e,k3,_,rfl,h6,.row (.cons (.lx .i64 2) (.cons (.lx .i64 1) (.cons (.lx .i64 2) (.cons (.lx .i64 3) (.cons (.lx .i64 0) (.cons (.lx .i64 1) (.cons (.lx .i64 0) (.cons (.lx .i64 3) .nil)))))))) (by omega) (by decide) rfl⟩
   ·cases hk
    exact ⟨g,0,_,rfl,h1,OR.row (cs:=[.bool true,.slice (some ⟨h,0,none⟩) 2 (4+k1:Nat),.slice (some ⟨f,0,none⟩) 2 (2+k2:Nat),.slice (some ⟨e,0,none⟩) 2 (2+k3:Nat)]) (ds:=[]) (.cons (.b _) (.cons (.sl (by rfl)) (.cons (.sl (by rfl)) (.cons (.sl (by rfl)) .nil)))) rfl (by decide) rfl⟩
   ·simp [inL] at hk
  ·have key:∀ k g1 s,[(h,k1),(f,k2),(e,k3),(g,0)][k]? = some (g1,s)→k<4∧∃ cs,w.heap[g1]? = some (.cells cs ([3, 3, 476, 472].getD k 0) (0,0)):=fun k g1 s hk=>by
    rcases k with _ | _ | _ | _ | k
    ·cases hk;exact ⟨by omega,_,h2⟩
    ·cases hk;exact ⟨by omega,_,h4⟩
    ·cases hk;exact ⟨by omega,_,h6⟩
    ·cases hk;exact ⟨by omega,_,h1⟩
    ·simp at hk
   obtain ⟨l1,cs1,z1⟩:=key p g1 s ep
   obtain ⟨l2,cs2,z2⟩:=key q g1 s' eq
   rw [z1] at z2
   simp only [Option.some.injEq,Obj.cells.injEq] at z2
   have inj:∀ p,p<4→∀ q,q<4→([3, 3, 476, 472]:List Nat).getD p 0=([3, 3, 476, 472]:List Nat).getD q 0→p=q∨(p=0∧q=1)∨(p=1∧q=0):=by decide
   rcases inj p l1 q l2 z2.2.1 with h | ⟨rfl,rfl⟩ | ⟨rfl,rfl⟩
   ·exact h
   ·cases ep;cases eq;exact absurd rfl hne
   ·cases ep;cases eq;exact absurd rfl hne
 have hr:=run_calls (tbOk (orcB cx) (letS L)) (xok fun _ _ _ _ _ h=>orcB_ok B L h) hrun Tryz.func144 (by kernel_rfl) rfl H trivial (vs:=[.pointer (some ⟨g,0,none⟩),.agg #[.int .i64 px,.int .i64 py]]) (.cons (.p (s:=0) (by rfl)) (.cons (.agg (xs:=[_,_]) (.cons (.lx .i64 4) (.cons (.lx .i64 5) .nil))) .nil))
 refine hr.mono ?_
 rintro en w' ⟨v,ρ',rfl,hv,hext,W'⟩
 unfold keep4 at hend
 simp only [Bool.and_eq_true] at hend
 obtain ⟨q0,q1,q2,q3⟩:=hend
 refine ⟨?_,kp_of H W' hext fun id o ho=>?_⟩
 ·cases hv
  unfold inside
  rw [ex,ey]
 ·have ho:=ofL_some (by decide) ho
  rcases id with _ | _ | _ | _ | id
  ·cases ho;exact ⟨by decide,rowIs_ok q0⟩
  ·cases ho;exact ⟨by decide,rowIs_ok q1⟩
  ·cases ho;exact ⟨by decide,rowIs_ok q2⟩
  ·cases ho;exact ⟨by decide,rowIs_ok q3⟩
  ·simp [inL] at ho
end Go.Ex
