import Derived.Test.YtgliljnbajohhaaGreatDoorQ31
set_option linter.unusedVariables false
set_option linter.unusedSimpArgs false
namespace Go.Ex
open Go Go.RowKit
theorem memb_iff (k:Nat) (l:List Nat):memb k l=true↔k∈l:=by
 induction l with
 | nil=>exact ⟨fun h=>(by cases h),fun h=>(by cases h)⟩
 | cons x l ih =>
  have h:memb k (x :: l)=Bool.rec (memb k l) true (Nat.beq x k):=rfl
  rw [h,nbeq]
  by_cases c:x=k
  ·subst c;simp
  ·have c':¬ k=x:=fun e=>c e.symm
   simp [c,c',ih]
theorem nbt {a b:Nat} (h:Nat.beq a b=true):a=b:=Nat.eq_of_beq_eq_true h
mutual
theorem AV.beq_eq (a b:AV) (h:AV.beq a b=true):a=b:=by
 cases a <;> cases b <;> first
  | exact absurd (show false=true from h) (by decide)
  | rfl
  | (simp only [AV.beq,Bool.and_eq_true,decide_eq_true_eq,beq_iff_eq] at h;skip)
 case b.b x y=>rw [h]
 case i.i=>rw [h.1,h.2]
 case s.s=>rw [h]
 case p.p=>rw [nbt h.1,nbt h.2]
 case sl.sl=>rw [nbt h.1.1.1,nbt h.1.1.2,nbt h.1.2,nbt h.2]
 case m.m=>rw [nbt h]
 case f.f=>rw [nbt h.1.1,AV.beqs_eq _ _ h.1.2,AV.beqs_eq _ _ h.2]
 case ifc.ifc=>rw [nbt h.1,AV.beq_eq _ _ h.2]
 case agg.agg=>rw [AV.beqs_eq _ _ h]
 case tup.tup=>rw [AV.beqs_eq _ _ h]
 case lx.lx=>rw [h.1,nbt h.2]
 case ly.ly=>rw [nbt h]
theorem AV.beqs_eq (a b:List AV) (h:AV.beqs a b=true):a=b:=by
 cases a with
 | nil =>
  cases b with
  | nil=>rfl
  | cons y r=>simp [AV.beqs] at h
 | cons x l =>
  cases b with
  | nil=>simp [AV.beqs] at h
  | cons y r =>
   simp only [AV.beqs,Bool.and_eq_true] at h
   rw [AV.beq_eq _ _ h.1,AV.beqs_eq _ _ h.2]
end
theorem ancs_spec:∀ (l:List Oper) (acc:List (List Nat)),(∃ t,ancs l acc=acc++t)∧∀ (j:Nat) (o:Oper),l[j]? = some o→∀ x∈((ancs l acc)[acc.length+j]?).getD [],
  ∃ e∈o.after.toList,Region.binds .any e=true∧(x=e.on∨x∈((ancs l acc)[e.on]?).getD [])
 | [],acc=>⟨⟨[],by simp [ancs]⟩,fun j o h=>by simp at h⟩
 | o :: r,acc=>by
  let X:=o.after.toList.flatMap fun e=>if Region.binds .any e then e.on :: (acc[e.on]?).getD [] else []
  have hs:ancs (o :: r) acc=ancs r (acc++[X]):=rfl
  obtain ⟨⟨t,ht⟩,hr⟩:=ancs_spec r (acc++[X])
  rw [hs]
  refine ⟨⟨X :: t,by rw [ht];simp⟩,fun j o' hj x hx=>?_⟩
  cases j with
  | zero =>
   simp at hj
   subst hj
   have e1:((acc++[X])++t)[acc.length+0]? = some X:=by simp
   rw [ht,e1] at hx
   simp only [Option.getD_some] at hx
   obtain ⟨e,he,hxe⟩:=List.mem_flatMap.1 hx
   by_cases hb:Region.binds .any e=true
   ·rw [if_pos hb] at hxe
    refine ⟨e,he,hb,?_⟩
    rcases List.mem_cons.1 hxe with h | h
    ·exact .inl h
    ·right
     rw [ht]
     by_cases hl:e.on<acc.length
     ·have:((acc++[X])++t)[e.on]? = acc[e.on]?:=by rw [List.append_assoc,List.getElem?_append_left hl]
      rw [this];exact h
     ·rw [List.getElem?_eq_none (by omega)] at h
      simp at h
   ·rw [if_neg hb] at hxe;cases hxe
  | succ j =>
   have:=hr j o' (by simpa using hj) x (by
    have e:(acc++[X]).length+j=acc.length+(j+1):=by simp;omega
    rw [e];exact hx)
   exact this
theorem number_mem:∀ {l:List Oper} {k i:Nat} {o:Oper},(i,o)∈number l k→∃ j,i=k+j∧l[j]? = some o
 | [],_,_,_,h=>absurd h (List.not_mem_nil)
 | x :: l,k,i,o,h=>by
  rcases List.mem_cons.1 h with h | h
  ·cases h;exact ⟨0,rfl,rfl⟩
  ·obtain ⟨j,h1,h2⟩:=number_mem h;exact ⟨j+1,by omega,by simpa using h2⟩
theorem number_of:∀ {l:List Oper} {k j:Nat} {o:Oper},l[j]? = some o→(k+j,o)∈number l k
 | [],_,_,_,h=>absurd h (by simp)
 | x :: l,k,0,o,h=>by simp at h;subst h;exact List.mem_cons_self ..
 | x :: l,k,j+1,o,h=>by
  have:=number_of (l:=l) (k:=k+1) (j:=j) (o:=o) (by simpa using h)
  have e:k+(j+1)=k+1+j:=by omega
  rw [e]
  exact List.mem_cons_of_mem _ this
theorem ordGo_mem (an:List (List Nat)) (ops:List (Nat×Oper)):∀ (l:List (Nat×Oper)) (done:List Nat) (x:Nat×Oper),x∈ordGo an ops l done→x∈ops∨x∈l
 | [],done,x,h=>by
  left
  unfold ordGo at h
  exact (List.mem_filter.1 h).1
 | (i,o) :: r,done,x,h=>by
  unfold ordGo at h
  cases hc:(Nat.beq (kindOf o.op) 2 && !memb i done) with
  | false =>
   rw [hc] at h
   exact (ordGo_mem an ops r _ x h).imp id (List.mem_cons_of_mem _)
  | true =>
   rw [hc] at h
   simp only [cond_true] at h
   rcases List.mem_append.1 h with h | h
   ·exact .inl (List.mem_filter.1 h).1
   ·rcases List.mem_cons.1 h with h | h
    ·subst h;exact .inr (List.mem_cons_self ..)
    ·exact (ordGo_mem an ops r _ x h).imp id (List.mem_cons_of_mem _)
section
variable {P:Program} {tb:Tb} {ρ:Env} {Pr:Nat→Prop} {w0 w w':World} {nx:Nat} {F F':Fr} {a:Act}
structure St (tb:Tb) (call:Nat→List AV→S→Option (AV×S)) (ops:Array Oper) (base:Nat) (e:En) (F:Fr) (s:S) (F1:Fr) (s1:S):Prop where
 st:e.st=s
 op:ops[e.ix]? = some e.o
 put:F.put e.o.dst e.v=some F1
 go:(wants ops F.t e.o=some false∧e.v=.tup []∧e.kind=0∧s1=s)∨(wants ops F.t e.o=some true∧evl F.t (opl e.o.op)=some e.xs∧e.kind=kindOf e.o.op∧trGo tb call base e.ix e.kind e.o.op e.xs s=some (e.v,s1))
inductive Tr (tb:Tb) (call:Nat→List AV→S→Option (AV×S)) (ops:Array Oper) (base:Nat):List En→Fr→S→Fr→S→Prop
 | nil {F:Fr} {s:S}:Tr tb call ops base [] F s F s
 | cons {e:En} {l:List En} {F F1 F2:Fr} {s s1 s2:S} (h:St tb call ops base e F s F1 s1) (t:Tr tb call ops base l F1 s1 F2 s2):Tr tb call ops base (e :: l) F s F2 s2
theorem trCons_ok {e:En} {r:Option (List En×Fr×S)} {ens:List En} {F:Fr} {s:S} (h:trCons e r=some (ens,F,s)):∃ l,ens=e :: l∧r=some (l,F,s):=by
 unfold trCons at h
 split at h
 ·cases h;exact ⟨_,rfl,rfl⟩
 ·cases h
theorem runTr_ok [Val] {call:Nat→List AV→S→Option (AV×S)} {ops:Array Oper} {base:Nat}:∀ {l:List (Nat×Oper)} {F F2:Fr} {s s2:S} {ens:List En},(∀ x∈l,ops[x.1]? = some x.2)→runTr tb call ops base l F s=some (ens,F2,s2)→Tr tb call ops base ens F s F2 s2
 | [],F,F2,s,s2,ens,hl,h=>by
  unfold runTr at h
  cases h
  exact .nil
 | (i,o) :: r,F,F2,s,s2,ens,hl,h=>by
  have ho:ops[i]? = some o:=hl _ (List.mem_cons_self ..)
  have hr:∀ x∈r,ops[x.1]? = some x.2:=fun x hx=>hl x (List.mem_cons_of_mem _ hx)
  unfold runTr at h
  split at h
  ·cases h
  ·rename_i hw
   split at h
   ·rename_i F1 hp
    obtain ⟨l,rfl,h9⟩:=trCons_ok h
    exact .cons ⟨rfl,ho,hp,.inl ⟨hw,rfl,rfl,rfl⟩⟩ (runTr_ok hr h9)
   ·cases h
  ·rename_i hw
   split at h
   ·cases h
   ·rename_i xs hx
    split at h
    ·cases h
    ·rename_i v s1 hg
     split at h
     ·rename_i F1 hp
      obtain ⟨l,rfl,h9⟩:=trCons_ok h
      exact .cons ⟨rfl,ho,hp,.inr ⟨hw,hx,rfl,hg⟩⟩ (runTr_ok hr h9)
     ·cases h
theorem Tr.split {call:Nat→List AV→S→Option (AV×S)} {ops:Array Oper} {base:Nat}:∀ {l m:List En} {F F2:Fr} {s s2:S},Tr tb call ops base (l++m) F s F2 s2→∃ F1 s1,Tr tb call ops base l F s F1 s1∧Tr tb call ops base m F1 s1 F2 s2
 | [],m,F,F2,s,s2,h=>⟨F,s,.nil,h⟩
 | e :: l,m,F,F2,s,s2,h=>by
  cases h with
  | cons h t =>
   obtain ⟨F1,s1,h1,h2⟩:=Tr.split t
   exact ⟨F1,s1,.cons h h1,h2⟩
theorem chkOrd_ok [Val] {an:List (List Nat)}:∀ {l pre rest:List En} {e:En} {done:List Nat},chkOrd an l done=true→l=pre++e :: rest →
  (∀ a∈(an[e.ix]?).getD [],a∈done∨a∈pre.map (·.ix))∧(e.ix∉done∧e.ix∉pre.map (·.ix))∧(e.kind=2→∀ a,a∈done∨a∈pre.map (·.ix)→a∈(an[e.ix]?).getD [])
 | [],pre,rest,e,done,h,hl=>absurd hl (by simp)
 | x :: l,pre,rest,e,done,h,hl=>by
  simp only [chkOrd,Bool.and_eq_true,List.all_eq_true,memb_iff,Bool.not_eq_true'] at h
  obtain ⟨⟨⟨h1,h2⟩,h3⟩,h4⟩:=h
  cases pre with
  | nil =>
   simp only [List.nil_append,List.cons.injEq] at hl
   obtain ⟨rfl,rfl⟩:=hl
   refine ⟨fun a ha=>.inl (h1 a ha),⟨fun hm=>?_,by simp⟩,fun hk a ha=>?_⟩
   ·rw [(memb_iff _ _).2 hm] at h2;cases h2
   ·rw [hk] at h3
    simp only [show Nat.beq 2 2=true from rfl,cond_true,List.all_eq_true,memb_iff] at h3
    exact h3 a (by simpa using ha)
  | cons y pre =>
   simp only [List.cons_append,List.cons.injEq] at hl
   obtain ⟨rfl,hl⟩:=hl
   obtain ⟨g1,⟨g2,g3⟩,g4⟩:=chkOrd_ok h4 hl
   simp only [List.mem_cons,List.map_cons,not_or] at *
   refine ⟨fun a ha=>?_,⟨g2.2,g2.1,g3⟩,fun hk a ha=>g4 hk a ?_⟩
   ·rcases g1 a ha with (h | h) | h
    ·exact .inr (.inl h)
    ·exact .inl h
    ·exact .inr (.inr h)
   ·rcases ha with h | h | h
    ·exact .inl (.inr h)
    ·exact .inl (.inl h)
    ·exact .inr h
theorem evl_at [Val] {t:T AV}:∀ {l:List Operand} {xs:List AV},(∀ u v,.tmp u∈l→t.get u=some v→∃ c,a.tmps[u]? = some c∧VR ρ v c)→evl t l=some xs→VRs ρ xs (l.map a.eval)
 | [],xs,_,hv=>by change some []=some xs at hv;cases hv;exact .nil
 | x :: l,xs,ht,hv=>by
  change cons2 (evo t x) (evl t l)=some xs at hv
  unfold cons2 at hv
  split at hv
  ·rename_i v h1
   split at hv
   ·rename_i r h2
    cases hv
    refine .cons ?_ (evl_at (fun u v hu=>ht u v (List.mem_cons_of_mem _ hu)) h2)
    cases x with
    | tmp u =>
     obtain ⟨c,g1,g2⟩:=ht u v (List.mem_cons_self ..) h1
     have:a.eval (.tmp u)=c:=by simp [Act.eval,g1]
     rw [this];exact g2
    | const x=>exact ofV_ok h1
    | global g=>cases h1
    | func f =>
     change some (AV.f f [] [])=some v at h1
     cases h1
     have:=VR.f (ρ:=ρ) (k:=f) (as:=[]) (bs:=[]) .nil .nil
     exact this
   ·cases hv
  ·cases hv
theorem wants_at [Val] {t:T AV} {ops:Array Oper} {o:Oper} {b:Bool} (ht:∀ g x u v,o.guard=some (g,x)→(ops[g]?).bind (·.dst)=some u→t.get u=some v→∃ c,a.tmps[u]? = some c∧VR ρ v c) (hw:wants ops t o=some b):Region.wanted o (yielded ops a.tmps)=b:=by
 unfold wants at hw
 unfold Region.wanted
 split at hw
 ·rename_i hg;cases hw;rw [hg]
 ·rename_i j wt hg
  rw [hg]
  simp only
  split at hw
  ·cases hw
  ·rename_i oj hj
   split at hw
   ·cases hw
   ·rename_i d hd
    split at hw
    ·rename_i x hx
     obtain ⟨c,h1,h2⟩:=ht _ _ d _ hg (by simp [hj,hd]) hx
     cases h2
     cases hw
     simp [yielded,hj,hd,h1]
    ·rename_i hx
     obtain ⟨c,h1,h2⟩:=ht _ _ d _ hg (by simp [hj,hd]) hx
     cases h2 with
     | tup h3 =>
      cases h3
      cases hw
      simp [yielded,hj,hd,h1]
    ·cases hw
theorem WR.sub [Val] {h h':Nat→Option AObj} (W:WR Pr w0 ρ h nx w) (hs:∀ i o,h' i=some o→h i=some o):WR Pr w0 ρ h' nx w :=
 ⟨W.os,W.tape,W.output,W.size,W.pr,W.prlt,W.sm,W.fresh,fun i o ho=>W.at_ i o (hs i o ho),fun i j oi oj g s s' hi hj=>W.inj i j oi oj g s s' (hs i oi hi) (hs j oj hj),W.cx⟩
theorem rop_congr [Val] {o:Op} {xs:List AV} {vs:List Value} {h h':T AObj} (hx:VRs ρ xs vs) (e:∀ id x,ρ id=some x→h.get id=h'.get id):rop tb o xs h=rop tb o xs h':=by
 cases o
 case load t x =>
  change rLoad tb t h xs=rLoad tb t h' xs
  unfold rLoad
  split
  ·cases hx with
   | cons h1 _=>cases h1 with | p h2=>rw [e _ _ h2]
  ·rfl
 case lookup t x y ok =>
  change rLook tb t ok h xs=rLook tb t ok h' xs
  unfold rLook
  split
  ·rename_i m k
   congr 1
   funext i
   split
   ·congr 1
    funext ie
    cases keyOk tb _ k with
    | false=>rfl
    | true =>
     simp only [cond_true]
     split
     ·rfl
     ·cases hx with
      | cons h1 _=>cases h1 with | m h2=>rw [e _ _ h2]
     ·rfl
   ·rfl
  ·rfl
 case call c =>
  change rCall tb c xs h=rCall tb c xs h'
  unfold rCall
  split
  ·unfold rLen
   split
   ·cases hx with
    | cons h1 _=>cases h1 with | m h2=>rw [e _ _ h2]
   ·rfl
  ·rfl
 all_goals rfl
end
section
variable {P:Program} {tb:Tb} {ρ:Env} {Pr:Nat→Prop} {w0 w w':World} {nx:Nat} {F F':Fr} {a:Act} {call:Nat→List AV→S→Option (AV×S)}
theorem new_st [Val] {h:Ex.T AObj} {b:Nat} {o:AObj} {f:Nat×S→AV×S} {r:AV} {st':S} (hf:∀ r,(f r).2=r.2) (hr:(S.new ⟨h,b⟩ o).map f=some (r,st')):∃ o',st'=⟨h.set 30 b (some o'),b+1⟩∧b≤1000001:=by
 obtain ⟨q,h1,h2⟩:=map_some hr
 obtain ⟨h3,h4⟩:=new_ok h1
 have:=hf q
 rw [h2,h3] at this
 exact ⟨o,this,h4⟩
theorem make_st [Val] {o:Op} (hk:kindOf o=3) {h:Ex.T AObj} {b:Nat} {r:AV} {st':S} {xs:List AV} (ha:aop tb call o xs ⟨h,b⟩=some (r,st')):∃ o',st'=⟨h.set 30 b (some o'),b+1⟩∧b≤1000001:=by
 cases o
 case alloc t =>
  change aAlloc tb t ⟨h,b⟩ xs=some (r,st') at ha
  unfold aAlloc tiO at ha
  (repeat' split at ha) <;> first | cases ha;done | exact new_st (fun _=>rfl) ha
 case box t x =>
  change aBox tb t ⟨h,b⟩ xs=some (r,st') at ha
  unfold aBox tiO at ha
  simp only [Bool.cond_eq_ite] at ha
  (repeat' split at ha) <;> first | cases ha;done | exact new_st (fun _=>rfl) ha
 case buildSlice t n ps =>
  change aBS tb t n ps ⟨h,b⟩ xs=some (r,st') at ha
  unfold aBS tiO at ha
  simp only [Bool.cond_eq_ite] at ha
  (repeat' split at ha) <;> first | cases ha;done | exact new_st (fun _=>rfl) ha
 case makeSlice t x y =>
  change aMS tb t ⟨h,b⟩ xs=some (r,st') at ha
  unfold aMS tiO at ha
  simp only [Bool.cond_eq_ite] at ha
  (repeat' split at ha) <;> first | cases ha;done | exact new_st (fun _=>rfl) ha
 case makeMap t q =>
  change aMM q ⟨h,b⟩ xs=some (r,st') at ha
  unfold aMM at ha
  (repeat' split at ha) <;> first | cases ha;done | exact new_st (fun _=>rfl) ha
 case call c=>exfalso;change callKind c=3 at hk;unfold callKind at hk;split at hk <;> cases hk
 all_goals (exfalso;change _=3 at hk;cases hk)
theorem kind_le (o:Op):kindOf o≤3:=by
 cases o
 case call c=>change callKind c≤3;unfold callKind;split <;> omega
 all_goals exact Nat.le_of_ble_eq_true rfl
theorem St.cs [Val] {ops:Array Oper} {base:Nat} {e:En} {F F1:Fr} {s s1:S} (h:St tb call ops base e F s F1 s1) :
  (e.kind=0∧s1=s∧wants ops F.t e.o=some false∧e.v=.tup []) ∨
  (wants ops F.t e.o=some true∧evl F.t (opl e.o.op)=some e.xs ∧
   ((e.kind=0∧s1=s∧pop tb e.o.op e.xs=some e.v) ∨
   (e.kind=1∧s1=s∧(pop tb e.o.op e.xs=some e.v∨pop tb e.o.op e.xs=none)) ∨
   (e.kind=2∧aop tb call e.o.op e.xs s=some (e.v,s1)) ∨
   (e.kind=3∧kindOf e.o.op=3∧∃ o' n',aop tb call e.o.op e.xs ⟨s.h,base+e.ix⟩=some (e.v,⟨s1.h,n'⟩)∧s1=⟨s.h.set 30 (base+e.ix) (some o'),s.nx⟩∧base+e.ix≤1000001))):=by
 rcases h.go with ⟨h1,h2,h3,h4⟩ | ⟨h1,h2,h3,h4⟩
 ·exact .inl ⟨h3,h4,h1,h2⟩
 ·refine .inr ⟨h1,h2,?_⟩
  have hk:=kind_le e.o.op
  rw [← h3] at hk
  unfold trGo at h4
  simp only [nbeq,Bool.cond_decide] at h4
  by_cases k0:e.kind=0
  ·rw [if_pos k0] at h4
   obtain ⟨v,g1,g2⟩:=map_some h4
   cases g2
   exact .inl ⟨k0,rfl,g1⟩
  ·rw [if_neg k0] at h4
   by_cases k1:e.kind=1
   ·rw [if_pos k1] at h4
    split at h4
    ·rename_i v hp
     cases h4
     exact .inr (.inl ⟨k1,rfl,.inl hp⟩)
    ·rename_i hp
     obtain ⟨v,g1,g2⟩:=map_some h4
     cases g2
     exact .inr (.inl ⟨k1,rfl,.inr hp⟩)
   ·rw [if_neg k1] at h4
    by_cases k2:e.kind=2
    ·rw [if_pos k2] at h4
     exact .inr (.inr (.inl ⟨k2,h4⟩))
    ·rw [if_neg k2] at h4
     have k3:e.kind=3:=by omega
     have k3':kindOf e.o.op=3:=by rw [← h3];exact k3
     obtain ⟨hh,n⟩:=s
     unfold at3 at h4
     simp only at h4
     split at h4
     ·rename_i v h' n' hq
      cases h4
      have hq':aop tb call e.o.op e.xs ⟨hh,base+e.ix⟩=some (e.v,⟨h',n'⟩):=hq
      obtain ⟨o',g1,g2⟩:=make_st k3' hq'
      cases g1
      exact .inr (.inr (.inr ⟨k3,k3',o',_,hq',rfl,g2⟩))
     ·cases h4
theorem put_get [Val] {dst:Option Nat} {v:AV} (hp:F.put dst v=some F') (hn:F.n≤100000):F'.n=F.n∧F'.d=F.d∧(∀ u,dst=some u→u<F.n)∧∀ u x,F'.t.get u=some x→(dst=some u∧x=v)∨(dst≠some u∧F.t.get u=some x):=by
 unfold Fr.put at hp
 split at hp
 ·cases hp;exact ⟨rfl,rfl,fun u hu=>(by cases hu),fun u x hx=>.inr ⟨by simp,hx⟩⟩
 ·rename_i k
  obtain ⟨t,n,d⟩:=F
  change putT t n d k v=some F' at hp
  unfold putT at hp
  rw [nble,strict_eq] at hp
  have hle':n≤100000:=hn
  by_cases hk:Nat.succ k≤n
  ·simp only [hk,decide_true,cond_true,Option.some.injEq] at hp
   subst hp
   refine ⟨rfl,rfl,fun u hu=>(by cases hu;exact hk),fun u x hu=>?_⟩
   change (T.set 20 t k (some v)).get u=some x at hu
   rw [T.get_set 20 (some v) t 20 k u (by simp;omega) (Nat.le_refl _)] at hu
   by_cases huk:u=k
   ·subst huk
    simp at hu
    exact .inl ⟨rfl,hu.symm⟩
   ·simp only [huk,if_false] at hu
    exact .inr ⟨fun e=>huk (by cases e;rfl),hu⟩
  ·simp [hk] at hp
theorem frame_at [Val] {ops:Array Oper} {base:Nat} {l:List En} {F F':Fr} {s s':S} (t:Tr tb call ops base l F s F' s') (hn:F.n≤100000):F'.n=F.n∧F'.d=F.d∧(∀ e∈l,∀ u,e.o.dst=some u→u<F.n) ∧
  ∀ u v,F'.t.get u=some v→(∃ e∈l,e.o.dst=some u∧e.v=v)∨((∀ e∈l,e.o.dst≠some u)∧F.t.get u=some v):=by
 induction t with
 | nil=>exact ⟨rfl,rfl,fun e he=>absurd he (List.not_mem_nil),fun u v h=>.inr ⟨fun e he=>absurd he (List.not_mem_nil),h⟩⟩
 | @cons e l F F1 F2 s s1 s2 h t ih =>
  obtain ⟨p1,p2,p3,p4⟩:=put_get h.put hn
  obtain ⟨i1,i2,i3,i4⟩:=ih (by rw [p1];exact hn)
  refine ⟨i1.trans p1,i2.trans p2,fun e' he u hu=>?_,fun u v hv=>?_⟩
  ·rcases List.mem_cons.1 he with he | he
   ·subst he;exact p3 u hu
   ·have:=i3 e' he u hu;rw [p1] at this;exact this
  ·rcases i4 u v hv with ⟨e',he,h1,h2⟩ | ⟨h1,h2⟩
   ·exact .inl ⟨e',List.mem_cons_of_mem _ he,h1,h2⟩
   ·rcases p4 u v h2 with ⟨g1,g2⟩ | ⟨g1,g2⟩
    ·exact .inl ⟨e,List.mem_cons_self ..,g1,g2.symm⟩
    ·refine .inr ⟨fun e' he=>?_,g2⟩
     rcases List.mem_cons.1 he with he | he
     ·rw [he];exact g1
     ·exact h1 e' he
theorem Tr.op {ops:Array Oper} {base:Nat} {l:List En} {F F':Fr} {s s':S} (t:Tr tb call ops base l F s F' s'):∀ e∈l,ops[e.ix]? = some e.o:=by
 induction t with
 | nil=>exact fun e he=>absurd he (List.not_mem_nil)
 | cons h t ih =>
  intro e' he
  rcases List.mem_cons.1 he with he | he
  ·rw [he];exact h.op
  ·exact ih e' he
def FV (ens:List En) (L:Nat→Prop) (t:T AV) (u:Nat) (v:AV):Prop:=(∃ e∈ens,L e.ix∧e.o.dst=some u∧e.v=v)∨((∀ e∈ens,L e.ix→e.o.dst≠some u)∧t.get u=some v)
structure Ck (tb:Tb) (call:Nat→List AV→S→Option (AV×S)) (ops:Array Oper) (base:Nat) (ens:List En) (F0:Fr) (s0:S) (F2:Fr) (s2:S):Prop where
 tr:Tr tb call ops base ens F0 s0 F2 s2
 le:F0.n≤100000
 cov:∀ i,i<ops.size→∃ e∈ens,e.ix=i
 ord:chkOrd (ancs ops.toList []) ens []=true
 pair:∀ (i:Nat) (o:Oper) (j:Nat) (p:Oper),ops[i]? = some o→ops[j]? = some p→chkPair ops (ancs ops.toList []) i o j p=true
 low:∀ (i:Nat) (o:Oper),ops[i]? = some o→∀ e∈o.after.toList,Region.binds .any e=true→e.on<i
 rd:∀ e∈ens,e.kind=1→pop tb e.o.op e.xs=none→reads tb (ancs ops.toList []) e [] (actsOf ens) (stages ens s2)=true
section
variable {ops:Array Oper} {base:Nat} {ens:List En} {F0 F2:Fr} {s0 s2:S}
theorem Ck.before [Val] (k:Ck tb call ops base ens F0 s0 F2 s2) {p1 p2:List En} {e:En} (h:ens=p1++e :: p2) :
  (∀ x∈((ancs ops.toList [])[e.ix]?).getD [],x∈p1.map (·.ix))∧e.ix∉p1.map (·.ix)∧(e.kind=2→∀ x∈p1.map (·.ix),x∈((ancs ops.toList [])[e.ix]?).getD []):=by
 obtain ⟨g1,⟨_,g3⟩,g4⟩:=chkOrd_ok k.ord h
 exact ⟨fun x hx=>(g1 x hx).resolve_left (List.not_mem_nil),g3,fun hk x hx=>g4 hk x (.inr hx)⟩
theorem Ck.uniq [Val] (k:Ck tb call ops base ens F0 s0 F2 s2) {e e':En} (h:e∈ens) (h':e'∈ens) (hi:e.ix=e'.ix):e=e':=by
 obtain ⟨p1,p2,hp⟩:=List.append_of_mem h
 rw [hp] at h'
 rcases List.mem_append.1 h' with g | g
 ·exact absurd (List.mem_map.2 ⟨e',g,hi.symm⟩) (k.before hp).2.1
 ·rcases List.mem_cons.1 g with g | g
  ·exact g.symm
  ·obtain ⟨q1,q2,hq⟩:=List.append_of_mem g
   have:ens=(p1++e :: q1)++e' :: q2:=by rw [hp,hq];simp
   exact absurd (List.mem_map.2 ⟨e,by simp,hi⟩) (k.before this).2.1
theorem Ck.anc_of [Val] (k:Ck tb call ops base ens F0 s0 F2 s2) {p1 p2:List En} {e e':En} (h:ens=p1++e :: p2) (he:e'∈p1):e.ix∉((ancs ops.toList [])[e'.ix]?).getD []:=fun hx=>by
 obtain ⟨q1,q2,hq⟩:=List.append_of_mem he
 have h2:ens=q1++e' :: (q2++e :: p2):=by rw [h,hq];simp
 have:=(k.before h2).1 _ hx
 refine (k.before h).2.1 ?_
 rw [hq]
 simp only [List.map_append,List.mem_append]
 exact .inl this
theorem Ck.pr [Val] (k:Ck tb call ops base ens F0 s0 F2 s2) {e e':En} (h:e∈ens) (h':e'∈ens) (hne:e.ix≠e'.ix) {u:Nat} (hu:e'.o.dst=some u) :
  e.o.dst≠some u∧(u∈looks ops e.o→e'.ix∈((ancs ops.toList [])[e.ix]?).getD []∨e.ix∈((ancs ops.toList [])[e'.ix]?).getD []):=by
 have:=k.pair _ _ _ _ (k.tr.op e h) (k.tr.op e' h')
 unfold chkPair at this
 simp only [nbeq,hu,Bool.or_eq_true,decide_eq_true_eq,Bool.and_eq_true,Bool.not_eq_true',memb_iff] at this
 rcases this with h | ⟨h1,h2⟩
 ·exact absurd h hne
 ·refine ⟨fun hd=>?_,fun hm=>?_⟩
  ·rw [hd] at h1;simp at h1
  ·rcases h2 with (h2 | h2) | h2
   ·rw [(memb_iff _ _).2 hm] at h2;cases h2
   ·exact .inl h2
   ·exact .inr h2
theorem Ck.sees [Val] (k:Ck tb call ops base ens F0 s0 F2 s2) {L:Nat→Prop} (cl:∀ i,L i→∀ x∈((ancs ops.toList [])[i]?).getD [],L x) {p1 p2:List En} {e:En} (h:ens=p1++e :: p2) (hl:¬ L e.ix)
  (ha:∀ x∈((ancs ops.toList [])[e.ix]?).getD [],L x) {Fe:Fr} {se:S} (t:Tr tb call ops base p1 F0 s0 Fe se) {u:Nat} (hu:u∈looks ops e.o) {v:AV} (hv:Fe.t.get u=some v):FV ens L F0.t u v:=by
 have he:e∈ens:=by rw [h];simp
 obtain ⟨_,_,_,hf⟩:=frame_at t k.le
 rcases hf u v hv with ⟨e',g1,g2,g3⟩ | ⟨g1,g2⟩
 ·have he':e'∈ens:=by rw [h];simp [g1]
  have hne:e.ix≠e'.ix:=fun hi=>by
   exact (k.before h).2.1 (List.mem_map.2 ⟨e',g1,hi.symm⟩)
  rcases (k.pr he he' hne g2).2 hu with q | q
  ·exact .inl ⟨e',he',ha _ q,g2,g3⟩
  ·exact absurd q (k.anc_of h g1)
 ·refine .inr ⟨fun e' he' hL hd=>?_,g2⟩
  have hne:e.ix≠e'.ix:=fun hi=>hl (hi ▸ hL)
  rcases (k.pr he he' hne hd).2 hu with q | q
  ·obtain ⟨e2,m1,m2⟩:=List.mem_map.1 ((k.before h).1 _ q)
   have:e2=e':=k.uniq (by rw [h];simp [m1]) he' m2
   subst this
   exact g1 e2 m1 hd
  ·exact hl (cl _ hL _ q)
theorem Ck.more [Val] (k:Ck tb call ops base ens F0 s0 F2 s2) {L L':Nat→Prop} {e:En} (he:e∈ens) (hl:¬ L e.ix) (hL:∀ i,L' i↔i=e.ix∨L i) {u:Nat} {v:AV} (hv:FV ens L' F0.t u v) :
  (e.o.dst=some u∧v=e.v)∨(e.o.dst≠some u∧FV ens L F0.t u v):=by
 rcases hv with ⟨e',g1,g2,g3,g4⟩ | ⟨g1,g2⟩
 ·rcases (hL _).1 g2 with q | q
  ·have:=k.uniq g1 he q
   subst this
   exact .inl ⟨g3,g4.symm⟩
  ·refine .inr ⟨(k.pr he g1 (fun hi=>hl (hi ▸ q)) g3).1,.inl ⟨e',g1,q,g3,g4⟩⟩
 ·exact .inr ⟨g1 e he ((hL _).2 (.inl rfl)),.inr ⟨fun e' he' h'=>g1 e' he' ((hL _).2 (.inr h')),g2⟩⟩
end
end
def Ls (listed:Array Bool) (i:Nat):Prop:=listed.getD i false=true
theorem Ls.set {listed:Array Bool} {j:Nat} (hj:j<listed.size) (i:Nat):Ls (listed.setIfInBounds j true) i↔i=j∨Ls listed i:=by
 unfold Ls
 simp only [Array.getD_eq_getD_getElem?,Array.getElem?_setIfInBounds]
 by_cases c:j=i
 ·subst c;simp [hj]
 ·have c':¬ i=j:=fun e=>c e.symm
  simp [c,c']
theorem Tr.app {tb:Tb} {call:Nat→List AV→S→Option (AV×S)} {ops:Array Oper} {base:Nat} {l m:List En} {F F1 F2:Fr} {s s1 s2:S} (h:Tr tb call ops base l F s F1 s1) (k:Tr tb call ops base m F1 s1 F2 s2):Tr tb call ops base (l++m) F s F2 s2:=by
 induction h with
 | nil=>exact k
 | cons h t ih=>exact .cons h (ih k)
noncomputable def cont (tb:Tb) (call:Nat→List AV→S→Option (AV×S)) (base:Nat) (e:En):Option AObj :=
 match aop tb call e.o.op e.xs ⟨e.st.h,base+e.ix⟩ with
 | some (_,st')=>st'.h.get (base+e.ix)
 | none=>none
structure Inv [Val] (Pr:Nat→Prop) (w0:World) (tb:Tb) (call:Nat→List AV→S→Option (AV×S)) (ops:Array Oper) (base:Nat) (ens:List En) (F0:Fr) (s0:S) (F2:Fr) (s2:S) (ρ0:Env) (listed:Array Bool)
  (pre rest:List En) (F:Fr) (s:S) (ρ:Env) (h:Nat→Option AObj) (a:Act) (w:World):Prop where
 size:listed.size=ops.size
 cl:∀ i,Ls listed i→∀ x∈((ancs ops.toList [])[i]?).getD [],Ls listed x
 sp:ens=pre++rest
 t1:Tr tb call ops base pre F0 s0 F s
 t2:Tr tb call ops base rest F s F2 s2
 ap:∀ e∈pre,Ls listed e.ix
 ar:∀ e∈rest,e.kind=2→¬ Ls listed e.ix
 ext:Ext base ρ0 ρ
 nx:base+ops.size≤s.nx
 sz:a.tmps.size=F0.n
 df:DRs ρ F0.d a.defers
 fv:∀ u v,FV ens (Ls listed) F0.t u v→∃ c,a.tmps[u]? = some c∧VR ρ v c
 wr:WR Pr w0 ρ h s.nx w
 h1:∀ id,(id<base∨base+ops.size≤id)→h id=s.h.get id
 h2:∀ e∈pre,e.kind=3→h (base+e.ix)=s.h.get (base+e.ix)
 h3:∀ i,i<ops.size→ρ (base+i)≠none→Ls listed i∧∃ e∈ens,e.ix=i∧e.kind=3
 h4:∀ i,i<ops.size→s.h.get (base+i)≠none→∃ e∈pre,e.ix=i∧e.kind=3
 h5:∀ e∈rest,e.kind=3→Ls listed e.ix→h (base+e.ix)=cont tb call base e
section
variable {P:Program} {tb:Tb} {call:Nat→List AV→S→Option (AV×S)} {ops:Array Oper} {base:Nat} {ens pre rest:List En} {F0 F2 F F1:Fr} {s0 s2 s s1:S} {Pr:Nat→Prop} {w0 w w':World} {ρ0 ρ ρ':Env} {listed:Array Bool} {h:Nat→Option AObj} {a:Act}
theorem cont_ok [Val] {e:En} (hs:St tb call ops base e F s F1 s1) (hk:e.kind=3):∃ o',cont tb call base e=some o'∧s1=⟨s.h.set 30 (base+e.ix) (some o'),s.nx⟩∧base+e.ix≤1000001∧evl F.t (opl e.o.op)=some e.xs∧wants ops F.t e.o=some true∧kindOf e.o.op=3∧∃ n',aop tb call e.o.op e.xs ⟨s.h,base+e.ix⟩=some (e.v,⟨s1.h,n'⟩):=by
 rcases hs.cs with ⟨g,_⟩ | ⟨gw,ge,⟨g,_⟩ | ⟨g,_⟩ | ⟨g,_⟩ | ⟨g,gk,o',n',g1,g2,g3⟩⟩
 ·rw [hk] at g;cases g
 ·rw [hk] at g;cases g
 ·rw [hk] at g;cases g
 ·rw [hk] at g;cases g
 ·refine ⟨o',?_,g2,g3,ge,gw,gk,n',g1⟩
  unfold cont
  rw [hs.st,g1,g2]
  simp only
  rw [set_get _ _ (by omega),if_pos rfl]
theorem quiet [Val] {e:En} (hs:St tb call ops base e F s F1 s1) (hk:e.kind≠2):s1.nx=s.nx∧∀ id,(e.kind=3∧id=base+e.ix∧s1.h.get id=cont tb call base e)∨(¬ (e.kind=3∧id=base+e.ix)∧s1.h.get id=s.h.get id):=by
 by_cases k3:e.kind=3
 ·obtain ⟨o',c1,c2,c3,_⟩:=cont_ok hs k3
  subst c2
  refine ⟨rfl,fun id=>?_⟩
  simp only
  rw [set_get _ _ (by omega)]
  by_cases c:id=base+e.ix
  ·rw [if_pos c];exact .inl ⟨k3,c,c1.symm⟩
  ·rw [if_neg c];exact .inr ⟨fun q=>c q.2,rfl⟩
 ·have:s1=s:=by
   rcases hs.cs with ⟨_,g,_⟩ | ⟨_,_,⟨_,g,_⟩ | ⟨_,g,_⟩ | ⟨g,_⟩ | ⟨g,_⟩⟩
   ·exact g
   ·exact g
   ·exact g
   ·exact absurd g hk
   ·exact absurd g k3
  subst this
  exact ⟨rfl,fun id=>.inr ⟨fun q=>k3 q.1,rfl⟩⟩
theorem mids_get [Val] {l:List En} (t:Tr tb call ops base l F s F1 s1) (hl:∀ e∈l,e.kind≠2):s1.nx=s.nx∧∀ id,(∃ e∈l,e.kind=3∧id=base+e.ix∧s1.h.get id=cont tb call base e)∨((∀ e∈l,¬ (e.kind=3∧id=base+e.ix))∧s1.h.get id=s.h.get id):=by
 induction t with
 | nil=>exact ⟨rfl,fun id=>.inr ⟨fun e he=>absurd he (List.not_mem_nil),rfl⟩⟩
 | @cons e l F F1 F2 s s1 s2 h t ih =>
  obtain ⟨q1,q2⟩:=quiet h (hl e (List.mem_cons_self ..))
  obtain ⟨i1,i2⟩:=ih (fun e he=>hl e (List.mem_cons_of_mem _ he))
  refine ⟨i1.trans q1,fun id=>?_⟩
  rcases i2 id with ⟨e',m,g1,g2,g3⟩ | ⟨g1,g2⟩
  ·exact .inl ⟨e',List.mem_cons_of_mem _ m,g1,g2,g3⟩
  ·rcases q2 id with ⟨r1,r2,r3⟩ | ⟨r1,r2⟩
   ·exact .inl ⟨e,List.mem_cons_self ..,r1,r2,g2.trans r3⟩
   ·refine .inr ⟨fun e' m=>?_,g2.trans r2⟩
    rcases List.mem_cons.1 m with m | m
    ·rw [m];exact r1
    ·exact g1 e' m
theorem Ck.ix_lt [Val] (k:Ck tb call ops base ens F0 s0 F2 s2) {e:En} (he:e∈ens):e.ix<ops.size:=(Array.getElem?_eq_some_iff.1 (k.tr.op e he)).1
theorem Inv.adv [Val] (k:Ck tb call ops base ens F0 s0 F2 s2) {e:En} (I:Inv Pr w0 tb call ops base ens F0 s0 F2 s2 ρ0 listed pre (e :: rest) F s ρ h a w) (hk:e.kind≠2) (hl:Ls listed e.ix) :
  ∃ F1 s1,Inv Pr w0 tb call ops base ens F0 s0 F2 s2 ρ0 listed (pre++[e]) rest F1 s1 ρ h a w:=by
 have hsp:=I.sp
 have ht2:=I.t2
 cases ht2 with
 | @cons _ _ _ F1 _ _ s1 _ hs t =>
  obtain ⟨q1,q2⟩:=quiet hs hk
  have hlt:=k.ix_lt (e:=e) (by rw [hsp];simp)
  refine ⟨F1,s1,I.size,I.cl,by rw [hsp];simp,I.t1.app (.cons hs .nil),t,fun e' he=>?_,fun e' he=>I.ar e' (List.mem_cons_of_mem _ he),I.ext,by rw [q1];exact I.nx,I.sz,I.df,I.fv,by rw [q1];exact I.wr,
   fun id hid=>?_,fun e' he k3=>?_,I.h3,fun i hi hn=>?_,fun e' he=>I.h5 e' (List.mem_cons_of_mem _ he)⟩
  ·rcases List.mem_append.1 he with he | he
   ·exact I.ap e' he
   ·rw [List.mem_singleton.1 he];exact hl
  ·rcases q2 id with ⟨_,g,_⟩ | ⟨_,g⟩
   ·omega
   ·rw [g];exact I.h1 id hid
  ·rcases List.mem_append.1 he with he | he
   ·rcases q2 (base+e'.ix) with ⟨_,g,_⟩ | ⟨_,g⟩
    ·have:e'.ix=e.ix:=by omega
     exact absurd (List.mem_map.2 ⟨e',he,this⟩) (k.before hsp).2.1
    ·rw [g];exact I.h2 e' he k3
   ·have:=List.mem_singleton.1 he
    subst this
    rcases q2 (base+e'.ix) with ⟨_,_,g⟩ | ⟨g,_⟩
    ·rw [g];exact I.h5 e' (List.mem_cons_self ..) k3 hl
    ·exact absurd ⟨k3,rfl⟩ g
  ·rcases q2 (base+i) with ⟨g1,g2,_⟩ | ⟨_,g⟩
   ·exact ⟨e,by simp,by omega,g1⟩
   ·rw [g] at hn
    obtain ⟨e',m1,m2⟩:=I.h4 i hi hn
    exact ⟨e',List.mem_append_left _ m1,m2⟩
theorem Inv.advs [Val] (k:Ck tb call ops base ens F0 s0 F2 s2):∀ {l pre:List En} {F:Fr} {s:S},Inv Pr w0 tb call ops base ens F0 s0 F2 s2 ρ0 listed pre (l++rest) F s ρ h a w→(∀ e∈l,e.kind≠2∧Ls listed e.ix) →
  ∃ F1 s1,Inv Pr w0 tb call ops base ens F0 s0 F2 s2 ρ0 listed (pre++l) rest F1 s1 ρ h a w
 | [],pre,F,s,I,_=>⟨F,s,by simpa using I⟩
 | e :: l,pre,F,s,I,hl=>by
  obtain ⟨F1,s1,I1⟩:=Inv.adv k I (hl e (List.mem_cons_self ..)).1 (hl e (List.mem_cons_self ..)).2
  obtain ⟨F3,s3,I3⟩:=Inv.advs k I1 (fun e he=>hl e (List.mem_cons_of_mem _ he))
  exact ⟨F3,s3,by simpa using I3⟩
theorem Inv.here [Val] (k:Ck tb call ops base ens F0 s0 F2 s2) (I:Inv Pr w0 tb call ops base ens F0 s0 F2 s2 ρ0 listed pre rest F s ρ h a w):∀ i o,s.h.get i=some o→h i=some o:=fun i o ho=>by
 by_cases c:i<base∨base+ops.size≤i
 ·rw [I.h1 i c];exact ho
 ·have hi:i=base+(i - base):=by omega
  obtain ⟨e,m1,m2,m3⟩:=I.h4 (i - base) (by omega) (by rw [← hi,ho];simp)
  have:=I.h2 e m1 m3
  rw [m2,← hi] at this
  rw [this];exact ho
theorem Inv.fr [Val] (k:Ck tb call ops base ens F0 s0 F2 s2) (I:Inv Pr w0 tb call ops base ens F0 s0 F2 s2 ρ0 listed pre rest F s ρ h a w) {e:En} (he:e∈ens) (hl:¬ Ls listed e.ix) (le:Le ρ ρ') {c:Value} (hv:VR ρ' e.v c) :
  (a.put e.o.dst c).tmps.size=F0.n∧DRs ρ' F0.d (a.put e.o.dst c).defers∧∀ u v,FV ens (Ls (listed.setIfInBounds e.ix true)) F0.t u v→∃ c',(a.put e.o.dst c).tmps[u]? = some c'∧VR ρ' v c':=by
 have hlt:e.ix<listed.size:=by rw [I.size];exact k.ix_lt he
 refine ⟨?_,?_,fun u v hu=>?_⟩
 ·cases hd:e.o.dst <;> simp [Act.put,I.sz]
 ·cases hd:e.o.dst <;> simp only [Act.put] <;> exact I.df.mono le
 ·rcases k.more he hl (Ls.set hlt) hu with ⟨g1,rfl⟩ | ⟨g1,g2⟩
  ·have:=(frame_at k.tr k.le).2.2.1 e he u g1
   rw [g1]
   refine ⟨c,?_,hv⟩
   simp only [Act.put]
   rw [Array.getElem?_setIfInBounds_self_of_lt (by rw [I.sz];exact this)]
  ·obtain ⟨c',q1,q2⟩:=I.fv u v g2
   refine ⟨c',?_,q2.mono le⟩
   cases hd:e.o.dst with
   | none=>exact q1
   | some x =>
    rw [hd] at g1
    simp only [Act.put]
    rw [Array.getElem?_setIfInBounds_ne (fun e=>g1 (by rw [e]))]
    exact q1
theorem Inv.cl' [Val] (k:Ck tb call ops base ens F0 s0 F2 s2) (I:Inv Pr w0 tb call ops base ens F0 s0 F2 s2 ρ0 listed pre rest F s ρ h a w) {e:En} (he:e∈ens) (ha:∀ x∈((ancs ops.toList [])[e.ix]?).getD [],Ls listed x) :
  ∀ i,Ls (listed.setIfInBounds e.ix true) i→∀ x∈((ancs ops.toList [])[i]?).getD [],Ls (listed.setIfInBounds e.ix true) x:=fun i hi x hx=>by
 have hlt:e.ix<listed.size:=by rw [I.size];exact k.ix_lt he
 rw [Ls.set hlt] at hi ⊢
 rcases hi with rfl | hi
 ·exact .inr (ha x hx)
 ·exact .inr (I.cl i hi x hx)
theorem Inv.still [Val] (k:Ck tb call ops base ens F0 s0 F2 s2) (I:Inv Pr w0 tb call ops base ens F0 s0 F2 s2 ρ0 listed pre rest F s ρ h a w) {e:En} (he:e∈ens) (hl:¬ Ls listed e.ix) (ha:∀ x∈((ancs ops.toList [])[e.ix]?).getD [],Ls listed x)
  (hk:e.kind<2) {c:Value} (hv:VR ρ e.v c):Inv Pr w0 tb call ops base ens F0 s0 F2 s2 ρ0 (listed.setIfInBounds e.ix true) pre rest F s ρ h (a.put e.o.dst c) w:=by
 have hlt:e.ix<listed.size:=by rw [I.size];exact k.ix_lt he
 obtain ⟨f1,f2,f3⟩:=I.fr k he hl (Le.refl ρ) hv
 have hr:∀ e'∈rest,e'∈ens:=fun e' m=>by rw [I.sp];exact List.mem_append_right _ m
 have hne:∀ e'∈rest,2≤e'.kind→e'.ix≠e.ix:=fun e' m h2 hi=>by
  have:=k.uniq (hr e' m) he hi
  subst this;omega
 refine ⟨by simp [I.size],I.cl' k he ha,I.sp,I.t1,I.t2,fun e' m=>(Ls.set hlt _).2 (.inr (I.ap e' m)),fun e' m k2 q=>?_,I.ext,I.nx,f1,f2,f3,I.wr,I.h1,I.h2,fun i hi hn=>?_,I.h4,fun e' m k3 q=>?_⟩
 ·exact ((Ls.set hlt _).1 q).elim (hne e' m (by omega)) (I.ar e' m k2)
 ·obtain ⟨g1,g2⟩:=I.h3 i hi hn
  exact ⟨(Ls.set hlt _).2 (.inr g1),g2⟩
 ·exact ((Ls.set hlt _).1 q).elim (fun q=>absurd q (hne e' m (by omega))) (I.h5 e' m k3)
end
end Go.Ex
