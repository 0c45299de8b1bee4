import Derived.Test.YtgliljnbajohhaaGreatDoorQ32
set_option linter.unusedVariables false
set_option linter.unusedSimpArgs false
namespace Go.Ex
open Go Go.RowKit
section
variable {P:Program} {tb:Tb} {call:Nat→List AV→S→Option (AV×S)} {ops:Array Oper} {base:Nat} {ens pre rest:List En} {F0 F2 F F1:Fr} {s0 s2 s s1:S} {Pr:Nat→Prop} {w0 w w':World} {ρ0 ρ ρ':Env} {listed:Array Bool} {h:Nat→Option AObj} {a:Act}
theorem Inv.make [Val] (k:Ck tb call ops base ens F0 s0 F2 s2) (I:Inv Pr w0 tb call ops base ens F0 s0 F2 s2 ρ0 listed pre rest F s ρ h a w) {e:En} (he:e∈ens) (hl:¬ Ls listed e.ix) (ha:∀ x∈((ancs ops.toList [])[e.ix]?).getD [],Ls listed x)
  (hk:e.kind=3) {ob:Obj} {o':AObj} {c:Value} (hc:cont tb call base e=some o') (hor:OR ρ 0 o' ob) (hv:VR (ρ.add (base+e.ix) (w.heap.size,0)) e.v c) :
  Inv Pr w0 tb call ops base ens F0 s0 F2 s2 ρ0 (listed.setIfInBounds e.ix true) pre rest F s (ρ.add (base+e.ix) (w.heap.size,0)) (fun j=>if j=base+e.ix then some o' else h j) (a.put e.o.dst c) (w.alloc ob):=by
 have hix:=k.ix_lt he
 have hlt:e.ix<listed.size:=by rw [I.size];exact hix
 have hnx:=I.nx
 have hn:ρ (base+e.ix)=none:=by
  cases hq:ρ (base+e.ix) with
  | none=>rfl
  | some x=>exact absurd (I.h3 e.ix hix (by rw [hq];simp)).1 hl
 have le:=Le.add (ρ:=ρ) (w.heap.size,0) hn
 obtain ⟨f1,f2,f3⟩:=I.fr k he hl le hv
 have hr:∀ e'∈rest,e'∈ens:=fun e' m=>by rw [I.sp];exact List.mem_append_right _ m
 have hp:∀ e'∈pre,e'.ix≠e.ix:=fun e' m hi=>hl (hi ▸ I.ap e' m)
 have W:=(I.wr.kept (kq_alloc w ob)).add (id:=base+e.ix) (nx':=s.nx) (g:=w.heap.size) (s:=0) (by omega) (Nat.le_refl _) I.wr.sm hn (heap_alloc_new w ob) (fun hp=>by
  have h1:=I.wr.prlt _ hp
  have h2:=I.wr.size
  omega) (fun i oi s' hi he=>by
  have:=(I.wr.live_lt hi he).1
  omega) hor
 refine ⟨by simp [I.size],I.cl' k he ha,I.sp,I.t1,I.t2,fun e' m=>(Ls.set hlt _).2 (.inr (I.ap e' m)),fun e' m k2 q=>?_,fun id hid=>?_,I.nx,f1,f2,f3,W,fun id hid=>?_,fun e' m k3=>?_,fun i hi hne=>?_,I.h4,fun e' m k3 q=>?_⟩
 ·rcases (Ls.set hlt _).1 q with q | q
  ·have:=k.uniq (hr e' m) he q
   subst this
   rw [hk] at k2;cases k2
  ·exact I.ar e' m k2 q
 ·rw [Env.add_other ρ _ (by omega)];exact I.ext id hid
 ·rw [if_neg (by omega)];exact I.h1 id hid
 ·rw [if_neg (by have:=hp e' m;omega)];exact I.h2 e' m k3
 ·by_cases c:i=e.ix
  ·subst c;exact ⟨(Ls.set hlt _).2 (.inl rfl),e,he,rfl,hk⟩
  ·rw [Env.add_other ρ _ (by omega)] at hne
   obtain ⟨g1,g2⟩:=I.h3 i hi hne
   exact ⟨(Ls.set hlt _).2 (.inr g1),g2⟩
 ·rcases (Ls.set hlt _).1 q with q | q
  ·have:=k.uniq (hr e' m) he q
   subst this
   simp only [if_true]
   exact hc.symm
  ·have hne:e'.ix≠e.ix:=fun hi=>hl (hi ▸ q)
   rw [if_neg (by omega)]
   exact I.h5 e' m k3 q
def Hush (w:World) (ρ:Env) (h:Nat→Option AObj) (b:Nat):Prop:=b<w.heap.size∧∀ id o s',h id=some o→ρ id≠some (b,s')
theorem WR.hush [Val] {nx:Nat} (W:WR Pr w0 ρ h nx w):WR (Hush w ρ h) w ρ h nx w :=
 ⟨rfl,rfl,rfl,Nat.le_refl _,fun _ _=>rfl,fun _ q=>q.1,W.sm,W.fresh,fun i o ho=>by
  obtain ⟨g,s,ob,h1,h2,h3,h4⟩:=W.at_ i o ho
  exact ⟨g,s,ob,h1,fun q=>q.2 i o s ho h1,h3,h4⟩,W.inj,
  Val.up _ _ _ _ W.cx (fun b hb=>⟨Nat.lt_of_lt_of_le (W.prlt b hb) W.size,fun id o s' ho hr=>(W.live_lt ho hr).2 hb⟩) W.pr⟩
theorem Inv.act [Val] (k:Ck tb call ops base ens F0 s0 F2 s2) {e:En} (I:Inv Pr w0 tb call ops base ens F0 s0 F2 s2 ρ0 listed pre (e :: rest) F s ρ h a w) (hs:St tb call ops base e F s F1 s1) (t2:Tr tb call ops base rest F1 s1 F2 s2) (hl:¬ Ls listed e.ix) (ha:∀ x∈((ancs ops.toList [])[e.ix]?).getD [],Ls listed x)
  (hk:e.kind=2) {c:Value} (hext:Ext s.nx ρ ρ') (hle:s.nx≤s1.nx) (hv:VR ρ' e.v c) (W1:WR (Hush w ρ s.h.get) w ρ' s1.h.get s1.nx w') :
  ∃ h',Inv Pr w0 tb call ops base ens F0 s0 F2 s2 ρ0 (listed.setIfInBounds e.ix true) (pre++[e]) rest F1 s1 ρ' h' (a.put e.o.dst c) w':=by
 have hsp:=I.sp
 have he:e∈ens:=by rw [hsp];simp
 have hix:=k.ix_lt he
 have hlt:e.ix<listed.size:=by rw [I.size];exact hix
 have hnx:=I.nx
 have hhere:=I.here k
 have Ws:WR Pr w0 ρ s.h.get s.nx w:=I.wr.sub hhere
 have le:Le ρ ρ':=hext.le Ws
 obtain ⟨f1,f2,f3⟩:=I.fr k he hl le hv
 have hr:∀ e'∈rest,e'∈ens:=fun e' m=>by rw [hsp];simp [m]
 have hpre:∀ e'∈pre,e'∈ens:=fun e' m=>by rw [hsp];simp [m]
 have hPr:∀ b,Pr b→Hush w ρ s.h.get b:=fun b hb=>⟨Nat.lt_of_lt_of_le (I.wr.prlt b hb) I.wr.size,fun id o s' ho hr=>(Ws.live_lt ho hr).2 hb⟩
 have hout:∀ id o g sl,s.h.get id=none→h id=some o→ρ id=some (g,sl)→Hush w ρ s.h.get g:=fun id o g sl hn ho hr=>by
  refine ⟨(I.wr.live_lt ho hr).1,fun id2 o2 s2 ho2 hr2=>?_⟩
  have:=I.wr.inj _ _ _ _ _ _ _ ho (hhere _ _ ho2) hr hr2
  subst this
  rw [hn] at ho2;cases ho2
 have hkeep:∀ id,id<base+ops.size→ρ' id=ρ id:=fun id hid=>hext id (by omega)
 have hback:∀ i,i<ops.size→s.h.get (base+i)=none→s1.h.get (base+i)=none∨∃ e'∈pre,e'.ix=i∧e'.kind=3:=fun i hi hn=>by
  cases hq:s1.h.get (base+i) with
  | none=>exact .inl rfl
  | some o =>
   right
   obtain ⟨g,sl,ob,g1,g2,_⟩:=W1.at_ _ _ hq
   rw [hkeep _ (by omega)] at g1
   obtain ⟨q1,e',m1,m2,m3⟩:=I.h3 i hi (by rw [g1];simp)
   rw [hsp] at m1
   rcases List.mem_append.1 m1 with m | m
   ·exact ⟨e',m,m2,m3⟩
   ·exfalso
    have hz:=I.h5 e' m m3 (m2 ▸ q1)
    rw [m2] at hz
    obtain ⟨p1,p2,hp⟩:=List.append_of_mem m
    have ht:=I.t2
    rw [hp] at ht
    obtain ⟨Fa,sa,ta,tb'⟩:=Tr.split ht
    cases tb' with
    | cons hs' _ =>
     obtain ⟨o',c1,_⟩:=cont_ok hs' m3
     exact g2 (hout _ _ _ _ hn (hz.trans c1) g1)
 have hsep:∀ e1∈pre,∀ e2∈rest,e1.ix≠e2.ix:=fun e1 m1 e2 m2 hi=>by
  obtain ⟨p1,p2,hp⟩:=List.append_of_mem m2
  have hq:ens=(pre++e :: p1)++e2 :: p2:=by rw [hsp,hp];simp
  exact (k.before hq).2.1 (List.mem_map.2 ⟨e1,by simp [m1],hi⟩)
 let h':Nat→Option AObj:=fun id=>match s1.h.get id with
  | some o=>some o
  | none=>if base≤id∧id<base+ops.size∧s.h.get id=none then h id else none
 have hs1:∀ id o,s1.h.get id=some o→h' id=some o:=fun id o q=>by simp only [h',q]
 have hs0:∀ id,s1.h.get id=none→h' id=if base≤id∧id<base+ops.size∧s.h.get id=none then h id else none:=fun id q=>by simp only [h',q]
 have hcase:∀ id o,h' id=some o→s1.h.get id=some o∨(s1.h.get id=none∧id<base+ops.size∧s.h.get id=none∧h id=some o):=fun id o q=>by
  cases hq:s1.h.get id with
  | some o'=>rw [hs1 _ _ hq] at q;exact .inl q
  | none =>
   rw [hs0 _ hq] at q
   split at q
   ·rename_i c;exact .inr ⟨rfl,c.2.1,c.2.2,q⟩
   ·cases q
 have hg:∀ g,Hush w ρ s.h.get g→w'.heap[g]? = w.heap[g]?:=fun g q=>W1.pr g q
 have W':WR Pr w0 ρ' h' s1.nx w':=by
  refine ⟨W1.os.trans I.wr.os,W1.tape.trans I.wr.tape,W1.output.trans I.wr.output,Nat.le_trans I.wr.size W1.size,fun b hb=>(hg b (hPr b hb)).trans (I.wr.pr b hb),I.wr.prlt,W1.sm,W1.fresh,fun id o ho=>?_,fun i j oi oj g sa sb hi hj ei ej=>?_,I.wr.cx⟩
  ·rcases hcase id o ho with q | ⟨q1,q2,q3,q4⟩
   ·obtain ⟨g,sl,ob,g1,g2,g3,g4⟩:=W1.at_ _ _ q
    exact ⟨g,sl,ob,g1,fun hb=>g2 (hPr g hb),g3,g4⟩
   ·obtain ⟨g,sl,ob,g1,g2,g3,g4⟩:=I.wr.at_ _ _ q4
    exact ⟨g,sl,ob,by rw [hkeep _ q2];exact g1,g2,(hg g (hout _ _ _ _ q3 q4 g1)).trans g3,g4.mono le⟩
  ·have live:∀ id o g sl,s1.h.get id=some o→ρ' id=some (g,sl)→¬ Hush w ρ s.h.get g:=fun id o g sl q r=>by
    obtain ⟨g',sl',ob,g1,g2,_⟩:=W1.at_ _ _ q
    rw [r] at g1;cases g1
    exact g2
   rcases hcase i oi hi with q | ⟨q1,q2,q3,q4⟩ <;> rcases hcase j oj hj with r | ⟨r1,r2,r3,r4⟩
   ·exact W1.inj i j oi oj g sa sb q r ei ej
   ·exact absurd (hout _ _ _ _ r3 r4 (by rw [← hkeep _ r2];exact ej)) (live _ _ _ _ q ei)
   ·exact absurd (hout _ _ _ _ q3 q4 (by rw [← hkeep _ q2];exact ei)) (live _ _ _ _ r ej)
   ·exact I.wr.inj i j oi oj g sa sb q4 r4 (by rw [← hkeep _ q2];exact ei) (by rw [← hkeep _ r2];exact ej)
 refine ⟨h',by simp [I.size],I.cl' k he ha,by rw [hsp];simp,I.t1.app (.cons hs .nil),t2,fun e' m=>?_,fun e' m k2 q=>?_,fun id hid=>(hkeep id (by omega)).trans (I.ext id hid),Nat.le_trans hnx hle,f1,f2,f3,W',fun id hid=>?_,fun e' m k3=>?_,fun i hi hne=>?_,fun i hi hne=>?_,fun e' m k3 q=>?_⟩
 ·rcases List.mem_append.1 m with m | m
  ·exact (Ls.set hlt _).2 (.inr (I.ap e' m))
  ·rw [List.mem_singleton.1 m];exact (Ls.set hlt _).2 (.inl rfl)
 ·rcases (Ls.set hlt _).1 q with q | q
  ·have hq:=hr e' m
   obtain ⟨p1,p2,hp⟩:=List.append_of_mem m
   have hq:ens=(pre++e :: p1)++e' :: p2:=by rw [hsp,hp];simp
   exact (k.before hq).2.1 (List.mem_map.2 ⟨e,by simp,q.symm⟩)
  ·exact I.ar e' (List.mem_cons_of_mem _ m) k2 q
 ·cases hq:s1.h.get id with
  | some o=>exact hs1 _ _ hq
  | none=>rw [hs0 _ hq,if_neg (by omega)]
 ·rcases List.mem_append.1 m with m | m
  ·cases hq:s1.h.get (base+e'.ix) with
   | some o=>exact hs1 _ _ hq
   | none =>
    rw [hs0 _ hq]
    split
    ·rename_i c;rw [I.h2 e' m k3];exact c.2.2
    ·rfl
  ·rw [List.mem_singleton.1 m,hk] at k3;cases k3
 ·rw [hkeep _ (by omega)] at hne
  obtain ⟨g1,g2⟩:=I.h3 i hi hne
  exact ⟨(Ls.set hlt _).2 (.inr g1),g2⟩
 ·cases hq:s.h.get (base+i) with
  | none =>
   rcases hback i hi hq with q | ⟨e',m1,m2⟩
   ·exact absurd q hne
   ·exact ⟨e',List.mem_append_left _ m1,m2⟩
  | some o =>
   obtain ⟨e',m1,m2⟩:=I.h4 i hi (by rw [hq];simp)
   exact ⟨e',List.mem_append_left _ m1,m2⟩
 ·have hi':=k.ix_lt (hr e' m)
  have hsn:s.h.get (base+e'.ix)=none:=by
   cases hq:s.h.get (base+e'.ix) with
   | none=>rfl
   | some o =>
    obtain ⟨e2,m1,m2,_⟩:=I.h4 e'.ix hi' (by rw [hq];simp)
    exact absurd m2 (hsep e2 m1 e' m)
  have h1n:s1.h.get (base+e'.ix)=none:=by
   rcases hback _ hi' hsn with q | ⟨e2,m1,m2,_⟩
   ·exact q
   ·exact absurd m2 (hsep e2 m1 e' m)
  have hL:Ls listed e'.ix:=by
   rcases (Ls.set hlt _).1 q with q | q
   ·have:=k.uniq (hr e' m) he q
    subst this
    rw [hk] at k3;cases k3
   ·exact q
  rw [hs0 _ h1n,if_pos ⟨by omega,by omega,hsn⟩]
  exact I.h5 e' (List.mem_cons_of_mem _ m) k3 hL
end
theorem count_set:∀ (l:List Bool) (i:Nat),l[i]? = some false→(l.set i true).count false+1=l.count false
 | [],i,h=>by simp at h
 | x :: l,0,h=>by simp at h;subst h;simp
 | x :: l,i+1,h=>by
  have:=count_set l i (by simpa using h)
  simp only [List.set_cons_succ,List.count_cons]
  omega
theorem count_zero [Val] {l:List Bool} (h:l.count false=0) {i:Nat} (hi:l[i]? = some false):False:=by
 have:=count_set l i hi
 omega
noncomputable def clr:List Nat→T AObj→T AObj
 | [],t=>t
 | i :: l,t=>(clr l t).set 30 i none
theorem clr_get [Val]:∀ (l:List Nat) (t:T AObj) (j:Nat),(∀ i∈l,i<1000100)→(clr l t).get j=if j∈l then none else t.get j
 | [],t,j,_=>by simp [clr]
 | i :: l,t,j,h=>by
  unfold clr
  rw [set_get _ _ (h i (List.mem_cons_self ..)),clr_get l t j (fun i hi=>h i (List.mem_cons_of_mem _ hi))]
  by_cases c:j=i
  ·simp [c]
  ·simp [c]
theorem acts_cons (e:En) (l:List En):actsOf (e :: l)=if e.kind=2 then e.ix :: actsOf l else actsOf l:=by
 unfold actsOf
 rw [List.filterMap_cons,nbeq]
 by_cases c:e.kind=2 <;> simp [c]
theorem stages_cons (e:En) (l:List En) (fin:S):stages (e :: l) fin=if e.kind=2 then e.st :: stages l fin else stages l fin:=by
 unfold stages
 rw [List.filterMap_cons,nbeq]
 by_cases c:e.kind=2 <;> simp [c]
theorem mem_acts [Val] {x:Nat}:∀ {l:List En},x∈actsOf l→∃ e∈l,e.ix=x∧e.kind=2
 | [],h=>by simp [actsOf] at h
 | e :: l,h=>by
  rw [acts_cons] at h
  split at h
  ·rename_i c
   rcases List.mem_cons.1 h with h | h
   ·exact ⟨e,List.mem_cons_self ..,h.symm,c⟩
   ·obtain ⟨e',m,q⟩:=mem_acts h;exact ⟨e',List.mem_cons_of_mem _ m,q⟩
  ·obtain ⟨e',m,q⟩:=mem_acts h;exact ⟨e',List.mem_cons_of_mem _ m,q⟩
theorem reads_at [Val] {tb:Tb} {an:List (List Nat)} {e:En} {fin:S}:∀ {l m:List En} {bh:List Nat},reads tb an e bh (actsOf (l++m)) (stages (l++m) fin)=true →
  ∃ bh',reads tb an e bh' (actsOf m) (stages m fin)=true∧∀ b∈bh',b∈bh∨∃ e'∈l,e'.ix=b∧e'.kind=2
 | [],m,bh,h=>⟨bh,h,fun b hb=>.inl hb⟩
 | x :: l,m,bh,h=>by
  rw [List.cons_append,acts_cons,stages_cons] at h
  by_cases c:x.kind=2
  ·rw [if_pos c,if_pos c] at h
   simp only [reads,Bool.and_eq_true] at h
   obtain ⟨bh',g1,g2⟩:=reads_at h.2
   refine ⟨bh',g1,fun b hb=>?_⟩
   rcases g2 b hb with q | ⟨e',m1,q⟩
   ·rcases List.mem_append.1 q with q | q
    ·exact .inl q
    ·exact .inr ⟨x,List.mem_cons_self ..,(List.mem_singleton.1 q).symm,c⟩
   ·exact .inr ⟨e',List.mem_cons_of_mem _ m1,q⟩
  ·rw [if_neg c,if_neg c] at h
   obtain ⟨bh',g1,g2⟩:=reads_at h
   exact ⟨bh',g1,fun b hb=>(g2 b hb).imp id fun ⟨e',m1,q⟩=>⟨e',List.mem_cons_of_mem _ m1,q⟩⟩
theorem cut2:∀ (l:List En),∃ m r,l=m++r∧(∀ e∈m,e.kind≠2)∧(r=[]∨∃ e r',r=e :: r'∧e.kind=2)
 | []=>⟨[],[],rfl,fun e he=>absurd he (List.not_mem_nil),.inl rfl⟩
 | e :: l=>by
  by_cases c:e.kind=2
  ·exact ⟨[],e :: l,rfl,fun e he=>absurd he (List.not_mem_nil),.inr ⟨e,l,rfl,c⟩⟩
  ·obtain ⟨m,r,h1,h2,h3⟩:=cut2 l
   refine ⟨e :: m,r,by rw [h1];rfl,fun e' he=>?_,h3⟩
   rcases List.mem_cons.1 he with he | he
   ·rw [he];exact c
   ·exact h2 e' he
section
variable {P:Program} {tb:Tb} {call:Nat→List AV→S→Option (AV×S)} {ops:Array Oper} {base:Nat} {ens pre rest:List En} {F0 F2 F F1:Fr} {s0 s2 s s1:S} {Pr:Nat→Prop} {w0 w w':World} {ρ0 ρ ρ':Env} {listed:Array Bool} {h:Nat→Option AObj} {a:Act}
theorem ready_mem {i:Nat} (hsz:listed.size=ops.size) (hi:i∈Region.ready .any ops listed):i<ops.size∧¬ Ls listed i∧∃ o,ops[i]? = some o∧∀ e∈o.after.toList,Region.binds .any e=true→Ls listed e.on:=by
 unfold Region.ready at hi
 obtain ⟨h1,h2⟩:=List.mem_filter.1 hi
 have hlt:i<ops.size:=List.mem_range.1 h1
 simp only [Bool.and_eq_true,Bool.not_eq_true'] at h2
 obtain ⟨h2,h3⟩:=h2
 refine ⟨hlt,fun q=>?_,?_⟩
 ·unfold Ls at q
  have hl:i<listed.size:=by omega
  simp [Array.getD,hl] at h2 q
  rw [h2] at q;cases q
 ·cases ho:ops[i]? with
  | none=>rw [ho] at h3;simp at h3
  | some o =>
   rw [ho] at h3
   simp only [Option.map_some,Option.getD_some] at h3
   refine ⟨o,rfl,fun e he hb=>?_⟩
   have:=(Array.all_eq_true'.1 h3) e (by simpa using he)
   rw [hb] at this
   unfold Ls
   simpa using this
theorem not_ready (k:Ck tb call ops base ens F0 s0 F2 s2) (hsz:listed.size=ops.size) (hr:Region.ready .any ops listed=[]):∀ i,i<ops.size→Ls listed i:=by
 intro i
 induction i using Nat.strongRecOn with
 | ind i ih =>
  intro hi
  by_cases hL:Ls listed i
  ·exact hL
  ·exfalso
   have hl:i<listed.size:=by omega
   have hf:listed.getD i true=false:=by
    unfold Ls at hL
    simp [Array.getD,hl] at hL ⊢
    exact hL
   have:i∈Region.ready .any ops listed:=by
    unfold Region.ready
    refine List.mem_filter.2 ⟨List.mem_range.2 hi,?_⟩
    rw [hf]
    have ho:ops[i]? = some ops[i]:=Array.getElem?_eq_getElem hi
    rw [ho]
    simp only [Bool.not_false,Bool.true_and,Option.map_some,Option.getD_some]
    refine Array.all_eq_true'.2 fun e he=>?_
    cases hb:Region.binds .any e with
    | false=>rfl
    | true =>
     have hlow:=k.low i _ ho e (by simpa using he) hb
     have:=ih e.on hlow (by omega)
     unfold Ls at this
     simpa using this
   rw [hr] at this
   cases this
theorem Inv.fin [Val] (k:Ck tb call ops base ens F0 s0 F2 s2) (I:Inv Pr w0 tb call ops base ens F0 s0 F2 s2 ρ0 listed pre rest F s ρ h a w) (hr:Region.ready .any ops listed=[]):Nxt Pr w0 ρ0 base F2 s2 a w:=by
 have hall:=not_ready k I.size hr
 have hin:∀ e∈ens,Ls listed e.ix:=fun e he=>hall _ (k.ix_lt he)
 have hrest:∀ e∈rest,e∈ens:=fun e m=>by rw [I.sp];exact List.mem_append_right _ m
 obtain ⟨F',s',I'⟩:=Inv.advs (rest:=[]) k (l:=rest) (by simpa using I) (fun e m=>⟨fun c=>I.ar e m c (hin e (hrest e m)),hin e (hrest e m)⟩)
 have ht2:=I'.t2
 cases ht2
 obtain ⟨f1,f2,f3,f4⟩:=frame_at k.tr k.le
 have hnx:=I'.nx
 refine ⟨ρ,I'.ext,by omega,⟨by rw [f1];exact I'.sz,by rw [f1];exact k.le,fun u v hu=>I'.fv u v ?_,by rw [f2];exact I'.df⟩,I'.wr.sub (I'.here k)⟩
 rcases f4 u v hu with ⟨e,m,g1,g2⟩ | ⟨g1,g2⟩
 ·exact .inl ⟨e,m,hin e m,g1,g2⟩
 ·exact .inr ⟨fun e m _=>g1 e m,g2⟩
theorem Inv.read [Val] (k:Ck tb call ops base ens F0 s0 F2 s2) (I:Inv Pr w0 tb call ops base ens F0 s0 F2 s2 ρ0 listed pre rest F s ρ h a w) {e:En} (he:e∈ens) (hl:¬ Ls listed e.ix) (ha:∀ x∈((ancs ops.toList [])[e.ix]?).getD [],Ls listed x)
  (hk:e.kind=1) (hp:pop tb e.o.op e.xs=none) {vs:List Value} (hx:VRs ρ e.xs vs):∃ hh:T AObj,WR Pr w0 ρ hh.get s.nx w∧rop tb e.o.op e.xs hh=some e.v:=by
 obtain ⟨m,r,hm,hm2,hr2⟩:=cut2 rest
 have hrd:=k.rd e he hk hp
 have hsp:ens=(pre++m)++r:=by rw [I.sp,hm];simp
 rw [hsp] at hrd
 obtain ⟨bh,g1,g2⟩:=reads_at hrd
 have ht2:=I.t2
 rw [hm] at ht2
 obtain ⟨F1,s1,ta,tb'⟩:=Tr.split ht2
 obtain ⟨q1,q2⟩:=mids_get ta hm2
 have hnx:=I.nx
 have hsm:=I.wr.sm
 have hstage:∃ l,stages r s2=s1 :: l:=by
  rcases hr2 with rfl | ⟨e1,r',rfl,c⟩
  ·cases tb';exact ⟨[],rfl⟩
  ·cases tb' with
   | cons hs _=>rw [stages_cons,if_pos c,hs.st];exact ⟨_,rfl⟩
 obtain ⟨l,hst⟩:=hstage
 rw [hst] at g1
 have hmay:may (ancs ops.toList []) e.ix bh (actsOf r)=true:=by
  unfold may
  simp only [Bool.and_eq_true,List.all_eq_true,Bool.not_eq_true']
  refine ⟨fun x hx'=>?_,fun x hx'=>?_⟩
  ·cases hb:memb x (((ancs ops.toList [])[e.ix]?).getD []) with
   | false=>rfl
   | true =>
    obtain ⟨e',m1,m2,m3⟩:=mem_acts hx'
    have:=ha x ((memb_iff _ _).1 hb)
    exact absurd (m2 ▸ this) (I.ar e' (by rw [hm];exact List.mem_append_right _ m1) m3)
  ·cases hb:memb e.ix (((ancs ops.toList [])[x]?).getD []) with
   | false=>rfl
   | true =>
    exfalso
    rcases g2 x hx' with q | ⟨e',m1,m2,m3⟩
    ·cases q
    ·rcases List.mem_append.1 m1 with m1 | m1
     ·exact hl (I.cl x (m2 ▸ I.ap e' m1) _ ((memb_iff _ _).1 hb))
     ·exact hm2 e' m1 m3
 have hv:rop tb e.o.op e.xs s1.h=some e.v:=by
  have:(!may (ancs ops.toList []) e.ix bh (actsOf r) || (match rop tb e.o.op e.xs s1.h with
   | some v=>AV.beq v e.v
   | none=>false))=true:=by
   cases hac:actsOf r with
   | nil=>rw [hac] at g1;simp only [reads,Bool.and_eq_true] at g1;exact g1.1
   | cons x y=>rw [hac] at g1;simp only [reads,Bool.and_eq_true] at g1;exact g1.1
  rw [hmay] at this
  simp only [Bool.not_true,Bool.false_or] at this
  split at this
  ·rename_i v hq;rw [hq,AV.beq_eq _ _ this]
  ·cases this
 let un:List Nat:=((List.range ops.size).filter fun i=>!listed.getD i false).map (base + ·)
 have hun:∀ j,j∈un↔∃ i,i<ops.size∧¬ Ls listed i∧j=base+i:=fun j=>by
  simp only [un,List.mem_map,List.mem_filter,List.mem_range,Bool.not_eq_true',Ls]
  constructor
  ·rintro ⟨i,⟨c1,c2⟩,c3⟩;exact ⟨i,c1,by rw [c2];simp,c3.symm⟩
  ·rintro ⟨i,c1,c2,c3⟩;exact ⟨i,⟨c1,by simpa using c2⟩,c3.symm⟩
 have hcg:∀ j,(clr un s1.h).get j=if j∈un then none else s1.h.get j:=fun j=>clr_get _ _ _ (fun i hi=>by
  obtain ⟨i',c1,_,rfl⟩:=(hun i).1 hi;omega)
 refine ⟨clr un s1.h,I.wr.sub fun id o ho=>?_,?_⟩
 ·rw [hcg] at ho
  split at ho
  ·cases ho
  ·rename_i hnu
   rcases q2 id with ⟨e',m1,k3,rfl,g⟩ | ⟨g0,g⟩
   ·have hL:Ls listed e'.ix:=by
     by_cases c:Ls listed e'.ix
     ·exact c
     ·exact absurd ((hun _).2 ⟨e'.ix,k.ix_lt (by rw [hsp];simp [m1]),c,rfl⟩) hnu
    rw [I.h5 e' (by rw [hm];exact List.mem_append_left _ m1) k3 hL,← g];exact ho
   ·rw [g] at ho;exact I.here k _ _ ho
 ·rw [← hv]
  refine rop_congr hx fun id x hid=>?_
  rw [hcg,if_neg]
  intro hu
  obtain ⟨i,c1,c2,rfl⟩:=(hun _).1 hu
  exact c2 (I.h3 i c1 (by rw [hid];simp)).1
end
section
variable {P:Program} {tb:Tb} {call:Nat→List AV→S→Option (AV×S)} {ops:Array Oper} {base:Nat} {ens:List En} {F0 F2:Fr} {s0 s2:S} {Pr:Nat→Prop} {w0:World} {ρ0:Env}
theorem drawn_ok [Val] (T:TbOk' P tb) (C:CallOk P call) (k:Ck tb call ops base ens F0 s0 F2 s2) {Q:Exit→Act→World→Prop} (hQ:∀ a w,Nxt Pr w0 ρ0 base F2 s2 a w→Q .normal a w) :
  ∀ (fuel:Nat) (listed:Array Bool) (pre rest:List En) (F:Fr) (s:S) (ρ:Env) (h:Nat→Option AObj) (a:Act) (w:World),Inv Pr w0 tb call ops base ens F0 s0 F2 s2 ρ0 listed pre rest F s ρ h a w→listed.toList.count false≤fuel →
  wpAny P .any ops Q fuel listed a w:=by
 intro fuel
 induction fuel with
 | zero =>
  intro listed pre rest F s ρ h a w I hc
  have hr:Region.ready .any ops listed=[]:=by
   apply List.eq_nil_iff_forall_not_mem.2
   intro i hi
   obtain ⟨h1,h2,_⟩:=ready_mem I.size hi
   have hl:i<listed.size:=by rw [I.size];exact h1
   refine count_zero (l:=listed.toList) (by omega) (i:=i) ?_
   unfold Ls at h2
   simp [Array.getD,hl] at h2
   simp [hl,h2]
  exact ⟨hr,hQ _ _ (I.fin k hr)⟩
 | succ fuel ih =>
  intro listed pre rest F s ρ h a w I hc
  refine ⟨fun hr=>hQ _ _ (I.fin k hr),fun i hi=>?_⟩
  obtain ⟨h1,hl,o,ho,hpre⟩:=ready_mem I.size hi
  obtain ⟨e,he,rfl⟩:=k.cov i h1
  have hoe:=k.tr.op e he
  rw [ho] at hoe
  cases hoe
  have hls:e.ix<listed.size:=by rw [I.size];exact h1
  have hc':(listed.setIfInBounds e.ix true).toList.count false≤fuel:=by
   have:=count_set listed.toList e.ix (by
    unfold Ls at hl
    simp [Array.getD,hls] at hl
    simp [hls,hl])
   rw [Array.toList_setIfInBounds]
   omega
  have ha:∀ x∈((ancs ops.toList [])[e.ix]?).getD [],Ls listed x:=fun x hx=>by
   obtain ⟨ed,m,hb,q⟩:=(ancs_spec ops.toList []).2 e.ix e.o (by simpa using ho) x (by simpa using hx)
   rcases q with q | q
   ·rw [q];exact hpre ed m hb
   ·exact I.cl _ (hpre ed m hb) _ q
  obtain ⟨p1,p2,hp⟩:=List.append_of_mem he
  have htr:=k.tr
  rw [hp] at htr
  obtain ⟨Fe,se,ta,tb'⟩:=Tr.split htr
  cases tb' with
  | @cons _ _ _ Fe1 _ _ se1 _ hs _ =>
   have hsee:∀ u v,u∈looks ops e.o→Fe.t.get u=some v→∃ c,a.tmps[u]? = some c∧VR ρ v c:=fun u v hu hv=>I.fv u v (k.sees I.cl hp hl ha ta hu hv)
   have hwant:∀ b,wants ops Fe.t e.o=some b→Region.wanted e.o (yielded ops a.tmps)=b:=fun b hb=>wants_at (fun g x u v hg hu hv=>hsee u v (by
    unfold looks
    rw [hg]
    simp only [List.mem_append]
    right
    rw [hu]
    simp) hv) hb
   unfold wpOp
   rw [ho]
   simp only
   rcases hs.cs with ⟨hk,_,hw,hv⟩ | ⟨hw,hx,hcs⟩
   ·rw [hwant _ hw]
    simp only [Bool.false_eq_true,if_false]
    exact ih _ _ _ _ _ _ _ _ _ (I.still k he hl ha (by omega) (by rw [hv];exact undef_vr)) hc'
   ·rw [hwant _ hw]
    simp only [if_true]
    left
    have hX:VRs ρ e.xs ((opl e.o.op).map a.eval):=evl_at (fun u v hu hv=>hsee u v (by
     unfold looks
     simp only [List.mem_append,List.mem_filterMap]
     exact .inl ⟨.tmp u,hu,rfl⟩) hv) hx
    have hpure:pop tb e.o.op e.xs=some e.v→e.kind<2→e.o.wp P a w (wpAny P .any ops Q fuel (listed.setIfInBounds e.ix true)) Q:=fun hq hk=>by
     obtain ⟨c,c1,c2⟩:=pop_ok T hq hX
     unfold Oper.wp
     rw [c2 w,Oper.upon_value]
     exact ih _ _ _ _ _ _ _ _ _ (I.still k he hl ha hk c1) hc'
    rcases hcs with ⟨hk,_,hq⟩ | ⟨hk,_,hq⟩ | ⟨hk,hq⟩ | ⟨hk,hk3,_⟩
    ·exact hpure hq (by omega)
    ·rcases hq with hq | hq
     ·exact hpure hq (by omega)
     ·obtain ⟨hh,W,hr⟩:=I.read k he hl ha hk hq hX
      obtain ⟨c,c1,c2⟩:=rop_ok T W hr hX
      unfold Oper.wp
      rw [c2,Oper.upon_value]
      exact ih _ _ _ _ _ _ _ _ _ (I.still k he hl ha (by omega) c1) hc'
    ·have her:e∈rest:=by
      have:=he
      rw [I.sp] at this
      rcases List.mem_append.1 this with m | m
      ·exact absurd (I.ap e m) hl
      ·exact m
     obtain ⟨m,r,hm⟩:=List.append_of_mem her
     have hsp:ens=(pre++m)++e :: r:=by rw [I.sp,hm];simp
     have hmL:∀ e'∈m,Ls listed e'.ix:=fun e' hm'=>ha _ ((k.before hsp).2.2 hk _ (List.mem_map.2 ⟨e',List.mem_append_right _ hm',rfl⟩))
     rw [hm] at I
     obtain ⟨F3,s3,I3⟩:=Inv.advs k I (fun e' hm'=>⟨fun c=>I.ar e' (List.mem_append_left _ hm') c (hmL e' hm'),hmL e' hm'⟩)
     have ht2:=I3.t2
     cases ht2 with
     | @cons _ _ _ F4 _ _ s4 _ hs3 t4 =>
      have hact:aop tb call e.o.op e.xs s3=some (e.v,s4):=by
       rcases hs3.cs with ⟨q,_⟩ | ⟨_,_,⟨q,_⟩ | ⟨q,_⟩ | ⟨_,q⟩ | ⟨q,_⟩⟩
       ·rw [hk] at q;cases q
       ·rw [hk] at q;cases q
       ·rw [hk] at q;cases q
       ·exact q
       ·rw [hk] at q;cases q
      have Ws:WR Pr w0 ρ s3.h.get s3.nx w:=I3.wr.sub (I3.here k)
      refine wp_done (aop_ok T C hact hX Ws.hush) fun c w' ⟨ρ',x1,x2,x3,x4⟩=>?_
      obtain ⟨h',I4⟩:=I3.act k hs3 t4 hl ha hk x1 x2 x3 x4
      exact ih _ _ _ _ _ _ _ _ _ I4 hc'
    ·obtain ⟨o',c1,c2,c3,_,_,_,n',c4⟩:=cont_ok hs hk
     obtain ⟨ob,o2,c,m1,_,m2,m3,m4⟩:=(make_ok (w:=w) T hk3 c4 hX).ex
     have:o2=o':=by
      have q1:se1.h=se.h.set 30 (base+e.ix) (some o2):=congrArg S.h m1
      have q2:se1.h=se.h.set 30 (base+e.ix) (some o'):=congrArg S.h c2
      have q3:=set_get se.h (some o2) (id:=base+e.ix) (by omega) (base+e.ix)
      have q4:=set_get se.h (some o') (id:=base+e.ix) (by omega) (base+e.ix)
      rw [← q1,if_pos rfl] at q3
      rw [← q2,if_pos rfl,q3] at q4
      cases q4;rfl
     subst this
     unfold Oper.wp
     rw [m2,Oper.upon_value]
     exact ih _ _ _ _ _ _ _ _ _ (I.make k he hl ha hk c1 m3 m4) hc'
theorem count_rep (n:Nat):(Array.replicate n false).toList.count false≤n:=by
 exact Nat.le_trans List.count_le_length (by simp)
theorem Ls_rep (n i:Nat):¬ Ls (Array.replicate n false) i:=by
 unfold Ls
 simp [Array.getD]
theorem regX_ok [Val] (T:TbOk' P tb) (C:CallOk P call) {id:Nat} {dr:Bool} {F F':Fr} {st st':S} {ρ:Env} {a:Act} {w:World} (hr:regX tb call ops dr F st=some (F',st')) (h:FRm ρ F a) (W:WR Pr w0 ρ st.h.get st.nx w)
  {Q:Exit→Act→World→Prop} (hQ:∀ a w,Nxt Pr w0 ρ st.nx F' st' a w→Q .normal a w):(Code.region id ops dr).wp P Q a w:=by
 unfold regX at hr
 cases dr with
 | false=>exact wp_region_list (runOps_ok T C _ hr h W hQ)
 | true =>
  simp only [cond_true] at hr
  split at hr
  ·rename_i ens F1 st1 hrun
   rw [Bool.cond_eq_ite] at hr
   split at hr
   ·rename_i hok
    cases hr
    simp only [Bool.and_eq_true,nble,decide_eq_true_eq] at hok
    obtain ⟨hok,hsm⟩:=hok
    unfold drawOk at hok
    simp only [Bool.and_eq_true] at hok
    obtain ⟨⟨⟨k1,k2⟩,k3⟩,k4⟩:=hok
    obtain ⟨hh,n⟩:=st
    have hord:∀ x∈ordGo (ancs ops.toList []) (number ops.toList 0) (number ops.toList 0) [],ops[x.1]? = some x.2:=fun x hx=>by
     have:x∈number ops.toList 0:=(ordGo_mem _ _ _ _ x hx).elim (fun q=>q) (fun q=>q)
     obtain ⟨j,j1,j2⟩:=number_mem (i:=x.1) (o:=x.2) this
     rw [j1,Nat.zero_add]
     simpa using j2
    have hnum:∀ i o,ops[i]? = some o→(i,o)∈number ops.toList 0:=fun i o ho=>by
     have:=number_of (l:=ops.toList) (k:=0) (j:=i) (o:=o) (by simpa using ho)
     rwa [Nat.zero_add] at this
    have ck:Ck tb call ops n ens F (skip ops.size ⟨hh,n⟩) F' st':=by
     refine ⟨runTr_ok hord hrun,h.le,fun i hi=>?_,k2,fun i o j p ho hp=>?_,fun i o ho e he hb=>?_,fun e he hk hp=>?_⟩
     ·have:=List.all_eq_true.1 k1 _ (hnum i _ (Array.getElem?_eq_getElem hi))
      obtain ⟨e,m,q⟩:=List.any_eq_true.1 this
      exact ⟨e,m,nbt q⟩
     ·have:=List.all_eq_true.1 k3 _ (hnum i o ho)
      simp only [Bool.and_eq_true] at this
      exact List.all_eq_true.1 this.2 _ (hnum j p hp)
     ·have:=List.all_eq_true.1 k3 _ (hnum i o ho)
      simp only [Bool.and_eq_true] at this
      have:=List.all_eq_true.1 this.1 e he
      rw [hb] at this
      simp only [Bool.not_true,Bool.false_or,nble,decide_eq_true_eq] at this
      omega
     ·have:=List.all_eq_true.1 k4 e he
      simp only [hk,hp,show Nat.beq 1 1=true from rfl,cond_true] at this
      exact this
    have W':WR Pr w0 ρ hh.get (n+ops.size) { w with drawn:=w.drawn+1 }:=by
     refine ⟨W.os,W.tape,W.output,W.size,W.pr,W.prlt,(by have hsm':n+ops.size≤1000000:=hsm;omega),fun i hi=>W.fresh i (by simp only;omega),W.at_,W.inj,W.cx⟩
    refine wp_region_any T.mixed (drawn_ok T C ck hQ ops.size _ [] ens F (skip ops.size ⟨hh,n⟩) ρ hh.get a _ ?_ (count_rep _))
    refine ⟨by simp,fun i hi=>absurd hi (Ls_rep _ _),rfl,.nil,ck.tr,fun e he=>absurd he (List.not_mem_nil),fun e _ _=>Ls_rep _ _,Ext.refl _ _,Nat.le_refl _,h.size,h.df,fun u v hu=>?_,W',fun id hid=>rfl,fun e he=>absurd he (List.not_mem_nil),fun i hi hn=>?_,fun i hi hn=>?_,fun e _ _ q=>absurd q (Ls_rep _ _)⟩
    ·rcases hu with ⟨e,_,q,_⟩ | ⟨_,q⟩
     ·exact absurd q (Ls_rep _ _)
     ·exact h.tm u v q
    ·exact absurd (W.fresh (n+i) (by simp only;omega)) hn
    ·exfalso
     cases hq:hh.get (n+i) with
     | none=>exact hn hq
     | some o =>
      have:=W.id_lt (id:=n+i) hq
      simp only at this
      omega
   ·cases hr
  ·cases hr
end
def Ex.out:Ex→Exit
 | .nrm=>.normal
 | .exit i=>.exit i
 | .ret=>.ret
def wpIn (P:Program) (c:Code) (Q:Exit→Act→World→Prop) (a:Act) (w:World):Prop :=
 ∀ (b:Frame) (k:List Item) (cs:List Frame),∃ e a' w',Q e a' w'∧Arrives P (lone (b.at a (.code c :: .inLoop c :: k)) cs w) b k cs e a' w'
theorem wp_of_wpIn {P:Program} {c:Code} {Q:Exit→Act→World→Prop} {a:Act} {w:World} (h:wpIn P c Q a w):(Code.loop c).wp P Q a w:=fun b k cs=>by
 obtain ⟨e,a',w',hq,harr⟩:=h b k cs
 exact ⟨e,a',w',hq,.of_steps (.one step_loop) harr⟩
theorem wpIn_round {P:Program} {c:Code} {Q:Exit→Act→World→Prop} {a:Act} {w:World} (h:c.wp P (Exit.then (wpIn P c Q) Q) a w):wpIn P c Q a w:=fun b k cs=>by
 obtain ⟨e,a₁,w₁,hq,harr⟩:=h b (.inLoop c :: k) cs
 cases e with
 | normal =>
  obtain ⟨e₂,a₂,w₂,hq₂,harr₂⟩:=hq b k cs
  exact ⟨e₂,a₂,w₂,hq₂,.of_steps (Steps.trans harr (.one step_inLoop)) harr₂⟩
 | exit id=>exact ⟨_,a₁,w₁,hq,.pass (x:=.inLoop c) rfl (fun _ _=>.inl (by simp)) harr⟩
 | goto l=>exact ⟨_,a₁,w₁,hq,.pass (x:=.inLoop c) rfl (fun _ _=>.inl (by simp)) harr⟩
 | ret=>exact ⟨_,a₁,w₁,hq,.pass (x:=.inLoop c) rfl (fun _ _=>.inl (by simp)) harr⟩
 | panic ch=>exact ⟨_,a₁,w₁,hq,.pass (x:=.inLoop c) rfl (fun _ _=>.inl (by simp)) harr⟩
 | outgrown=>exact ⟨_,a₁,w₁,hq,.pass (x:=.inLoop c) rfl (fun _ _=>.inl (by simp)) harr⟩
def ExOk [Val] (P:Program) (ex:Code→Fr→S→Option (Ex×Fr×S)):Prop :=
 ∀ (c:Code) (F F':Fr) (st st':S) (x:Ex),ex c F st=some (x,F',st')→∀ (Pr:Nat→Prop) (w0:World) (ρ:Env) (a:Act) (w:World) (Q:Exit→Act→World→Prop),FRm ρ F a→WR Pr w0 ρ st.h.get st.nx w →
  (∀ a' w',Nxt Pr w0 ρ st.nx F' st' a' w'→Q x.out a' w')→c.wp P Q a w∧∀ b,c=.loop b→wpIn P b Q a w
section
variable {P:Program} {tb:Tb}
theorem Nxt.after [Val] {Pr:Nat→Prop} {w0:World} {ρ ρ1:Env} {n:Nat} {F:Fr} {st1 st:S} {a:Act} {w:World} (e1:Ext n ρ ρ1) (n1:n≤st1.nx) (h:Nxt Pr w0 ρ1 st1.nx F st a w):Nxt Pr w0 ρ n F st a w:=by
 obtain ⟨ρ2,e2,n2,h2,W2⟩:=h
 exact ⟨ρ2,e1.trans e2 n1,Nat.le_trans n1 n2,h2,W2⟩
theorem xSeq_ok {r:Option (Ex×Fr×S)} {k:Fr→S→Option (Ex×Fr×S)} {x:Ex} {F':Fr} {st':S} (h:xSeq r k=some (x,F',st')):(∃ F1 st1,r=some (.nrm,F1,st1)∧k F1 st1=some (x,F',st'))∨(r=some (x,F',st')∧x≠.nrm):=by
 unfold xSeq at h
 split at h
 ·rename_i e F1 st1
  cases e with
  | nrm=>exact .inl ⟨F1,st1,rfl,h⟩
  | exit i=>cases h;exact .inr ⟨rfl,by simp⟩
  | ret=>cases h;exact .inr ⟨rfl,by simp⟩
 ·cases h
theorem then_out {x:Ex} (hx:x≠.nrm) {K:Act→World→Prop} {Q:Exit→Act→World→Prop} {a:Act} {w:World} (h:Q x.out a w):Exit.then K Q x.out a w:=by
 cases x with
 | nrm=>exact absurd rfl hx
 | exit i=>exact h
 | ret=>exact h
theorem xArm_ok [Val] (T:TbOk' P tb) {ex:Code→Fr→S→Option (Ex×Fr×S)} (hE:ExOk P ex) (C:CallOk P (callX tb ex)):ExOk P (xArm tb ex):=by
 intro c F F' st st' x hx Pr w0 ρ a w Q h W hQ
 have hno:∀ {c:Code} {R:Prop},(∀ b,c≠.loop b)→∀ b,c=.loop b→R:=fun h b e=>absurd e (h b)
 cases c
 case skip =>
  change some (Ex.nrm,F,st)=some (x,F',st') at hx
  cases hx
  exact ⟨wp_skip (hQ _ _ ⟨ρ,Ext.refl _ _,Nat.le_refl _,h,W⟩),fun b e=>(by cases e)⟩
 case label l =>
  change some (Ex.nrm,F,st)=some (x,F',st') at hx
  cases hx
  exact ⟨wp_label (hQ _ _ ⟨ρ,Ext.refl _ _,Nat.le_refl _,h,W⟩),fun b e=>(by cases e)⟩
 case exit i =>
  change some (Ex.exit i,F,st)=some (x,F',st') at hx
  cases hx
  exact ⟨wp_exit (hQ _ _ ⟨ρ,Ext.refl _ _,Nat.le_refl _,h,W⟩),fun b e=>(by cases e)⟩
 case ret =>
  change some (Ex.ret,F,st)=some (x,F',st') at hx
  cases hx
  exact ⟨wp_ret (hQ _ _ ⟨ρ,Ext.refl _ _,Nat.le_refl _,h,W⟩),fun b e=>(by cases e)⟩
 case region id ops dr =>
  refine ⟨?_,fun b e=>(by cases e)⟩
  change xReg (regX tb (callX tb ex) ops dr F st)=some (x,F',st') at hx
  unfold xReg at hx
  split at hx
  ·rename_i F1 st1 hr
   cases hx
   exact regX_ok T C hr h W hQ
  ·cases hx
 case seq p q =>
  refine ⟨?_,fun b e=>(by cases e)⟩
  change xSeq (ex p F st) (ex q)=some (x,F',st') at hx
  rcases xSeq_ok hx with ⟨F1,st1,h1,h2⟩ | ⟨h1,h2⟩
  ·exact wp_seq (hE _ _ _ _ _ _ h1 Pr w0 ρ a w _ h W fun a1 w1 ⟨ρ1,e1,n1,hf1,W1⟩=>(hE _ _ _ _ _ _ h2 Pr w0 ρ1 a1 w1 Q hf1 W1 fun a2 w2 hN=>hQ _ _ (hN.after e1 n1)).1).1
  ·exact wp_seq (hE _ _ _ _ _ _ h1 Pr w0 ρ a w _ h W fun a1 w1 hN=>then_out h2 (hQ _ _ hN)).1
 case cond t p q =>
  refine ⟨?_,fun b e=>(by cases e)⟩
  change xCond (evo F.t t) p q (fun c=>ex c F st)=some (x,F',st') at hx
  unfold xCond at hx
  split at hx
  ·rename_i v hv
   have hev:=evo_ok h hv
   generalize hcv:a.eval t=cv at hev
   cases hev
   refine wp_cond hcv ?_
   rw [Bool.cond_eq_ite] at hx
   exact (hE _ _ _ _ _ _ hx Pr w0 ρ a w Q h W hQ).1
  ·cases hx
 case block i p =>
  refine ⟨?_,fun b e=>(by cases e)⟩
  change xBlock i (ex p F st)=some (x,F',st') at hx
  unfold xBlock at hx
  split at hx
  ·rename_i j F1 st1 h1
   rw [nbeq,Bool.cond_decide] at hx
   refine wp_block (hE _ _ _ _ _ _ h1 Pr w0 ρ a w _ h W fun a1 w1 hN=>?_).1
   change if j=i then Q .normal a1 w1 else Q (.exit j) a1 w1
   split at hx
   ·rename_i c;rw [if_pos c];cases hx;exact hQ _ _ hN
   ·rename_i c;rw [if_neg c];cases hx;exact hQ _ _ hN
  ·rename_i hne
   refine wp_block (hE _ _ _ _ _ _ hx Pr w0 ρ a w _ h W fun a1 w1 hN=>?_).1
   cases x with
   | nrm=>exact hQ _ _ hN
   | exit j=>exact absurd hx (hne j _ _)
   | ret=>exact hQ _ _ hN
 case loop p =>
  change xSeq (ex p F st) (ex (.loop p))=some (x,F',st') at hx
  have hin:wpIn P p Q a w:=by
   rcases xSeq_ok hx with ⟨F1,st1,h1,h2⟩ | ⟨h1,h2⟩
   ·exact wpIn_round (hE _ _ _ _ _ _ h1 Pr w0 ρ a w _ h W fun a1 w1 ⟨ρ1,e1,n1,hf1,W1⟩=>(hE _ _ _ _ _ _ h2 Pr w0 ρ1 a1 w1 Q hf1 W1 fun a2 w2 hN=>hQ _ _ (hN.after e1 n1)).2 p rfl).1
   ·exact wpIn_round (hE _ _ _ _ _ _ h1 Pr w0 ρ a w _ h W fun a1 w1 hN=>then_out h2 (hQ _ _ hN)).1
  exact ⟨wp_of_wpIn hin,fun b e=>by cases e;exact hin⟩
 all_goals (change (none:Option (Ex×Fr×S))=some (x,F',st') at hx;cases hx)
end
section
variable {P:Program} {tb:Tb} {ρ:Env} {Pr:Nat→Prop} {w0 w:World} {nx:Nat} {F:Fr} {a:Act}
def resOne (tmps:Array Value):ResultVar→Sem Value
 | .tmp t=>pure (tmps.getD t undef)
 | .cell x t=>do loadVar t (← asAddr (tmps.getD x undef))
theorem results_eq (fn:Func) (tmps:Array Value):results fn tmps=(do let vs ← fn.results.mapM (resOne tmps);pure (if h:vs.size=1 then vs[0] else .tuple vs)):=rfl
theorem resX_ok [Val] (T:TbOk' P tb) (h:FRm ρ F a) {hh:Ex.T AObj} (W:WR Pr w0 ρ hh.get nx w):∀ {l:List ResultVar} {vs:List AV},resX tb F.t hh l=some vs →
  ∃ cs,VRs ρ vs cs∧(l.mapM (resOne a.tmps)).run P w=.ok cs w
 | [],vs,hr=>by
  change some []=some vs at hr
  cases hr
  exact ⟨[],.nil,by simp [Sem.run_pure]⟩
 | r :: l,vs,hr=>by
  unfold resX at hr
  split at hr
  ·rename_i v rs h1 h2
   cases hr
   obtain ⟨cs,g1,g2⟩:=resX_ok T h W h2
   have key:∃ c,VR ρ v c∧(resOne a.tmps r).run P w=.ok c w:=by
    cases r with
    | tmp t =>
     obtain ⟨c,k1,k2⟩:=h.tm t v h1
     exact ⟨c,k2,by simp [resOne,k1,Sem.run_pure]⟩
    | cell x t =>
     simp only at h1
     split at h1
     ·rename_i id off hx
      obtain ⟨c,k1,k2⟩:=h.tm x _ hx
      obtain ⟨c2,k3,k4⟩:=rLoad_ok (t:=t) T W (show rLoad tb t hh [AV.p id off]=some v from h1) (.cons k2 .nil)
      refine ⟨c2,k3,?_⟩
      have e1:a.tmps.getD x undef=c:=by simp [k1]
      unfold resOne
      simp only [e1]
      cases k2 with
      | p hid=>simpa [Instr.loadAt,Instr.sureAddr,asAddr] using k4
     ·cases h1
   obtain ⟨c,k1,k2⟩:=key
   refine ⟨c :: cs,.cons k1 g1,?_⟩
   rw [List.mapM_cons]
   simp only [Sem.run_bind,k2,Result.andThen_ok,g2,Sem.run_pure]
  ·cases hr
theorem one_ok [Val] {l:List AV} {cs:List Value} (h:VRs ρ l cs):VR ρ (one l) (if h:cs.toArray.size=1 then cs.toArray[0] else .tuple cs.toArray):=by
 cases h with
 | nil=>exact .tup .nil
 | cons h1 h2 =>
  cases h2 with
  | nil=>exact h1
  | cons h3 h4 =>
   rw [dif_neg (by simp)]
   exact .tup (.cons h1 (.cons h3 h4))
theorem results_ok [Val] (T:TbOk' P tb) (h:FRm ρ F a) {hh:Ex.T AObj} (W:WR Pr w0 ρ hh.get nx w) {fn:Func} {vs:List AV} (hr:resX tb F.t hh fn.results.toList=some vs):∃ c,VR ρ (one vs) c∧(results fn a.tmps).run P w=.ok c w:=by
 obtain ⟨cs,h1,h2⟩:=resX_ok T h W hr
 refine ⟨_,one_ok h1,?_⟩
 have e:fn.results.mapM (resOne a.tmps)=(do let l ← fn.results.toList.mapM (resOne a.tmps);pure l.toArray:Sem (Array Value)):=by rw [Array.mapM_eq_mapM_toList];rfl
 rw [results_eq,e]
 simp only [Sem.run_bind,h2,Result.andThen_ok,Sem.run_pure]
theorem init_get:∀ (l:List AV) (k:Nat) (t:T AV) (j:Nat),k+l.length≤100000→(initT l k t).get j=if k≤j∧j<k+l.length then l[j - k]? else t.get j
 | [],k,t,j,_=>by
  change t.get j=_
  rw [if_neg (by simp only [List.length_nil];omega)]
 | v :: l,k,t,j,h=>by
  change (initT l (Nat.succ k) (t.set 20 k (some v))).get j=_
  simp only [List.length_cons] at h
  rw [init_get l (Nat.succ k) _ j (by omega),T.get_set 20 (some v) t 20 k j (by simp;omega) (Nat.le_refl _)]
  simp only [List.length_cons]
  by_cases c1:j=k
  ·subst c1
   rw [if_neg (by omega),if_pos rfl,if_pos (by omega)]
   simp
  ·by_cases c2:k≤j∧j<k+(l.length+1)
   ·rw [if_pos (by omega),if_pos c2]
    have:j - k=(j - Nat.succ k)+1:=by omega
    rw [this];simp
   ·rw [if_neg (by omega),if_neg c1,if_neg c2]
theorem init_ok [Val] {args:List AV} {vs:List Value} {n:Nat} (hv:VRs ρ args vs) (hn:n≤100000) (hl:args.length≤n):FRm ρ ⟨initT args 0 .e,n,[]⟩ { tmps:=vs.toArray++Array.replicate (n - vs.toArray.size) undef,defers:=[] }:=by
 have hlen:=hv.len
 refine ⟨by simp;omega,hn,fun u v hu=>?_,.nil⟩
 simp only at hu
 rw [init_get args 0 .e u (by omega)] at hu
 split at hu
 ·rename_i c
  simp only [Nat.sub_zero] at hu
  obtain ⟨x,h1,h2⟩:=hv.get hu
  refine ⟨x,?_,h2⟩
  have hlt:u<vs.length:=(List.getElem?_eq_some_iff.1 h1).1
  simp only
  rw [Array.getElem?_append_left (by simpa using hlt)]
  simpa using h1
 ·rw [T.get_e] at hu;cases hu
end
end Go.Ex
