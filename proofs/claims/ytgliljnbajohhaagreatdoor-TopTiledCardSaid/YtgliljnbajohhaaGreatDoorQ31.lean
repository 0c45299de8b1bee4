import Derived.Test.YtgliljnbajohhaaGreatDoorQ30
set_option linter.unusedVariables false
set_option linter.unusedSimpArgs false
namespace Go.Ex
open Go Go.RowKit
section
variable {P:Program} {tb:Tb} {ρ:Env} {Pr:Nat→Prop} {w0 w w':World} {nx:Nat}
theorem WR.other [Val] {h:Nat→Option AObj} (W:WR Pr w0 ρ h nx w) {g:Nat} (hp:¬ Pr g) (hlive:∀ i oi s',h i=some oi→ρ i≠some (g,s')) (hos:w'.os=w.os) (htp:w'.tape=w.tape) (hout:w'.output=w.output)
  (hsz:w.heap.size≤w'.heap.size) (hbl:∀ k,k<w.heap.size→k≠g→w'.heap[k]? = w.heap[k]?):WR Pr w0 ρ h nx w':=by
 refine ⟨hos.trans W.os,htp.trans W.tape,hout.trans W.output,Nat.le_trans W.size hsz,fun b hb=>?_,W.prlt,W.sm,W.fresh,fun j oj hj=>?_,W.inj,W.cx⟩
 ·exact (hbl b (Nat.lt_of_lt_of_le (W.prlt b hb) W.size) (fun e=>hp (e ▸ hb))).trans (W.pr b hb)
 ·obtain ⟨g',s',ob',he',hb',hg',hor'⟩:=W.at_ j oj hj
  exact ⟨g',s',ob',he',hb',(hbl g' (Array.getElem?_eq_some_iff.1 hg').1 (fun e=>hlive j oj s' hj (e ▸ he'))).trans hg',hor'⟩
theorem appX_ok [Val] {t ty e:TypeId} {ie:TI} {inf:TypeInfo} {z:Value} (ht:P.underlying t=some (.slice e)) (hi:P.info? e=some inf) (hsz:inf.size=ie.size) (hby:inf.bytes=ie.bytes) (hz:inf.zero=some z) (hzs:z.cells.size=ie.size)
  {s r:AV} {vs:Value} {n c:Nat} {ad:Addr} {add:List AV} {news:List Value} {st st':S} (W:WR Pr w0 ρ st.h.get st.nx w) (ha:appX tb e ie s n add st=some (r,st')) (hs:VR ρ s vs)
  (hadd:VRs ρ add news) (h1:∀ a∈add,a.one=true) (hl:news.length=n * ie.size) (hnews:∀ j u,news[j]? = some u→w.cell? (ad.add j)=some u) :
  ∃ v w',(Builtin.append_ #[t,t] ty #[vs,.slice (some ad) n c]).run P w=.ok v w'∧Out Pr w0 ρ st.nx r st' v w':=by
 unfold appX at ha
 cases hc:(Nat.beq n 0 || !(Nat.ble n 100000) || !(Nat.ble ie.bytes 1000)) with
 | true=>rw [hc] at ha;cases ha
 | false =>
  rw [hc] at ha
  simp only [Bool.or_eq_false_iff,nbeq,nble,decide_eq_false_iff_not,Bool.not_eq_false',decide_eq_true_eq] at hc
  obtain ⟨⟨c1,c2⟩,c3⟩:=hc
  have hlen:=hadd.len
  rw [← hsz] at hl hzs
  have hbb:∀ N,N≤300000→N * inf.bytes≤140737488355328:=fun N hN=>by
   have:N * inf.bytes≤300000 * 1000:=Nat.mul_le_mul hN (by omega)
   omega
  simp only [cond_false] at ha
  split at ha
  ·cases hs
   obtain ⟨q,hq,he⟩:=map_some ha
   cases he
   have hr:=run_append_nil (P:=P) w t ty e inf z ht hi hz ad n c news hl hnews (by omega) (by omega) (by have:=hbb n (by omega);omega)
   exact ⟨_,_,hr,grow_new W hadd h1 (by omega) (grownCap_ge w n 0 e) hq⟩
  ·rename_i id len cap
   split at ha
   ·rename_i l e' sz g hrow
    split at ha
    ·rename_i hcond
     obtain ⟨rfl,hsz2,hlen2,hlc⟩:=hcond
     obtain ⟨b,sl,cs,ds,he,hb,hl2,hd,ho,hg⟩:=W.row hrow
     have hll:=hl2.len
     cases hs with
     | @sl _ _ _ _ b2 s2 he2 =>
      rw [he] at he2
      cases he2
      cases hin:(Nat.ble (len+n) cap && Nat.ble (len * ie.size+add.length) l.length) with
      | true =>
       rw [hin] at ha
       simp only [cond_true,Option.some.injEq,Prod.mk.injEq] at ha
       obtain ⟨rfl,rfl⟩:=ha
       simp only [Bool.and_eq_true,nble,decide_eq_true_eq] at hin
       have hr:=run_append_room (P:=P) w t ty e' inf ht hi b len (cap+sl) (cs++ds).toArray hb ad n c news hl hnews (hadd.ones h1) (by omega) (by rw [hsz];simp;omega)
       simp only [List.toList_toArray,hsz,put_app cs ds news (len * ie.size) (by omega)] at hr
       refine ⟨_,_,hr,ρ,Ext.refl _ _,?_,.sl he,upd_row W hrow he hb hd hg (hl2.put hadd _) (fun a ha=>(mem_put ha).elim (ho a) (h1 a))⟩
       obtain ⟨_,_⟩:=st
       exact Nat.le_refl _
      | false =>
       rw [hin] at ha
       simp only [cond_false] at ha
       cases hf:(Nat.beq l.length (cap * ie.size) && Nat.ble (cap+1) (len+n)) with
       | false=>rw [hf] at ha;cases ha
       | true =>
        rw [hf] at ha
        simp only [cond_true] at ha
        simp only [Bool.and_eq_true,nbeq,nble,decide_eq_true_eq] at hf
        obtain ⟨f1,f2⟩:=hf
        have hmul:len * ie.size≤cap * ie.size:=Nat.mul_le_mul_right _ hlc
        have holds:∀ j u,(cs.take (len * ie.size))[j]? = some u→w.cell? ((⟨b,0,none⟩:Addr).add j)=some u:=fun j u hj=>row_cells hb 0 (len * ie.size) j u (by simpa using hj)
        have hlo:(cs.take (len * ie.size)).length=len * inf.size:=by rw [hsz];simp;omega
        have hxs:VRs ρ (l.take (len * ie.size)++add) (cs.take (len * ie.size)++news):=(hl2.take _).app hadd
        have hone:∀ a∈l.take (len * ie.size)++add,a.one=true:=fun a ha=>(List.mem_append.1 ha).elim (fun h=>ho a (List.mem_of_mem_take h)) (h1 a)
        have hgrow:∀ (hcap:cap+sl<len+n),(Builtin.append_ #[t,t] ty #[.slice (some ⟨b,0,none⟩) len (cap+sl),.slice (some ad) n c]).run P w =
          .ok (.slice (some ⟨w.heap.size,0,none⟩) (len+n) (grownCap w (len+n) (cap+sl) e')) (w.drew.alloc (.cells ((cs.take (len * ie.size)++news).toArray++Builtin.zeroCells z.cells (grownCap w (len+n) (cap+sl) e' - (len+n))) e')):=fun hcap=>by
         have:=run_append_grow (P:=P) w t ty e' inf z ht hi hz ⟨b,0,none⟩ len (cap+sl) (cs.take (len * ie.size)) hlo holds ad n c news hl hnews hcap (by omega) (growslice_fits hcap (hbb _ (by omega)))
         rw [this]
         congr 3
         simp
        cases g with
        | told c=>cases ha
        | no =>
         have hs0:sl=0:=hg
         subst hs0
         simp only at ha
         obtain ⟨q,hq,heq⟩:=map_some ha
         cases heq
         exact ⟨_,_,hgrow (by omega),grow_new W hxs hone (by omega) (grownCap_ge w _ _ _) hq⟩
        | yes =>
         simp only at ha
         obtain ⟨q,hq,heq⟩:=map_some ha
         cases heq
         have hid:id<1000100:=Nat.lt_of_lt_of_le (W.lt he) W.sm
         have Wd:WR Pr w0 ρ (S.mk (st.h.set 30 id none) st.nx).h.get (S.mk (st.h.set 30 id none) st.nx).nx w:=(W.drop id).congr fun j=>(set_get st.h none hid j).symm
         by_cases hcap:cap+sl<len+n
         ·exact ⟨_,_,hgrow hcap,grow_new Wd hxs hone (by omega) (grownCap_ge w _ _ _) hq⟩
         ·have hfit2:(len+n) * ie.size≤(cap+sl) * ie.size:=Nat.mul_le_mul_right _ (by omega)
          have e1:(cap+sl) * ie.size=cap * ie.size+sl * ie.size:=Nat.add_mul _ _ _
          have e2:(len+n) * ie.size=len * ie.size+n * ie.size:=Nat.add_mul _ _ _
          have hr:=run_append_room (P:=P) w t ty e' inf ht hi b len (cap+sl) (cs++ds).toArray hb ad n c news hl hnews (hadd.ones h1) (by omega) (by
           simp
           rw [hsz2] at hd
           rw [hsz] at hl ⊢
           omega)
          simp only [List.toList_toArray,hsz] at hr
          rw [List.take_append_of_le_length (by omega)] at hr
          have hnl:∀ i oi s',(S.mk (st.h.set 30 id none) st.nx).h.get i=some oi→ρ i≠some (b,s'):=fun i oi s' hi' hei=>by
           rw [set_get st.h none hid i] at hi'
           split at hi'
           ·cases hi'
           ·rename_i hne
            exact hne (W.inj i id oi _ b s' sl hi' hrow hei he)
          have hpb:=(W.live_lt hrow he).2
          have hlt:=(W.live_lt hrow he).1
          have Wo:=Wd.other (w':=w.setRow b (cs.take (len * ie.size)++news++(cs++ds).drop (len * ie.size+news.length)).toArray) hpb hnl rfl rfl rfl (by simp) (fun k hk hn=>setRow_other w b k _ hn)
          have hheap:=setRow_heap w b _ (cs.take (len * ie.size)++news++(cs++ds).drop (len * ie.size+news.length)).toArray _ _ hb
          have hdl:((cs++ds).drop (len * ie.size+news.length)).length=(cap+sl - (len+n)) * sz:=by
           rw [Nat.sub_mul,hsz2]
           rw [hsz] at hl
           rw [hsz2] at hd
           simp
           omega
          obtain ⟨rfl,hq2⟩:=new_ok hq
          have Wa:=Wo.add (id:=st.nx) (nx':=st.nx+1) (g:=b) (s:=cap+sl - (len+n)) (o:=.row (l.take (len * ie.size)++add) e' ie.size .yes) (by omega) (by simp) (by omega) (W.fresh _ (Nat.le_refl _)) hheap hpb hnl
           (.row hxs (by rw [hdl,hsz2]) hone trivial)
          refine ⟨_,_,hr,ρ.add st.nx (b,cap+sl - (len+n)),fun i hi'=>Env.add_other ρ _ (by omega),by simp,?_,?_⟩
          ·have:=VR.sl (ρ:=ρ.add st.nx (b,cap+sl - (len+n))) (id:=st.nx) (off:=0) (len:=len+n) (cap:=len+n) (g:=b) (s:=cap+sl - (len+n)) (Env.add_same _ _ _)
           rw [show len+n+(cap+sl - (len+n))=cap+sl by omega] at this
           exact this
          ·exact Wa.congr fun j=>(set_get _ _ (by omega) j).symm
    ·cases ha
   ·cases ha
  ·cases ha
end
section
variable {P:Program} {tb:Tb} {ρ:Env} {Pr:Nat→Prop} {w0 w w':World} {nx:Nat}
theorem len2 {α:Type} {a:Array α} {x y:α} (h:a.toList=[x,y]):a = #[x,y]:=by rw [← Array.toArray_toList (xs:=a),h]
theorem zlen_ok [Val] (T:TbOk' P tb) {e:Nat} {ie:TI} (hie:tb.ti.get e=some ie):∃ inf z,P.info? e=some inf∧inf.size=ie.size∧inf.bytes=ie.bytes∧inf.zero=some z∧z.cells.size=ie.size∧(∀ ρ:Env,VRs ρ ie.zero z.cells.toList):=by
 obtain ⟨inf,z,d,g1,g2,g3,g4,g5,g6,g7⟩:=(T.ti _ _ hie).parts
 refine ⟨inf,z,g1,g2,g3,g4,?_,g5⟩
 have:=(g5 (fun _=>none)).len
 rw [(T.ti _ _ hie).zlen] at this
 simpa using this.symm
theorem aApp_ok [Val] (T:TbOk' P tb) {ts:Array TypeId} {ty:TypeId} {st st':S} {r:AV} {xs:List AV} {vs:List Value} (ha:aApp tb ts.toList st xs=some (r,st')) (hx:VRs ρ xs vs) (W:WR Pr w0 ρ st.h.get st.nx w) :
  ∃ v w',(Builtin.append_ ts ty vs.toArray).run P w=.ok v w'∧Out Pr w0 ρ st.nx r st' v w':=by
 unfold aApp at ha
 split at ha
 ·rename_i s x
  obtain ⟨v1,ys,rfl,hs,hx2⟩:=hx.hd
  obtain ⟨v2,ys,rfl,hxx,hx3⟩:=hx2.hd
  cases hx3
  split at ha
  ·rename_i t u hts
   have hts:=len2 hts
   subst hts
   obtain ⟨i,hi,h0⟩:=tiO_ok ha
   obtain ⟨iu,hiu,h1⟩:=tiO_ok h0
   clear ha h0
   obtain ⟨d,hd,hkd⟩:=(T.ti _ _ hi).kind
   obtain ⟨du,hdu,hkdu⟩:=(T.ti _ _ hiu).kind
   split at h1
   ·rename_i e e' k1 k2
    rw [k1] at hkd
    rw [k2] at hkdu
    cases d <;> simp [chkK,nbeq] at hkd
    cases du <;> simp [chkK,nbeq] at hkdu
    subst hkd
    subst hkdu
    obtain ⟨ie,hie,h2⟩:=tiO_ok h1
    clear h1
    obtain ⟨inf,z,g1,g2,g3,g4,g5,g6⟩:=zlen_ok T hie
    have hno:∀ {q:AV×S},appNo s st=some q→(v2=.slice none 0 0∨∃ ad c,v2=.slice (some ad) 0 c)→q=(r,st')→∃ v w',(Builtin.append_ #[t,u] ty #[v1,v2]).run P w=.ok v w'∧Out Pr w0 ρ st.nx r st' v w':=by
     intro q hq hv e
     subst e
     obtain ⟨a1,a2,a3⟩:=appNo_ok (P:=P) (w:=w) (ty:=ty) hd hdu g1 hq hs hv
     subst a2;subst a3
     exact ⟨_,_,a1,ρ,Ext.refl _ _,Nat.le_refl _,hs,W⟩
    split at h2
    ·cases hxx;exact hno h2 (.inl rfl) rfl
    ·cases hxx;exact hno h2 (.inr ⟨_,_,rfl⟩) rfl
    ·rename_i id off n cap
     cases hxx with
     | @sl _ _ _ _ b sl he =>
      rw [nbeq] at h2
      by_cases hn:n=0
      ·subst hn
       simp at h2
       exact hno h2 (.inr ⟨_,_,rfl⟩) rfl
      ·simp only [hn,decide_false,cond_false] at h2
       split at h2
       ·rename_i l e2 sz g hrow
        rw [nble] at h2
        by_cases hfit:off+n * ie.size≤l.length
        ·simp only [hfit,decide_true,cond_true] at h2
         obtain ⟨b',s',cs,ds,he2,hb,hl,hd',h1',hg⟩:=W.row hrow
         rw [he] at he2
         cases he2
         have hll:=hl.len
         have hones:∀ a∈(l.drop off).take (n * ie.size),a.one=true:=fun a ha=>h1' a (List.mem_of_mem_drop (List.mem_of_mem_take ha))
         obtain ⟨v,w',hr,ho⟩:=appX_ok (ty:=ty) (c:=cap+sl) (ad:=⟨b,off,none⟩) hd g1 g2 g3 g4 g5 W h2 hs ((hl.drop off).take (n * ie.size)) hones (by simp;omega) (row_cells hb off (n * ie.size))
         refine ⟨v,w',?_,ho⟩
         cases hs <;> first | (rw [app_types hd hdu];exact hr) | (exfalso;simp [appX] at h2;done) | (exfalso;simp [Builtin.append_,run_underlying hd,stuck,Sem.run] at hr)
        ·simp [hfit] at h2
       ·cases h2
    ·cases h2
   ·rename_i e kd k1 k2
    rw [k1] at hkd
    rw [k2] at hkdu
    cases d <;> simp [chkK,nbeq] at hkd
    cases du <;> simp [chkK,nbeq] at hkdu
    subst hkd
    subst hkdu
    split at h1
    ·rename_i n
     obtain ⟨ie,hie,h2⟩:=tiO_ok h1
     clear h1
     obtain ⟨inf,z,g1,g2,g3,g4,g5,g6⟩:=zlen_ok T hie
     cases hs
     cases hxx
     unfold appX at h2
     cases hc:(Nat.beq n 0 || !(Nat.ble n 100000) || !(Nat.ble ie.bytes 1000)) with
     | true=>rw [hc] at h2;cases h2
     | false =>
      rw [hc] at h2
      simp only [Bool.or_eq_false_iff,nbeq,nble,decide_eq_false_iff_not,Bool.not_eq_false',decide_eq_true_eq] at hc
      obtain ⟨⟨c1,c2⟩,c3⟩:=hc
      simp only [cond_false] at h2
      obtain ⟨q,hq,heq⟩:=map_some h2
      cases heq
      have hb1:n * inf.bytes≤100000 * 1000:=Nat.mul_le_mul c2 (by omega)
      have hfit:Builtin.nextslicecap n 0 * inf.bytes≤281474976710656:=growslice_fits (by omega) (by omega)
      have wl:IntKind.i64.wrap (n:Int)=n:=IntWalk.i64_in _ (by omega)
      have hzs:VRs ρ (rep n ie.zero) (List.replicate n z.cells.toList).flatten:=(g6 ρ).rep n
      have ho:=grow_new (Pr:=Pr) (w0:=w0) W hzs (fun a ha=>(T.ti _ _ hie).zone a (rep_mem ha)) g5 (grownCap_ge w n 0 e) hq
      refine ⟨_,_,?_,ho⟩
      have n1:¬ ((n:Int)<0):=by omega
      have n2:¬ (281474976710656<(n:Int) * inf.bytes):=by rw [← Int.natCast_mul];omega
      have n3:¬ (9223372036854775807<(n:Int)):=by omega
      have n4:¬ (281474976710656<Builtin.nextslicecap n 0 * inf.bytes):=by omega
      have hz0:n * inf.size=0→(List.replicate n z.cells.toList).flatten.toArray = #[]:=fun h=>by
       rw [← zero_eq]
       apply Array.eq_empty_of_size_eq_zero
       have:=zero_len z.cells n
       simp only [Array.length_toList] at this
       rw [this,g5,← g2];exact h
      by_cases hns:n * inf.size=0
      ·rw [hz0 hns]
       simp [Builtin.append_,run_underlying hd,run_underlying hdu,run_sz g1,run_ti g1,asInt,asIntOf,wl,n1,n2,c1,n3,n4,Builtin.firstCells,run_zv g1 g4,newRow,grownCap,Question.forced,hns]
      ·rw [← zero_eq]
       simp [Builtin.append_,run_underlying hd,run_underlying hdu,run_sz g1,run_ti g1,asInt,asIntOf,wl,n1,n2,c1,n3,n4,Builtin.firstCells,run_zv g1 g4,newRow,grownCap,Question.forced,hns]
    ·cases h1
   ·cases h1
  ·cases ha
 ·cases ha
end
section
variable {P:Program} {tb:Tb} {ρ:Env} {Pr:Nat→Prop} {w0 w w':World} {nx:Nat}
theorem aClr_ok [Val] (T:TbOk' P tb) {ts:Array TypeId} {ty:TypeId} {st st':S} {r:AV} {xs:List AV} {vs:List Value} (ha:aClr tb ts.toList st xs=some (r,st')) (hx:VRs ρ xs vs) (W:WR Pr w0 ρ st.h.get st.nx w) :
  ∃ w',(Builtin.clear_ ts ty vs.toArray).run P w=.ok undef w'∧Out Pr w0 ρ st.nx r st' undef w':=by
 unfold aClr at ha
 split at ha
 ·split at ha
  ·rename_i x _ t hts
   have hts:=len1 hts
   subst hts
   obtain ⟨v,ys,rfl,hv,hx2⟩:=hx.hd
   cases hx2
   obtain ⟨i,hi,h0⟩:=tiO_ok ha
   clear ha
   obtain ⟨d,hd,hkd⟩:=(T.ti _ _ hi).kind
   split at h0
   ·rename_i e k1
    rw [k1] at hkd
    cases d <;> simp [chkK,nbeq] at hkd
    subst hkd
    obtain ⟨ie,hie,h1⟩:=tiO_ok h0
    clear h0
    obtain ⟨inf,z,g1,g2,g3,g4,g5,g6⟩:=zlen_ok T hie
    have hsame:∀ {q:AV×S},some (AV.tup [],st)=some (r,st')→Out Pr w0 ρ st.nx r st' undef w:=fun h=>by
     cases h
     exact ⟨ρ,Ext.refl _ _,Nat.le_refl _,undef_vr,W⟩
    split at h1
    ·cases hv
     exact ⟨w,by simp [Builtin.clear_,run_underlying hd,undef],hsame (q:=(r,st)) h1⟩
    ·cases hv
     exact ⟨w,by simp [Builtin.clear_,run_underlying hd,undef],hsame (q:=(r,st)) h1⟩
    ·rename_i id off n cap
     rw [nbeq] at h1
     cases hv with
     | @sl _ _ _ _ b sl he =>
      by_cases hn:n=0
      ·subst hn
       simp only [decide_true,cond_true] at h1
       exact ⟨w,by simp [Builtin.clear_,run_underlying hd,undef],hsame (q:=(r,st)) h1⟩
      ·simp only [hn,decide_false,cond_false] at h1
       split at h1
       ·rename_i l e2 sz g hrow
        rw [nble] at h1
        by_cases hfit:off+n * ie.size≤l.length
        ·simp only [hfit,decide_true,cond_true,Option.some.injEq,Prod.mk.injEq] at h1
         obtain ⟨rfl,rfl⟩:=h1
         obtain ⟨b',s',cs,ds,he2,hb,hl,hd',h1',hg⟩:=W.row hrow
         rw [he] at he2
         cases he2
         have hll:=hl.len
         have hzs:VRs ρ (rep n ie.zero) (List.replicate n z.cells.toList).flatten:=(g6 ρ).rep n
         have hone:∀ a∈rep n ie.zero,a.one=true:=fun a ha=>(T.ti _ _ hie).zone a (rep_mem ha)
         have hzl:(List.replicate n z.cells.toList).flatten.length=n * ie.size:=by simp [g5]
         have hst:=run_storeCells_at (P:=P) b off e2 (List.replicate n z.cells.toList).flatten 0 (cs++ds).toArray w hb (by simp [g5];omega) (hzs.ones hone)
         simp only [Nat.add_zero,List.toList_toArray,put_app cs ds _ off (by rw [hzl];omega)] at hst
         refine ⟨_,?_,ρ,Ext.refl _ _,?_,undef_vr,upd_row W hrow he hb hd' hg (hl.put hzs off) (fun a ha=>(mem_put ha).elim (h1' a) (hone a))⟩
         ·have hz2:(Builtin.zeroCells z.cells n).toList=(List.replicate n z.cells.toList).flatten:=by rw [zero_eq]
          simp [Builtin.clear_,run_underlying hd,run_zv g1 g4,hz2,hst,undef]
         ·obtain ⟨_,_⟩:=st
          exact Nat.le_refl _
        ·simp [hfit] at h1
       ·cases h1
    ·cases h1
   ·cases h0
  ·cases ha
 ·cases ha
def CallS (P:Program) (k:Nat) (vs:List Value) (w:World) (R:Value→World→Prop):Prop:=Done P R ((callFunc k vs.toArray).run P w)
def CallOk [Val] (P:Program) (call:Nat→List AV→S→Option (AV×S)):Prop :=
 ∀ (k:Nat) (args:List AV) (st st':S) (r:AV),call k args st=some (r,st')→∀ (Pr:Nat→Prop) (w0:World) (ρ:Env) (w:World) (vs:List Value),WR Pr w0 ρ st.h.get st.nx w→VRs ρ args vs→CallS P k vs w (Out Pr w0 ρ st.nx r st')
theorem method_ok [Val] (T:TbOk' P tb) {t:Nat} {i:TI} {name:String} {k:Nat} (hi:tb.ti.get t=some i) (hl:i.meth.lookup name=some k) (v:Value) (args:Array Value) (w:World) :
  (callMethod (.iface t v) name args).run P w=(callFunc k (#[v]++args)).run P w:=by
 obtain ⟨inf,m,g1,g2,g3,g4⟩:=(T.ti _ _ hi).meth (T.noth _ _ hi) hl
 obtain ⟨d,hd,hk⟩:=(T.ti _ _ hi).kind
 obtain ⟨n,hn⟩:=depth_pos P
 have hrec:∀ q w,(receiverAt t (.val v) i.kind.isPtr q).run P w=.ok v w:=fun q w=>by
  unfold receiverAt
  have hno:=T.noth _ _ hi
  cases hkd:i.kind <;> rw [hkd] at hk hno <;> cases d <;> simp [chkK] at hk hno <;> simp [run_underlying hd,TK.isPtr,Place.get]
 have hm:∀ w,(method (n+1) t v name).run P w=.ok (k,v) w:=fun w=>by
  simp [method,run_ti g1,g2,g3,follow,g4,hrec]
 simp [callMethod,program,run_program,hn,hm]
theorem aMeth_ok [Val] (T:TbOk' P tb) {call:Nat→List AV→S→Option (AV×S)} (C:CallOk P call) {name:String} {st st':S} {r:AV} {xs:List AV} {v:Value} {vs:List Value} (ha:aMeth tb call name st xs=some (r,st')) (hx:VRs ρ xs (v :: vs)) (W:WR Pr w0 ρ st.h.get st.nx w) :
  Done P (Out Pr w0 ρ st.nx r st') ((callMethod v name vs.toArray).run P w):=by
 unfold aMeth at ha
 split at ha
 ·obtain ⟨i,hi,h0⟩:=tiO_ok ha
  clear ha
  split at h0
  ·rename_i k hk
   obtain ⟨v1,ys,e,h1,h2⟩:=hx.hd
   cases e
   cases h1 with
   | ifc h3 =>
    rw [method_ok T hi hk]
    have:=C _ _ _ _ _ h0 Pr w0 ρ w _ W (.cons h3 h2)
    unfold CallS at this
    simpa using this
  ·cases h0
 ·cases ha
theorem aVal_ok [Val] (T:TbOk' P tb) {call:Nat→List AV→S→Option (AV×S)} (C:CallOk P call) {st st':S} {r:AV} {xs:List AV} {v:Value} {vs:List Value} (ha:aVal tb call st xs=some (r,st')) (hx:VRs ρ xs (v :: vs)) (W:WR Pr w0 ρ st.h.get st.nx w) :
  Done P (Out Pr w0 ρ st.nx r st') ((do let d ← Deferred.ofValue v vs.toArray;invoke d.target d.args:Sem Next).run P w):=by
 unfold aVal at ha
 split at ha
 ·obtain ⟨v1,ys,e,h1,h2⟩:=hx.hd
  cases e
  cases h1 with
  | f ha1 hb1 =>
   have:=C _ _ _ _ _ ha Pr w0 ρ w _ W ((ha1.app h2).app hb1)
   unfold CallS at this
   simpa [Deferred.ofValue,invoke] using this
 ·obtain ⟨v1,ys,e,h1,h2⟩:=hx.hd
  cases e
  cases h1 with
  | fm h3 =>
   have:=aMeth_ok T C (v:=_) (vs:=vs) ha (.cons h3 h2) W
   simpa [Deferred.ofValue,invoke] using this
 ·cases ha
end
section
variable {P:Program} {tb:Tb} {ρ:Env} {Pr:Nat→Prop} {w0 w w':World} {nx:Nat}
theorem make_out [Val] {o:Oper} {ev:Operand→Value} {st st':S} {r:AV} (M:Makes P ev o ρ w st.h st.nx r st') (W:WR Pr w0 ρ st.h.get st.nx w):Done P (Out Pr w0 ρ st.nx r st') ((execOp ev o).run P w):=by
 obtain ⟨ob,o',c,rfl,hb,hr,hor,hv⟩:=M.ex
 rw [hr]
 have W1:=W.kept (kq_alloc w ob)
 have W2:=W1.add (id:=st.nx) (nx':=st.nx+1) (g:=w.heap.size) (s:=0) (by omega) (by simp) (by omega) (W.fresh _ (Nat.le_refl _)) (heap_alloc_new w ob) (fun hp=>by
  have h1:=W.prlt _ hp
  have h2:=W.size
  omega) (fun i oi s' hi he=>by
  have:=(W.live_lt hi he).1
  omega) hor
 exact ⟨_,fun id hid=>Env.add_other ρ _ (by omega),by simp,hv,W2.congr fun j=>(set_get st.h _ (by omega) j).symm⟩
theorem aCall_ok [Val] (T:TbOk' P tb) {call:Nat→List AV→S→Option (AV×S)} (C:CallOk P call) {o:Oper} {c:Call} (ho:o.op=.call c) {ev:Operand→Value} {st st':S} {r:AV} {xs:List AV} (ha:aCall tb call c xs st=some (r,st'))
  (hx:VRs ρ xs (c.operands.toList.map ev)) (W:WR Pr w0 ρ st.h.get st.nx w):Done P (Out Pr w0 ρ st.nx r st') ((execOp ev o).run P w):=by
 unfold aCall at ha
 have hcm:c.args.map ev=(c.args.toList.map ev).toArray:=by apply Array.ext';simp
 split at ha
 ·rename_i f hc
  have e:c.operands.toList.map ev=ev f :: c.args.toList.map ev:=by simp [Call.operands,hc]
  rw [e] at hx
  have:=aVal_ok T C ha hx W
  have e2:(execOp ev o).run P w=(do let d ← Deferred.ofValue (ev f) (c.args.toList.map ev).toArray;invoke d.target d.args:Sem Next).run P w:=by
   simp only [execOp,ho,resolve,hc,hcm]
  rw [e2]
  exact this
 ·rename_i f name hc
  have e:c.operands.toList.map ev=ev f :: c.args.toList.map ev:=by simp [Call.operands,hc]
  rw [e] at hx
  have:=aMeth_ok T C ha hx W
  have e2:(execOp ev o).run P w=(callMethod (ev f) name (c.args.toList.map ev).toArray).run P w:=by
   have q1:(#[ev f]++c.args.map ev)[0]? = some (ev f):=by rw [Array.getElem?_append_left (by simp)];rfl
   have q2:(#[ev f]++c.args.map ev).extract 1 (#[ev f]++c.args.map ev).size=(c.args.toList.map ev).toArray:=by apply Array.ext';simp;exact List.take_of_length_le (by simp)
   simp only [execOp,ho,resolve,hc,invoke,Sem.run_bind,Sem.run_pure,Result.andThen_ok,q1,q2]
  rw [e2]
  exact this
 ·rename_i hc
  rw [ops_builtin hc] at hx
  obtain ⟨cs,hcs⟩:=run_builtin (P:=P) ev o c _ ho hc
  obtain ⟨v,w',hr,hout⟩:=aApp_ok (ty:=o.type) T ha hx W
  rw [hcs,hcm]
  simp only [builtin,Sem.run_bind,hr,Result.andThen_ok,Sem.run_pure]
  exact hout
 ·rename_i hc
  rw [ops_builtin hc] at hx
  obtain ⟨cs,hcs⟩:=run_builtin (P:=P) ev o c _ ho hc
  obtain ⟨w',hr,rfl,hnx,hout⟩:=aDel_ok (ty:=o.type) T ha hx W
  rw [hcs,hcm]
  simp only [builtin,Sem.run_bind,hr,Result.andThen_ok,Sem.run_pure]
  exact ⟨ρ,Ext.refl _ _,by omega,undef_vr,hout⟩
 ·rename_i hc
  rw [ops_builtin hc] at hx
  obtain ⟨cs,hcs⟩:=run_builtin (P:=P) ev o c _ ho hc
  obtain ⟨w',hr,hout⟩:=aClr_ok (ty:=o.type) T ha hx W
  rw [hcs,hcm]
  simp only [builtin,Sem.run_bind,hr,Result.andThen_ok,Sem.run_pure]
  exact hout
 ·cases ha
theorem aop_ok [Val] (T:TbOk' P tb) {call:Nat→List AV→S→Option (AV×S)} (C:CallOk P call) {o:Oper} {ev:Operand→Value} {st st':S} {r:AV} {xs:List AV} (ha:aop tb call o.op xs st=some (r,st')) (hx:VRs ρ xs ((opl o.op).map ev))
  (W:WR Pr w0 ρ st.h.get st.nx w):Done P (Out Pr w0 ρ st.nx r st') ((execOp ev o).run P w):=by
 have h3:kindOf o.op=3→Done P (Out Pr w0 ρ st.nx r st') ((execOp ev o).run P w):=fun hk=>by
  obtain ⟨h,n⟩:=st
  exact make_out (st:=⟨h,n⟩) (make_ok T hk ha hx) W
 obtain ⟨dst,op,ty,pos,af,gd⟩:=o
 cases op
 case alloc t=>exact h3 rfl
 case box t x=>exact h3 rfl
 case buildSlice t n ps=>exact h3 rfl
 case makeSlice t x y=>exact h3 rfl
 case makeMap t q=>exact h3 rfl
 case store t x y=>exact aStore_ok T rfl ha hx W
 case mapUpdate t m k x =>
  obtain ⟨w',hr,rfl,hnx,hW⟩:=aUpd_ok T ha hx W
  have:(execOp ev ⟨dst,.mapUpdate t m k x,ty,pos,af,gd⟩).run P w=.ok .skip w':=by simp [execOp,hr]
  rw [this]
  exact ⟨ρ,Ext.refl _ _,by omega,undef_vr,hW⟩
 case insert t m k x =>
  obtain ⟨w',hr,rfl,hnx,hW⟩:=aUpd_ok T ha hx W
  have:(execOp ev ⟨dst,.insert t m k x,ty,pos,af,gd⟩).run P w=.ok .skip w':=by simp [execOp,hr]
  rw [this]
  exact ⟨ρ,Ext.refl _ _,by omega,undef_vr,hW⟩
 case call c=>exact aCall_ok T C rfl ha hx W
 all_goals (change (none:Option (AV×S))=some (r,st') at ha;cases ha)
end
inductive DRs [Val] (ρ:Env):List (Nat×List AV)→List Deferred→Prop
 | nil:DRs ρ [] []
 | cons {k:Nat} {l:List AV} {cap:Array Value} {d:Deferred} {r:List (Nat×List AV)} {ds:List Deferred} (ht:d.target=.fn (.func k) cap) (hl:VRs ρ l (d.args++cap).toList) (hs:DRs ρ r ds):DRs ρ ((k,l) :: r) (d :: ds)
theorem DRs.mono [Val] {ρ ρ':Env} (le:Le ρ ρ') {l:List (Nat×List AV)} {ds:List Deferred} (h:DRs ρ l ds):DRs ρ' l ds:=by
 induction h with
 | nil=>exact .nil
 | cons ht hl _ ih=>exact .cons ht (hl.mono le) ih
structure FRm [Val] (ρ:Env) (F:Fr) (a:Act):Prop where
 size:a.tmps.size=F.n
 le:F.n≤100000
 tm:∀ u v,F.t.get u=some v→∃ c,a.tmps[u]? = some c∧VR ρ v c
 df:DRs ρ F.d a.defers
section
variable {P:Program} {tb:Tb} {ρ ρ':Env} {Pr:Nat→Prop} {w0 w w':World} {nx:Nat} {F F':Fr} {a:Act}
theorem FRm.mono [Val] (le:Le ρ ρ') (h:FRm ρ F a):FRm ρ' F a:=⟨h.size,h.le,fun u v hu=>by obtain ⟨c,h1,h2⟩:=h.tm u v hu;exact ⟨c,h1,h2.mono le⟩,h.df.mono le⟩
theorem evo_ok [Val] (h:FRm ρ F a) {x:Operand} {v:AV} (hv:evo F.t x=some v):VR ρ v (a.eval x):=by
 cases x with
 | tmp t =>
  obtain ⟨c,h1,h2⟩:=h.tm t v hv
  have:a.eval (.tmp t)=c:=by simp [Act.eval,h1]
  rw [this];exact h2
 | const x=>exact ofV_ok hv
 | global g=>cases hv
 | func f =>
  change some (AV.f f [] [])=some v at hv
  cases hv
  have:=VR.f (ρ:=ρ) (k:=f) (as:=[]) (bs:=[]) .nil .nil
  exact this
theorem evl_ok [Val] (h:FRm ρ F a):∀ {l:List Operand} {xs:List AV},evl F.t l=some xs→VRs ρ xs (l.map a.eval)
 | [],xs,hv=>by change some []=some xs at hv;cases hv;exact .nil
 | x :: l,xs,hv=>by
  change cons2 (evo F.t x) (evl F.t l)=some xs at hv
  unfold cons2 at hv
  split at hv
  ·split at hv
   ·cases hv
    exact .cons (evo_ok h (by assumption)) (evl_ok h (by assumption))
   ·cases hv
  ·cases hv
theorem strict_eq {β:Type} (v:AV) (f:AV→β):strict v f=f v:=by
 cases v
 case i k n =>
  change strictI k n f=f (.i k n)
  cases n with
  | ofNat m=>cases m <;> rfl
  | negSucc m=>cases m <;> rfl
 all_goals rfl
theorem put_ok [Val] (h:FRm ρ F a) {dst:Option Nat} {v:AV} {c:Value} (hp:F.put dst v=some F') (hv:VR ρ v c):FRm ρ F' (a.put dst c)∧F'.n=F.n∧F'.d=F.d:=by
 unfold Fr.put at hp
 split at hp
 ·cases hp;exact ⟨h,rfl,rfl⟩
 ·rename_i k
  obtain ⟨t,n,d⟩:=F
  change putT t n d k v=some F' at hp
  unfold putT at hp
  rw [nble,strict_eq] at hp
  have hle:=h.le
  by_cases hk:Nat.succ k≤n
  ·simp only [hk,decide_true,cond_true,Option.some.injEq] at hp
   subst hp
   refine ⟨⟨by simpa [Act.put] using h.size,h.le,fun u x hu=>?_,h.df⟩,rfl,rfl⟩
   have hsz:a.tmps.size=n:=h.size
   have hle':n≤100000:=hle
   change (T.set 20 t k (some v)).get u=some x at hu
   rw [T.get_set 20 (some v) t 20 k u (by simp;omega) (Nat.le_refl _)] at hu
   by_cases huk:u=k
   ·subst huk
    simp at hu
    subst hu
    exact ⟨c,(by simp only [Act.put];rw [Array.getElem?_setIfInBounds_self_of_lt (by rw [hsz];exact hk)]),hv⟩
   ·simp only [huk,if_false] at hu
    obtain ⟨c',h1,h2⟩:=h.tm u x hu
    exact ⟨c',by simp [Act.put,Array.getElem?_setIfInBounds_ne (Ne.symm huk),h1],h2⟩
  ·simp [hk] at hp
theorem wants_ok [Val] (h:FRm ρ F a) {ops:Array Oper} {o:Oper} {b:Bool} (hw:wants ops F.t o=some b):Region.wanted o (yielded ops a.tmps)=b:=by
 unfold wants at hw
 unfold Region.wanted
 split at hw
 ·rename_i hg;cases hw;rw [hg]
 ·rename_i j wt hg
  rw [hg]
  simp only
  split at hw
  ·cases hw
  ·rename_i oj hj
   split at hw
   ·cases hw
   ·rename_i d hd
    split at hw
    ·rename_i x hx
     obtain ⟨c,h1,h2⟩:=h.tm d _ hx
     cases h2
     cases hw
     simp [yielded,hj,hd,h1]
    ·rename_i hx
     obtain ⟨c,h1,h2⟩:=h.tm d _ hx
     cases h2 with
     | tup h3 =>
      cases h3
      cases hw
      simp [yielded,hj,hd,h1]
    ·cases hw
theorem stepX_cases {call:Nat→List AV→S→Option (AV×S)} {op:Op} {xs:List AV} {d d':List (Nat×List AV)} {st st':S} {v:AV} (h:stepX tb call op xs d st=some (v,d',st')) :
  (∃ c x,op=.defer c∧dfr c xs=some x∧v=.tup []∧d'=x :: d∧st'=st) ∨
  ((∀ c,op≠.defer c)∧d'=d∧((pop tb op xs=some v∧st'=st)∨(rop tb op xs st.h=some v∧st'=st)∨aop tb call op xs st=some (v,st'))):=by
 have hP:∀ {r:Option AV},sP r d st=some (v,d',st')→r=some v∧d'=d∧st'=st:=fun h=>by
  unfold sP at h;split at h <;> cases h;exact ⟨rfl,rfl,rfl⟩
 have hA:∀ {r:Option (AV×S)},sA r d=some (v,d',st')→r=some (v,st')∧d'=d:=fun h=>by
  unfold sA at h;split at h <;> cases h;exact ⟨rfl,rfl⟩
 cases op
 case defer c =>
  left
  change sD (dfr c xs) d st=some (v,d',st') at h
  unfold sD at h
  split at h
  ·rename_i x hx;cases h;exact ⟨c,x,rfl,hx,rfl,rfl,rfl⟩
  ·cases h
 case call c =>
  right
  refine ⟨fun _ e=>(by cases e),?_⟩
  change sCall tb call c xs d st=some (v,d',st') at h
  unfold sCall at h
  split at h
  ·rename_i hq;cases h;exact ⟨rfl,.inl ⟨hq,rfl⟩⟩
  ·split at h
   ·rename_i hq;cases h;exact ⟨rfl,.inr (.inl ⟨hq,rfl⟩)⟩
   ·obtain ⟨h1,h2⟩:=hA h;exact ⟨h2,.inr (.inr h1)⟩
 case load t x=>right;obtain ⟨h1,h2,h3⟩:=hP h;exact ⟨fun _ e=>(by cases e),h2,.inr (.inl ⟨h1,h3⟩)⟩
 case lookup t x y ok=>right;obtain ⟨h1,h2,h3⟩:=hP h;exact ⟨fun _ e=>(by cases e),h2,.inr (.inl ⟨h1,h3⟩)⟩
 case alloc t=>right;obtain ⟨h1,h2⟩:=hA h;exact ⟨fun _ e=>(by cases e),h2,.inr (.inr h1)⟩
 case box t x=>right;obtain ⟨h1,h2⟩:=hA h;exact ⟨fun _ e=>(by cases e),h2,.inr (.inr h1)⟩
 case buildSlice t n ps=>right;obtain ⟨h1,h2⟩:=hA h;exact ⟨fun _ e=>(by cases e),h2,.inr (.inr h1)⟩
 case makeSlice t x y=>right;obtain ⟨h1,h2⟩:=hA h;exact ⟨fun _ e=>(by cases e),h2,.inr (.inr h1)⟩
 case makeMap t q=>right;obtain ⟨h1,h2⟩:=hA h;exact ⟨fun _ e=>(by cases e),h2,.inr (.inr h1)⟩
 case store t x y=>right;obtain ⟨h1,h2⟩:=hA h;exact ⟨fun _ e=>(by cases e),h2,.inr (.inr h1)⟩
 case mapUpdate t m k x=>right;obtain ⟨h1,h2⟩:=hA h;exact ⟨fun _ e=>(by cases e),h2,.inr (.inr h1)⟩
 case insert t m k x=>right;obtain ⟨h1,h2⟩:=hA h;exact ⟨fun _ e=>(by cases e),h2,.inr (.inr h1)⟩
 case move x=>right;obtain ⟨h1,h2,h3⟩:=hP h;exact ⟨fun _ e=>(by cases e),h2,.inl ⟨h1,h3⟩⟩
 case assign x=>right;obtain ⟨h1,h2,h3⟩:=hP h;exact ⟨fun _ e=>(by cases e),h2,.inl ⟨h1,h3⟩⟩
 case pick c x y=>right;obtain ⟨h1,h2,h3⟩:=hP h;exact ⟨fun _ e=>(by cases e),h2,.inl ⟨h1,h3⟩⟩
 case build t ps=>right;obtain ⟨h1,h2,h3⟩:=hP h;exact ⟨fun _ e=>(by cases e),h2,.inl ⟨h1,h3⟩⟩
 case nilCheck x=>right;obtain ⟨h1,h2,h3⟩:=hP h;exact ⟨fun _ e=>(by cases e),h2,.inl ⟨h1,h3⟩⟩
 case binOp op t x y u=>right;obtain ⟨h1,h2,h3⟩:=hP h;exact ⟨fun _ e=>(by cases e),h2,.inl ⟨h1,h3⟩⟩
 case unOp op t x=>right;obtain ⟨h1,h2,h3⟩:=hP h;exact ⟨fun _ e=>(by cases e),h2,.inl ⟨h1,h3⟩⟩
 case convert a b x=>right;obtain ⟨h1,h2,h3⟩:=hP h;exact ⟨fun _ e=>(by cases e),h2,.inl ⟨h1,h3⟩⟩
 case makeInterface t x=>right;obtain ⟨h1,h2,h3⟩:=hP h;exact ⟨fun _ e=>(by cases e),h2,.inl ⟨h1,h3⟩⟩
 case makeFunc fn l m=>right;obtain ⟨h1,h2,h3⟩:=hP h;exact ⟨fun _ e=>(by cases e),h2,.inl ⟨h1,h3⟩⟩
 case fieldAddr t x k=>right;obtain ⟨h1,h2,h3⟩:=hP h;exact ⟨fun _ e=>(by cases e),h2,.inl ⟨h1,h3⟩⟩
 case field t x k=>right;obtain ⟨h1,h2,h3⟩:=hP h;exact ⟨fun _ e=>(by cases e),h2,.inl ⟨h1,h3⟩⟩
 case indexAddr t x y=>right;obtain ⟨h1,h2,h3⟩:=hP h;exact ⟨fun _ e=>(by cases e),h2,.inl ⟨h1,h3⟩⟩
 case index t x y=>right;obtain ⟨h1,h2,h3⟩:=hP h;exact ⟨fun _ e=>(by cases e),h2,.inl ⟨h1,h3⟩⟩
 case slice t x lo hi mx=>right;obtain ⟨h1,h2,h3⟩:=hP h;exact ⟨fun _ e=>(by cases e),h2,.inl ⟨h1,h3⟩⟩
 case extract x k=>right;obtain ⟨h1,h2,h3⟩:=hP h;exact ⟨fun _ e=>(by cases e),h2,.inl ⟨h1,h3⟩⟩
 case typeAssert x t a ok=>right;obtain ⟨h1,h2,h3⟩:=hP h;exact ⟨fun _ e=>(by cases e),h2,.inl ⟨h1,h3⟩⟩
 all_goals (change (none:Option (AV×List (Nat×List AV)×S))=some (v,d',st') at h;cases h)
theorem wp_done {o:Oper} {a:Act} {w:World} {K:Act→World→Prop} {Q:Exit→Act→World→Prop} {R:Value→World→Prop} (h:Done P R ((execOp a.eval o).run P w)) (hK:∀ c w',R c w'→K (a.put o.dst c) w'):o.wp P a w K Q:=by
 unfold Oper.wp
 generalize (execOp a.eval o).run P w=r at h
 unfold Done at h
 split at h
 ·exact hK _ _ h
 ·exact hK _ _ h
 ·refine Calls.mono h fun e w' ⟨c,he,hr⟩=>?_
  subst he
  exact hK _ _ hr
 ·exact h.elim
end
section
variable {P:Program} {tb:Tb} {ρ:Env} {Pr:Nat→Prop} {w0 w w':World} {nx:Nat} {F F':Fr} {a:Act}
theorem Ext.trans {n m:Nat} {ρ1 ρ2 ρ3:Env} (h1:Ext n ρ1 ρ2) (h2:Ext m ρ2 ρ3) (hm:n≤m):Ext n ρ1 ρ3:=fun i hi=>(h2 i (Nat.lt_of_lt_of_le hi hm)).trans (h1 i hi)
def Nxt [Val] (Pr:Nat→Prop) (w0:World) (ρ:Env) (nx:Nat) (F':Fr) (st':S) (a':Act) (w':World):Prop:=∃ ρ',Ext nx ρ ρ'∧nx≤st'.nx∧FRm ρ' F' a'∧WR Pr w0 ρ' st'.h.get st'.nx w'
theorem withD_self (F:Fr):F.withD F.d=F:=by cases F;rfl
theorem FRm.withD [Val] (h:FRm ρ F a) {d':List (Nat×List AV)} {ds:List Deferred} (hd:DRs ρ d' ds):FRm ρ (F.withD d') { a with defers:=ds }:=by
 obtain ⟨t,n,d⟩:=F
 exact ⟨h.size,h.le,h.tm,hd⟩
theorem dfr_ok [Val] {o:Oper} {c:Call} (ho:o.op=.defer c) {ev:Operand→Value} {xs:List AV} {x:Nat×List AV} (hd:dfr c xs=some x) (hx:VRs ρ xs (c.operands.toList.map ev)) :
  ∃ k cap d,d.target=.fn (.func k) cap∧x.1=k∧VRs ρ x.2 (d.args++cap).toList∧(execOp ev o).run P w=.ok (.defer d) w:=by
 unfold dfr at hd
 split at hd
 ·rename_i f k as bs args hc
  cases hd
  have hcm:c.args.map ev=(c.args.toList.map ev).toArray:=by apply Array.ext';simp
  have e:c.operands.toList.map ev=ev f :: c.args.toList.map ev:=by simp [Call.operands,hc]
  rw [e] at hx
  obtain ⟨v1,ys,e1,h1,h2⟩:=hx.hd
  cases e1
  generalize hfv:ev f=fv at h1
  cases h1 with
  | f ha hb =>
   rename_i l1 l2
   have hv:VRs ρ (as++args++bs) ((l1.toArray++(c.args.toList.map ev).toArray)++l2.toArray).toList:=by
    have:=(ha.app h2).app hb
    simpa using this
   exact ⟨k,l2.toArray,{ target:=.fn (.func k) l2.toArray,args:=l1.toArray++(c.args.toList.map ev).toArray },rfl,rfl,hv,by simp only [execOp,ho,resolve,hc,hcm,hfv,Deferred.ofValue,Sem.run_bind,Sem.run_pure,Result.andThen_ok]⟩
 ·cases hd
theorem step_ok [Val] (T:TbOk' P tb) {call:Nat→List AV→S→Option (AV×S)} (C:CallOk P call) {o:Oper} {st st':S} {xs:List AV} {v:AV} {d':List (Nat×List AV)} (h:FRm ρ F a) (W:WR Pr w0 ρ st.h.get st.nx w)
  (hx:evl F.t (opl o.op)=some xs) (hs:stepX tb call o.op xs F.d st=some (v,d',st')) (hp:(F.withD d').put o.dst v=some F') {K:Act→World→Prop} {Q:Exit→Act→World→Prop}
  (hK:∀ a' w',Nxt Pr w0 ρ st.nx F' st' a' w'→K a' w'):o.wp P a w K Q:=by
 have hX:=evl_ok h hx
 rcases stepX_cases hs with ⟨c,x,ho,hd,rfl,rfl,rfl⟩ | ⟨_,rfl,hc⟩
 ·have hX':VRs ρ xs (c.operands.toList.map a.eval):=by rw [ho] at hX;exact hX
  obtain ⟨k,cap,d,h1,h2,h3,h4⟩:=dfr_ok (P:=P) (w:=w) ho hd hX'
  obtain ⟨k',l⟩:=x
  cases h2
  unfold Oper.wp
  rw [h4,Oper.upon_defer]
  have hF:=h.withD (.cons h1 h3 h.df)
  exact hK _ _ ⟨ρ,Ext.refl _ _,Nat.le_refl _,(put_ok hF hp undef_vr).1,W⟩
 ·rw [withD_self] at hp
  rcases hc with ⟨hq,rfl⟩ | ⟨hq,rfl⟩ | hq
  ·obtain ⟨c,h1,h2⟩:=pop_ok T hq hX
   unfold Oper.wp
   rw [h2 w,Oper.upon_value]
   exact hK _ _ ⟨ρ,Ext.refl _ _,Nat.le_refl _,(put_ok h hp h1).1,W⟩
  ·obtain ⟨c,h1,h2⟩:=rop_ok T W hq hX
   unfold Oper.wp
   rw [h2,Oper.upon_value]
   exact hK _ _ ⟨ρ,Ext.refl _ _,Nat.le_refl _,(put_ok h hp h1).1,W⟩
  ·refine wp_done (aop_ok T C hq hX W) fun c w' ⟨ρ',e,hn,hv,W'⟩=>?_
   exact hK _ _ ⟨ρ',e,hn,(put_ok (h.mono (e.le W)) hp hv).1,W'⟩
theorem runOps_ok [Val] (T:TbOk' P tb) {call:Nat→List AV→S→Option (AV×S)} (C:CallOk P call) {ops:Array Oper} {Q:Exit→Act→World→Prop}:∀ (l:List Oper) {ρ:Env} {F F':Fr} {st st':S} {a:Act} {w:World},
  runOps tb call ops l F st=some (F',st')→FRm ρ F a→WR Pr w0 ρ st.h.get st.nx w→(∀ a' w',Nxt Pr w0 ρ st.nx F' st' a' w'→Q .normal a' w')→wpList P ops Q l a w
 | [],ρ,F,F',st,st',a,w,hr,h,W,hQ=>by
  change some (F,st)=some (F',st') at hr
  cases hr
  exact hQ _ _ ⟨ρ,Ext.refl _ _,Nat.le_refl _,h,W⟩
 | o :: l,ρ,F,F',st,st',a,w,hr,h,W,hQ=>by
  change rOp tb call ops o F st (runOps tb call ops l)=some (F',st') at hr
  refine wpList_step fun K hK=>?_
  unfold rOp at hr
  split at hr
  ·cases hr
  ·rename_i hw
   rw [wants_ok h hw]
   unfold aft at hr
   split at hr
   ·rename_i F1 hp
    simp only [Bool.false_eq_true,if_false]
    exact hK _ _ (runOps_ok T C l hr (put_ok h hp undef_vr).1 W hQ)
   ·cases hr
  ·rename_i hw
   rw [wants_ok h hw]
   simp only [if_true]
   split at hr
   ·cases hr
   ·rename_i xs hx
    unfold rGo at hr
    split at hr
    ·cases hr
    ·rename_i v d' st1 hs
     unfold aft at hr
     split at hr
     ·rename_i F1 hp
      refine step_ok T C h W hx hs hp fun a1 w1 ⟨ρ1,e1,n1,h1,W1⟩=>hK _ _ (runOps_ok T C l hr h1 W1 fun a2 w2 ⟨ρ2,e2,n2,h2,W2⟩=>hQ _ _ ⟨ρ2,e1.trans e2 n1,Nat.le_trans n1 n2,h2,W2⟩)
     ·cases hr
end
end Go.Ex
