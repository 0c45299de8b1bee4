import Derived.Test.YtgliljnbajohhaaGreatDoorQ36
import Derived.Test.YtgliljnbajohhaaGreatDoorQ08
set_option linter.unusedVariables false
set_option linter.unusedSimpArgs false
namespace Go.Ex
open Go Go.RowKit Go.Proofs Go.Proofs.YtgliljnbajohhaaGreatDoor Go.Proofs.Geo
set_option maxRecDepth 100000
@[reducible] def v0:Val:=⟨fun _=>0,fun _=>.pointer none,fun _=>[],fun _ _=>True,fun _ _ _ _ _ _ _=>trivial⟩
theorem orcR_ok [Val] {k:Nat} {args:List AV} {st st':S} {r:AV} (h:orcR k args st=some (r,st')) (Pr:Nat→Prop) (w0:World) (ρ:Env) (w:World) (vs:List Value) (W:WR Pr w0 ρ st.h.get st.nx w) (hv:VRs ρ args vs):CallS Tryz.prog k vs w (Out Pr w0 ρ st.nx r st'):=by
 unfold orcR at h
 cases hk:Nat.beq k 133 with
 | false=>simp [hk] at h
 | true =>
  have hkk:=nbt hk
  subst hkk
  simp only [hk,cond_true] at h
  split at h
  ·rename_i id off cap
   split at h
   ·rename_i l e sz g hrow
    cases hq:AV.beqs ((l.drop off).take 8) [.i .i64 0,.i .i64 0,.i .i64 4,.i .i64 0,.i .i64 4,.i .i64 4,.i .i64 0,.i .i64 4] with
    | false=>simp [hq] at h
    | true =>
     simp only [hq,cond_true,Option.some.injEq,Prod.mk.injEq] at h
     obtain ⟨rfl,rfl⟩:=h
     have hl:=AV.beqs_eq _ _ hq
     obtain ⟨b,s,cs,ds,c1,c2,c3,_⟩:=W.row hrow
     cases hv with
     | cons h1 h2 =>
      cases h2
      cases h1 with
      | @sl _ _ _ _ g2 s2 he =>
       rw [c1] at he
       cases he
       have hp:=(c3.drop off).take 8
       rw [hl] at hp
       have hcs:=vrs_fn (l:=[.i .i64 0,.i .i64 0,.i .i64 4,.i .i64 0,.i .i64 4,.i .i64 4,.i .i64 0,.i .i64 4]) (by decide) hp (ys:=flat (ring4 0 0 4 4)) (.cons (.i _ _) (.cons (.i _ _) (.cons (.i _ _) (.cons (.i _ _) (.cons (.i _ _) (.cons (.i _ _) (.cons (.i _ _) (.cons (.i _ _) .nil))))))))
       have hrd:RdC w (.slice (some ⟨b,off,none⟩) 4 (cap+s)) (ring4 0 0 4 4):=by
        refine ⟨by decide,.inr ⟨⟨b,off,none⟩,cap+s,rfl,fun j u hj=>?_⟩⟩
        rw [add_cell]
        rw [← hcs,List.getElem?_take,List.getElem?_drop] at hj
        split at hj
        ·exact cell_app c2 hj
        ·cases hj
       have hc:=check_any _ (ring4 0 0 4 4) w hrd (by decide)
       rw [box_chk (by decide) (by decide) (by decide) (by decide)] at hc
       refine calls_S Tryz.func133 (by kernel_rfl) rfl hc ?_
       rintro e w' ⟨rfl,hkp⟩
       exact ⟨_,rfl,ρ,Ext.refl _ _,Nat.le_refl _,.agg (xs:=[_,_]) (.cons (.i _ _) (.cons (.i _ _) .nil)),W.kept hkp⟩
   ·cases h
  ·cases h
noncomputable def sumsL:List AV:=[.i .u32 0,.i .u32 1996959894,.i .u32 3993919788,.i .u32 2567524794,.i .u32 124634137,.i .u32 1886057615,.i .u32 3915621685,.i .u32 2657392035,.i .u32 249268274,.i .u32 2044508324,.i .u32 3772115230,.i .u32 2547177864,.i .u32 162941995,.i .u32 2125561021,.i .u32 3887607047,.i .u32 2428444049,.i .u32 498536548,.i .u32 1789927666,.i .u32 4089016648,.i .u32 2227061214,.i .u32 450548861,.i .u32 1843258603,.i .u32 4107580753,.i .u32 2211677639,.i .u32 325883990,.i .u32 1684777152,.i .u32 4251122042,.i .u32 2321926636,.i .u32 335633487,.i .u32 1661365465,.i .u32 4195302755,.i .u32 2366115317,.i .u32 997073096,.i .u32 1281953886,.i .u32 3579855332,.i .u32 2724688242,.i .u32 1006888145,.i .u32 1258607687,.i .u32 3524101629,.i .u32 2768942443,.i .u32 901097722,.i .u32 1119000684,.i .u32 3686517206,.i .u32 2898065728,.i .u32 853044451,.i .u32 1172266101,.i .u32 3705015759,.i .u32 2882616665,.i .u32 651767980,.i .u32 1373503546,.i .u32 3369554304,.i .u32 3218104598,.i .u32 565507253,.i .u32 1454621731,.i .u32 3485111705,.i .u32 3099436303,.i .u32 671266974,.i .u32 1594198024,.i .u32 3322730930,.i .u32 2970347812,.i .u32 795835527,.i .u32 1483230225,.i .u32 3244367275,.i .u32 3060149565,.i .u32 1994146192,.i .u32 31158534,.i .u32 2563907772,.i .u32 4023717930,.i .u32 1907459465,.i .u32 112637215,.i .u32 2680153253,.i .u32 3904427059,.i .u32 2013776290,.i .u32 251722036,.i .u32 2517215374,.i .u32 3775830040,.i .u32 2137656763,.i .u32 141376813,.i .u32 2439277719,.i .u32 3865271297,.i .u32 1802195444,.i .u32 476864866,.i .u32 2238001368,.i .u32 4066508878,.i .u32 1812370925,.i .u32 453092731,.i .u32 2181625025,.i .u32 4111451223,.i .u32 1706088902,.i .u32 314042704,.i .u32 2344532202,.i .u32 4240017532,.i .u32 1658658271,.i .u32 366619977,.i .u32 2362670323,.i .u32 4224994405,.i .u32 1303535960,.i .u32 984961486,.i .u32 2747007092,.i .u32 3569037538,.i .u32 1256170817,.i .u32 1037604311,.i .u32 2765210733,.i .u32 3554079995,.i .u32 1131014506,.i .u32 879679996,.i .u32 2909243462,.i .u32 3663771856,.i .u32 1141124467,.i .u32 855842277,.i .u32 2852801631,.i .u32 3708648649,.i .u32 1342533948,.i .u32 654459306,.i .u32 3188396048,.i .u32 3373015174,.i .u32 1466479909,.i .u32 544179635,.i .u32 3110523913,.i .u32 3462522015,.i .u32 1591671054,.i .u32 702138776,.i .u32 2966460450,.i .u32 3352799412,.i .u32 1504918807,.i .u32 783551873,.i .u32 3082640443,.i .u32 3233442989,.i .u32 3988292384,.i .u32 2596254646,.i .u32 62317068,.i .u32 1957810842,.i .u32 3939845945,.i .u32 2647816111,.i .u32 81470997,.i .u32 1943803523,.i .u32 3814918930,.i .u32 2489596804,.i .u32 225274430,.i .u32 2053790376,.i .u32 3826175755,.i .u32 2466906013,.i .u32 167816743,.i .u32 2097651377,.i .u32 4027552580,.i .u32 2265490386,.i .u32 503444072,.i .u32 1762050814,.i .u32 4150417245,.i .u32 2154129355,.i .u32 426522225,.i .u32 1852507879,.i .u32 4275313526,.i .u32 2312317920,.i .u32 282753626,.i .u32 1742555852,.i .u32 4189708143,.i .u32 2394877945,.i .u32 397917763,.i .u32 1622183637,.i .u32 3604390888,.i .u32 2714866558,.i .u32 953729732,.i .u32 1340076626,.i .u32 3518719985,.i .u32 2797360999,.i .u32 1068828381,.i .u32 1219638859,.i .u32 3624741850,.i .u32 2936675148,.i .u32 906185462,.i .u32 1090812512,.i .u32 3747672003,.i .u32 2825379669,.i .u32 829329135,.i .u32 1181335161,.i .u32 3412177804,.i .u32 3160834842,.i .u32 628085408,.i .u32 1382605366,.i .u32 3423369109,.i .u32 3138078467,.i .u32 570562233,.i .u32 1426400815,.i .u32 3317316542,.i .u32 2998733608,.i .u32 733239954,.i .u32 1555261956,.i .u32 3268935591,.i .u32 3050360625,.i .u32 752459403,.i .u32 1541320221,.i .u32 2607071920,.i .u32 3965973030,.i .u32 1969922972,.i .u32 40735498,.i .u32 2617837225,.i .u32 3943577151,.i .u32 1913087877,.i .u32 83908371,.i .u32 2512341634,.i .u32 3803740692,.i .u32 2075208622,.i .u32 213261112,.i .u32 2463272603,.i .u32 3855990285,.i .u32 2094854071,.i .u32 198958881,.i .u32 2262029012,.i .u32 4057260610,.i .u32 1759359992,.i .u32 534414190,.i .u32 2176718541,.i .u32 4139329115,.i .u32 1873836001,.i .u32 414664567,.i .u32 2282248934,.i .u32 4279200368,.i .u32 1711684554,.i .u32 285281116,.i .u32 2405801727,.i .u32 4167216745,.i .u32 1634467795,.i .u32 376229701,.i .u32 2685067896,.i .u32 3608007406,.i .u32 1308918612,.i .u32 956543938,.i .u32 2808555105,.i .u32 3495958263,.i .u32 1231636301,.i .u32 1047427035,.i .u32 2932959818,.i .u32 3654703836,.i .u32 1088359270,.i .u32 936918000,.i .u32 2847714899,.i .u32 3736837829,.i .u32 1202900863,.i .u32 817233897,.i .u32 3183342108,.i .u32 3401237130,.i .u32 1404277552,.i .u32 615818150,.i .u32 3134207493,.i .u32 3453421203,.i .u32 1423857449,.i .u32 601450431,.i .u32 3009837614,.i .u32 3294710456,.i .u32 1567103746,.i .u32 711928724,.i .u32 3020668471,.i .u32 3272380065,.i .u32 1510334235,.i .u32 755167117]
noncomputable def orcA (k:Nat) (args:List AV) (st:S):Option (AV×S) :=
 bif Nat.beq k 386 then
  match args with
  | []=>some (.agg sumsL,st)
  | _=>none
 else orcR k args st
noncomputable def tbA:Tb:=⟨tiT,ftT,xtT,orcA,fun _ _=>none,fun _ _ _ _=>none⟩
theorem let0 [Val] (P:Program):LetOk P (fun _ _=>none) (fun _ _ _ _=>none):=⟨fun _ _ _ h=>(by cases h),fun _ _ _ _ _ h=>(by cases h)⟩
theorem sums_run:ends (run tb 3000 386 [] ⟨.e,0⟩) (.agg sumsL) (fun _=>true)=true:=by kernel_rfl
theorem orcA_ok {k:Nat} {args:List AV} {st st':S} {r:AV} (h:orcA k args st=some (r,st')):letI:=v0;∀ (Pr:Nat→Prop) (w0:World) (ρ:Env) (w:World) (vs:List Value),WR Pr w0 ρ st.h.get st.nx w→VRs ρ args vs→CallS Tryz.prog k vs w (Out Pr w0 ρ st.nx r st'):=by
 letI:=v0
 unfold orcA at h
 cases hk:Nat.beq k 386 with
 | false=>simp only [hk,cond_false] at h;exact orcR_ok h
 | true =>
  have hkk:=nbt hk
  subst hkk
  simp only [hk,cond_true] at h
  split at h
  ·simp only [Option.some.injEq,Prod.mk.injEq] at h
   obtain ⟨rfl,rfl⟩:=h
   obtain ⟨st1,h1,_⟩:=ends_ok sums_run
   exact fun Pr w0 ρ w vs W hv=>memo_ok (tbOk orcR (let0 _)) (xok (cmp:=fun _ _=>none) (ari:=fun _ _ _ _=>none) fun _ _ _ _ _ h=>orcR_ok h) h1 (fun _=>trivial) (fun _ _ _ h=>flats_vr (l:=[]) rfl h) (aggs_vr (by decide)) st Pr w0 ρ w vs W hv
  ·cases h
end Go.Ex
