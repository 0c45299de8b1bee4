import Derived.Test.YtgliljnbajohhaaGreatDoorQ25
import Derived.Test.YtgliljnbajohhaaGreatDoorQ00
import Derived.ChangeKeysEq
import Derived.Laws.Rows
import Derived.Deep.MidRow
import Derived.IntWalk
import Derived.BigRegion
import Derived.RegionTactic
import Derived.Deep.DeepCutAuto
import Derived.Laws.Bits64
import Derived.Laws.BitsLemmas
import Derived.Test.YtgliljnbajohhaaGreatDoorQ20
import Derived.Test.YtgliljnbajohhaaGreatDoorQ02
import Derived.Deep.RegionHeld3
set_option linter.unusedVariables false
set_option linter.unusedSimpArgs false
namespace Go.Proofs.YtgliljnbajohhaaGreatDoor
open Go.RowKit Go.Proofs.Geo
def sgnd (q:Nat) (bl:Bool):Int×Int:=if bl then (if q≤9223372036854775808 then (-(q:Int),0) else (0,5)) else (if q<9223372036854775808 then ((q:Int),0) else (0,5))
def evUp (q r y:Nat):Bool:=decide (y<2 * r) || (decide (2 * r=y) && decide (q % 2=1))
def blw (a b c:Int):Bool:=decide ((a * b).sign * c.sign<0)
def divR (up:Nat→Nat→Nat→Bool→Bool) (a b c:Int):Int×Int :=
 if c=0 then (0,2) else sgnd ((a * b).natAbs / c.natAbs+(if up ((a * b).natAbs / c.natAbs) ((a * b).natAbs % c.natAbs) c.natAbs (blw a b c) then 1 else 0)) (blw a b c)
def evR (a b c:Int):Int×Int:=divR (fun q r y _=>evUp q r y) a b c
theorem sgnd_out {q:Nat} (h:18446744073709551616≤q) (bl:Bool):sgnd q bl=(0,5):=by
 unfold sgnd;cases bl
 ·rw [if_neg (by decide),if_neg (by omega)]
 ·rw [if_pos rfl,if_neg (by omega)]
theorem ret2 {x y u v:Int} (h1:x=u) (h2:y=v):Ending.returned (.tuple #[.int .i64 x,.int .i64 y])=.returned (.tuple #[.int .i64 u,.int .i64 v]):=by rw [h1,h2]
theorem neg_wrap {q:Nat} (h:q≤9223372036854775808):IntKind.i64.wrap (IntKind.u64.wrap (-(q:Int))) = -(q:Int):=by
 rw [IntKind.wrap_u64]
 simp only [IntKind.wrap,IntKind.bits,IntKind.signed]
 simp
 split <;> omega
set_option maxHeartbeats 8000000 in
set_option maxRecDepth 100000 in
theorem signed_any (q:Nat) (hq:q<18446744073709551616) (bl:Bool) (w:World):Calls Tryz.prog 374 #[.int .u64 q,.bool bl] w fun e w'=>e=.returned (.tuple #[.int .i64 (sgnd q bl).1,.int .i64 (sgnd q bl).2])∧w=w':=by
 cases bl
 ·by_cases h:q<9223372036854775808
  ·have H:Hid (sgnd q false=((q:Int),0)):=Lib.hid (by unfold sgnd;rw [if_neg (by decide),if_pos h])
   have h1:(q:Int)<9223372036854775808:=by omega
   go_enter Tryz.func374,Tryz.ntmps374
   go_wp2
   go_ret2
   exact ⟨ret2 (by rw [H.out]) (by rw [H.out]),rfl⟩
  ·have H:Hid (sgnd q false=(0,5)):=Lib.hid (by unfold sgnd;rw [if_neg (by decide),if_neg h])
   have h1:decide ((q:Int)<9223372036854775808)=false:=decide_eq_false (by omega)
   clear h
   go_enter Tryz.func374,Tryz.ntmps374
   go_wp2
   go_ret2
   exact ⟨ret2 (by rw [H.out]) (by rw [H.out]),rfl⟩
 ·by_cases h:q≤9223372036854775808
  ·have H:Hid (sgnd q true=(-(q:Int),0)):=Lib.hid (by unfold sgnd;rw [if_pos rfl,if_pos h])
   have h1:decide ((q:Int)≤9223372036854775808)=true:=decide_eq_true (by omega)
   have hw:=neg_wrap h
   have hw2:wrap64 (IntKind.u64.wrap (-(q:Int))) = -(q:Int):=by rw [← IntWalk.i64_left];exact hw
   clear h
   go_enter Tryz.func374,Tryz.ntmps374
   go_wp2
   go_ret2
   exact ⟨ret2 (by rw [H.out]) (by rw [H.out]),rfl⟩
  ·have H:Hid (sgnd q true=(0,5)):=Lib.hid (by unfold sgnd;rw [if_pos rfl,if_neg h])
   have h1:decide ((q:Int)≤9223372036854775808)=false:=decide_eq_false (by omega)
   clear h
   go_enter Tryz.func374,Tryz.ntmps374
   go_wp2
   go_ret2
   exact ⟨ret2 (by rw [H.out]) (by rw [H.out]),rfl⟩
set_option maxHeartbeats 8000000 in
set_option maxRecDepth 100000 in
theorem ev1_any (q r y:Nat) (bl:Bool) (hr:r<y) (hy:y<18446744073709551616) (w:World):Calls Tryz.prog 321 #[.int .u64 q,.int .u64 r,.int .u64 y,.bool bl] w fun e w'=>e=.returned (.bool (evUp q r y))∧w=w':=by
 obtain ⟨d,hd⟩:∃ d,y - r=d:=⟨_,rfl⟩
 have ew:IntKind.u64.wrap (d:Int)=(d:Int):=u64n (by omega)
 have e2:(q:Int).tmod 2=(q:Int) % 2:=Int.tmod_eq_emod_of_nonneg (by omega)
 have e3:(y:Int) - (r:Int)=(d:Int):=by omega
 by_cases h1:y<2 * r
 ·have H:Hid (evUp q r y=true):=Lib.hid (by unfold evUp;rw [decide_eq_true h1];rfl)
  have c1:d<r:=by omega
  clear h1 hr hy hd
  go_enter Tryz.func321,Tryz.ntmps321
  go_wp2
  go_ret
  exact ⟨ret_bool H.out.symm,rfl⟩
 ·by_cases h2:2 * r=y
  ·have H:Hid (evUp q r y=((q:Int) % 2 == 1)):=Lib.hid (by unfold evUp;rw [decide_eq_false h1,decide_eq_true h2,Bool.eq_iff_iff];simp;omega)
   obtain rfl:r=d:=by omega
   have c1:decide (r<r)=false:=by simp
   clear h1 hr hy hd h2
   go_enter Tryz.func321,Tryz.ntmps321
   go_wp2
   go_ret
   exact ⟨ret_bool (by rw [H.out]),rfl⟩
  ·have H:Hid (evUp q r y=false):=Lib.hid (by unfold evUp;rw [decide_eq_false h1,decide_eq_false h2];rfl)
   have c1:decide (d<r)=false:=decide_eq_false (by omega)
   have c2:(r == d)=false:=by simp;omega
   have c3:((r:Int) == (d:Int))=false:=by simp;omega
   clear h1 hr hy hd h2
   go_enter Tryz.func321,Tryz.ntmps321
   go_wp2
   go_ret
   exact ⟨ret_bool H.out.symm,rfl⟩
theorem mulHL (a b:Int):(mulH a b).toNat * 18446744073709551616+(mulL a b).toNat=(a * b).natAbs:=by
 rw [Int.natAbs_mul];unfold mulH mulL;omega
theorem i64_abs {c:Int} (h:I64 c):c.natAbs<18446744073709551616:=by unfold I64 at h;omega
theorem sgn_wrap (a b c:Int):IntKind.i64.wrap (mulS a b * cmpI c 0)=(a * b).sign * c.sign:=by
 rw [mulS_eq,cmpI_zero]
 refine IntWalk.i64_in _ ?_
 have h1:=sign_bd (a * b)
 have h2:=sign_bd c
 have e1:(a * b).sign = -1∨(a * b).sign=0∨(a * b).sign=1:=by omega
 rcases e1 with e | e | e <;> rw [e] <;> omega
theorem divR_no {up:Nat→Nat→Nat→Bool→Bool} {a b c:Int} (h:c=0):divR up a b c=(0,2):=by unfold divR;rw [if_pos h]
theorem divR_big {up:Nat→Nat→Nat→Bool→Bool} {a b c:Int} {H L:Nat} (h:c≠0) (hn:H * 18446744073709551616+L=(a * b).natAbs) (hy:c.natAbs≤H):divR up a b c=(0,5):=by
 unfold divR;rw [if_neg h]
 refine sgnd_out ?_ _
 refine Nat.le_trans ?_ (Nat.le_add_right _ _)
 rw [Nat.le_div_iff_mul_le (by omega),← hn]
 have:=Nat.mul_le_mul_left 18446744073709551616 hy
 omega
theorem divR_val {up:Nat→Nat→Nat→Bool→Bool} {a b c:Int} {N q r y:Nat} {bl u:Bool} (h:c≠0) (hN:N=(a * b).natAbs) (hy:c.natAbs=y) (hq:N / y=q) (hr:N % y=r) (hb:blw a b c=bl) (hu:up q r y bl=u):divR up a b c=sgnd (q+if u then 1 else 0) bl:=by
 unfold divR;rw [if_neg h,← hN,hy,hq,hr,hb,hu]
theorem div_lt64 {H L y:Nat} (h:H<y) (hl:L<18446744073709551616):(H * 18446744073709551616+L) / y<18446744073709551616:=by
 rw [Nat.div_lt_iff_lt_mul (by omega)]
 have:=Nat.mul_le_mul_right 18446744073709551616 (show H+1≤y from h)
 rw [Nat.add_mul] at this
 rw [Nat.mul_comm 18446744073709551616];omega
set_option maxHeartbeats 8000000 in
set_option maxRecDepth 100000 in
theorem dive_any (a b c:Int) (ha:I64 a) (hb:I64 b) (hc:I64 c) (w:World):Calls Tryz.prog 320 #[.int .i64 a,.int .i64 b,.int .i64 c,.func (.func 321) #[] #[]] w fun e w'=>e=.returned (.tuple #[.int .i64 (divR (fun q r y _=>evUp q r y) a b c).1,.int .i64 (divR (fun q r y _=>evUp q r y) a b c).2])∧Kp w w':=by
 by_cases h0:c=0
 ·have H:=Lib.hid (divR_no (up:=(fun q r y _=>evUp q r y)) (a:=a) (b:=b) h0)
  subst h0
  go_enter Tryz.func320,Tryz.ntmps320
  go_wp2
  go_ret2
  exact ⟨ret2 (by rw [H.out]) (by rw [H.out]),kp_refl _⟩
 ·have hc0:(c == 0)=false:=by simp [h0]
  obtain ⟨H,hH⟩:∃ H:Nat,mulH a b=(H:Int):=⟨_,rfl⟩
  obtain ⟨L,hL⟩:∃ L:Nat,mulL a b=(L:Int):=⟨_,rfl⟩
  obtain ⟨Y,hY⟩:∃ Y:Nat,c.natAbs=Y:=⟨_,rfl⟩
  obtain ⟨bl,hbl⟩:∃ x,blw a b c=x:=⟨_,rfl⟩
  have hn:H * 18446744073709551616+L=(a * b).natAbs:=by have:=mulHL a b;rw [hH,hL] at this;simpa using this
  have hL64:L<18446744073709551616:=by have:mulL a b<18446744073709551616:=(by unfold mulL;omega);omega
  have hY64:Y<18446744073709551616:=by rw [← hY];exact i64_abs hc
  have hY0:0<Y:=by omega
  have mm:=fun w=>mul_any a b ha hb w
  have ms:=fun w=>size_any c hc w
  have mg:=fun w=>sign_any c w
  have ws:=sgn_wrap a b c
  obtain ⟨S,hS⟩:∃ S,(a * b).sign * c.sign=S:=⟨_,rfl⟩
  have hSb:decide (S<0)=bl:=by rw [← hbl,← hS];rfl
  rw [hS] at ws
  rw [hH,hL] at mm
  rw [hY] at ms
  generalize mulS a b=M at *
  generalize cmpI c 0=G at *
  have ws2:wrap64 (M * G)=S:=by rw [← IntWalk.i64_left];exact ws
  have HM:=Lib.hid mm
  have HS:=Lib.hid ms
  have HG:=Lib.hid mg
  have HY64:=Lib.hid hY64
  have HL64:=Lib.hid hL64
  have HY0:=Lib.hid hY0
  clear mm ms mg hL64 hY64 hY0 hS hH hL
  by_cases hbig:Y≤H
  ·have HV:=Lib.hid (divR_big (up:=(fun q r y _=>evUp q r y)) (a:=a) (b:=b) (c:=c) (H:=H) (L:=L) h0 hn (by rw [hY];exact hbig))
   clear hn hbl hY h0
   go_enter Tryz.func320,Tryz.ntmps320
   go_wp2_with (first
    | (go_at_call 370;refine (HM.out _).mono ?_;rintro e w' ⟨rfl,rfl⟩)
    | (go_at_call 371;refine (HS.out _).mono ?_;rintro e w' ⟨rfl,rfl⟩)
    | (go_at_call 372;refine (HG.out _).mono ?_;rintro e w' ⟨rfl,rfl⟩))
   go_ret2
   exact ⟨ret2 (by rw [HV.out]) (by rw [HV.out]),kp_refl _⟩
  ·have hlt:H<Y:=by omega
   have hd:decide (Y≤H)=false:=decide_eq_false hbig
   have hdv:=fun w=>div64_any H L Y hlt HY64.out HL64.out w
   have hq64:=div_lt64 hlt HL64.out
   have hry:(H * 18446744073709551616+L) % Y<Y:=Nat.mod_lt _ HY0.out
   obtain ⟨q,hq⟩:∃ q,(H * 18446744073709551616+L) / Y=q:=⟨_,rfl⟩
   obtain ⟨r,hr⟩:∃ r,(H * 18446744073709551616+L) % Y=r:=⟨_,rfl⟩
   rw [hq,hr] at hdv
   rw [hq] at hq64
   rw [hr] at hry
   have HRY:=Lib.hid hry
   have he:=fun (w:World)=>ev1_any q r Y bl HRY.out HY64.out w
   obtain ⟨u,hu⟩:∃ u,(fun q r y _=>evUp q r y) q r Y bl=u:=⟨_,rfl⟩
   have HV:=Lib.hid (divR_val (up:=(fun q r y _=>evUp q r y)) h0 hn hY hq hr hbl hu)
   have hu2:evUp q r Y=u:=hu
   rw [hu2] at he
   have HD:=Lib.hid hdv
   have HE:=Lib.hid he
   have HQ:=Lib.hid hq64
   clear hn hbl hY h0 hdv hq hr hu hu2 he hry hq64 hbig
   have hlt2:decide (Y≤H)=false:=hd
   cases u
   ·have HG2:=Lib.hid (fun w=>signed_any q HQ.out bl w)
    go_enter Tryz.func320,Tryz.ntmps320
    go_wp2_with (first
     | (go_at_call 370;refine (HM.out _).mono ?_;rintro e w' ⟨rfl,rfl⟩)
     | (go_at_call 371;refine (HS.out _).mono ?_;rintro e w' ⟨rfl,rfl⟩)
     | (go_at_call 372;refine (HG.out _).mono ?_;rintro e w' ⟨rfl,rfl⟩)
     | (go_at_call 373;refine (HD.out _).mono ?_;rintro e w2 ⟨rfl,hk⟩;have HK:=Lib.hid hk;clear hk)
     | (go_at_call 321;refine (HE.out _).mono ?_;rintro e w' ⟨rfl,rfl⟩)
     | (go_at_call 374;refine (HG2.out _).mono ?_;rintro e w' ⟨rfl,rfl⟩))
    go_ret2
    exact ⟨ret2 (by rw [HV.out];rfl) (by rw [HV.out];rfl),HK.out⟩
   ·by_cases hm:q=18446744073709551615
    ·have HV2:Hid (divR (fun q r y _=>evUp q r y) a b c=(0,5)):=Lib.hid (by rw [HV.out,hm];exact sgnd_out (by decide) _)
     have hm2:((q:Int) == 18446744073709551615)=true:=by rw [hm];rfl
     clear hm HV
     go_enter Tryz.func320,Tryz.ntmps320
     go_wp2_with (first
      | (go_at_call 370;refine (HM.out _).mono ?_;rintro e w' ⟨rfl,rfl⟩)
      | (go_at_call 371;refine (HS.out _).mono ?_;rintro e w' ⟨rfl,rfl⟩)
      | (go_at_call 372;refine (HG.out _).mono ?_;rintro e w' ⟨rfl,rfl⟩)
      | (go_at_call 373;refine (HD.out _).mono ?_;rintro e w2 ⟨rfl,hk⟩;have HK:=Lib.hid hk;clear hk)
      | (go_at_call 321;refine (HE.out _).mono ?_;rintro e w' ⟨rfl,rfl⟩))
     go_ret2
     exact ⟨ret2 (by rw [HV2.out]) (by rw [HV2.out]),HK.out⟩
    ·have hm2:((q:Int) == 18446744073709551615)=false:=by simp;omega
     have HG2:=Lib.hid (fun w=>signed_any (q+1) (by have:=HQ.out;omega) bl w)
     have hw:IntKind.u64.wrap ((q:Int)+1)=((q+1:Nat):Int):=by have:=HQ.out;rw [IntKind.wrap_u64];omega
     have HW:=Lib.hid hw
     obtain ⟨q',hq'⟩:∃ q',q+1=q':=⟨_,rfl⟩
     rw [hq'] at HG2 hw
     have HV2:Hid (divR (fun q r y _=>evUp q r y) a b c=sgnd q' bl):=Lib.hid (by rw [HV.out,← hq'];rfl)
     clear hm HV hq' HW
     go_enter Tryz.func320,Tryz.ntmps320
     go_wp2_with (first
      | (go_at_call 370;refine (HM.out _).mono ?_;rintro e w' ⟨rfl,rfl⟩)
      | (go_at_call 371;refine (HS.out _).mono ?_;rintro e w' ⟨rfl,rfl⟩)
      | (go_at_call 372;refine (HG.out _).mono ?_;rintro e w' ⟨rfl,rfl⟩)
      | (go_at_call 373;refine (HD.out _).mono ?_;rintro e w2 ⟨rfl,hk⟩;have HK:=Lib.hid hk;clear hk)
      | (go_at_call 321;refine (HE.out _).mono ?_;rintro e w' ⟨rfl,rfl⟩)
      | (go_at_call 374;refine (HG2.out _).mono ?_;rintro e w' ⟨rfl,rfl⟩))
     go_ret2
     exact ⟨ret2 (by rw [HV2.out]) (by rw [HV2.out]),HK.out⟩
theorem even_any (a b c:Int) (ha:I64 a) (hb:I64 b) (hc:I64 c) (w:World):Calls Tryz.prog 242 #[.int .i64 a,.int .i64 b,.int .i64 c] w fun e w'=>e=.returned (.tuple #[.int .i64 (evR a b c).1,.int .i64 (evR a b c).2])∧Kp w w':=by
 have hd:∀ w,Calls Tryz.prog 320 #[.int .i64 a,.int .i64 b,.int .i64 c,.func (.func 321) #[] #[]] w fun e w'=>e=.returned (.tuple #[.int .i64 (evR a b c).1,.int .i64 (evR a b c).2])∧Kp w w':=fun w=>dive_any a b c ha hb hc w
 generalize (evR a b c).1=x at *
 generalize (evR a b c).2=y at *
 have HD:=Lib.hid hd
 clear hd
 go_enter Tryz.func242,Tryz.ntmps242
 go_wp2_with (go_at_call 320;refine (HD.out _).mono ?_;rintro e w2 ⟨rfl,hk⟩)
 go_ret2
 exact ⟨rfl,hk⟩
end Go.Proofs.YtgliljnbajohhaaGreatDoor
namespace Go.Proofs.Num
def hv:List Int→Int
 | []=>0
 | d :: l=>d+65536 * hv l
def sh (V:Int):Nat→Int
 | 0=>V
 | j+1=>sh (V / 65536) j
def dg (V:Int) (j:Nat):Int:=sh V j % 65536
end Go.Proofs.Num
namespace Go.Proofs.YtgliljnbajohhaaGreatDoor
open Go.RowKit Go.Proofs.Num
end Go.Proofs.YtgliljnbajohhaaGreatDoor
namespace Go.Proofs.YtgliljnbajohhaaGreatDoor
open Go.RowKit Go.Proofs.Num Go.Proofs.Geo
def bo (X Y:Int) (k:Nat):Int:=sh X k - sh Y k - sh (X - Y) k
def pre (V:Int) (n:Nat):Int:=hv ((List.range n).map (dg V))
end Go.Proofs.YtgliljnbajohhaaGreatDoor
namespace Go.Proofs.YtgliljnbajohhaaGreatDoor
open Go.RowKit Go.Proofs.Geo
def M128:Int:=340282366920938463463374607431768211456
def HL (H L:Nat) (T:Int):Prop:=H<18446744073709551616∧L<18446744073709551616∧((H:Int) * 18446744073709551616+(L:Int))=T % M128
end Go.Proofs.YtgliljnbajohhaaGreatDoor
namespace Go.Proofs.YtgliljnbajohhaaGreatDoor
open Go.RowKit Go.Proofs.Num Go.Proofs.Geo
end Go.Proofs.YtgliljnbajohhaaGreatDoor
namespace Go.Proofs.YtgliljnbajohhaaGreatDoor
open Go.RowKit Go.Proofs.Geo Go.Proofs.Mon
theorem mcheck_any (n:Int) (w:World):Calls Tryz.prog 240 #[.int .i64 n] w fun e w'=>e=.returned (.int .i64 (mchk n))∧Kp w w':=by
 have K:=Lib.hid (kp_refl w)
 by_cases h1:n < -1099511627775
 ·have hv:=Lib.hid (show mchk n=5 by unfold mchk;rw [if_pos h1])
  go_enter Tryz.func240,Tryz.ntmps240
  go_wp2
  go_ret
  exact ⟨by rw [hv.out];rfl,K.out⟩
 ·by_cases h2:1099511627775<n
  ·have hv:=Lib.hid (show mchk n=5 by unfold mchk;rw [if_neg h1,if_pos h2])
   go_enter Tryz.func240,Tryz.ntmps240
   go_wp2
   go_ret
   exact ⟨by rw [hv.out];rfl,K.out⟩
  ·have hv:=Lib.hid (show mchk n=0 by unfold mchk;rw [if_neg h1,if_neg h2])
   go_enter Tryz.func240,Tryz.ntmps240
   go_wp2
   go_ret
   exact ⟨by rw [hv.out];rfl,K.out⟩
theorem crate_any (n:Int) (w:World):Calls Tryz.prog 241 #[.int .i64 n] w fun e w'=>e=.returned (.int .i64 (rchk n))∧Kp w w':=by
 have K:=Lib.hid (kp_refl w)
 by_cases h1:n<0
 ·have hv:=Lib.hid (show rchk n=5 by unfold rchk;rw [if_pos h1])
  go_enter Tryz.func241,Tryz.ntmps241
  go_wp2
  go_ret
  exact ⟨by rw [hv.out];rfl,K.out⟩
 ·by_cases h2:1000000<n
  ·have hv:=Lib.hid (show rchk n=5 by unfold rchk;rw [if_neg h1,if_pos h2])
   go_enter Tryz.func241,Tryz.ntmps241
   go_wp2
   go_ret
   exact ⟨by rw [hv.out];rfl,K.out⟩
  ·have hv:=Lib.hid (show rchk n=0 by unfold rchk;rw [if_neg h1,if_neg h2])
   go_enter Tryz.func241,Tryz.ntmps241
   go_wp2
   go_ret
   exact ⟨by rw [hv.out];rfl,K.out⟩
def taxR (a r:Int):Int×Int:=if mchk a=0 then if rchk r=0 then evR a r 1000000 else (0,5) else (0,5)
set_option maxHeartbeats 2000000 in
theorem tax_any (a r:Int) (w:World):Calls Tryz.prog 159 #[.int .i64 a,.int .i64 r] w fun e w'=>e=.returned (.tuple #[.int .i64 (taxR a r).1,.int .i64 (taxR a r).2])∧Kp w w':=by
 have K:Kp w w:=kp_refl _
 have ca:=fun w=>mcheck_any a w
 have cr:=fun w=>crate_any r w
 by_cases h1:mchk a=0
 ·by_cases h2:rchk r=0
  ·have hv:taxR a r=evR a r 1000000:=by unfold taxR;rw [if_pos h1,if_pos h2]
   have b1:=mchk_zero h1
   have b2:=rchk_zero h2
   have ce:=even_any a r 1000000 (by unfold I64;omega) (by unfold I64;omega) (by unfold I64;omega)
   rw [hv]
   rw [h1] at ca;rw [h2] at cr
   generalize (evR a r 1000000).1=x at *
   generalize (evR a r 1000000).2=y at *
   have CA:=Lib.hid ca;have CR:=Lib.hid cr;have CE:=Lib.hid ce
   clear ca cr ce hv h1 h2
   go_enter Tryz.func159,Tryz.ntmps159
   go_wp2_with (first
    | (go_at_call 240;refine (CA.out _).mono ?_;rintro e wk ⟨rfl,hk⟩;replace K:=kp_trans K hk;clear hk)
    | (go_at_call 241;refine (CR.out _).mono ?_;rintro e wk ⟨rfl,hk⟩;replace K:=kp_trans K hk;clear hk)
    | (go_at_call 242;refine (CE.out _).mono ?_;rintro e wk ⟨rfl,hk⟩;replace K:=kp_trans K hk;clear hk))
   go_ret2
   exact ⟨rfl,K⟩
  ·have hv:=Lib.hid (show taxR a r=(0,5) by unfold taxR;rw [if_pos h1,if_neg h2])
   rw [h1] at ca
   generalize rchk r=z at *
   have t1:(z != 0)=true:=by simpa using h2
   have CA:=Lib.hid ca;have CR:=Lib.hid cr
   clear ca cr h1 h2
   go_enter Tryz.func159,Tryz.ntmps159
   go_wp2_with (first
    | (go_at_call 240;refine (CA.out _).mono ?_;rintro e wk ⟨rfl,hk⟩;replace K:=kp_trans K hk;clear hk)
    | (go_at_call 241;refine (CR.out _).mono ?_;rintro e wk ⟨rfl,hk⟩;replace K:=kp_trans K hk;clear hk))
   go_ret2
   exact ⟨by rw [hv.out];rfl,K⟩
 ·have hv:=Lib.hid (show taxR a r=(0,5) by unfold taxR;rw [if_neg h1])
  generalize mchk a=z at *
  have t1:(z != 0)=true:=by simpa using h1
  have CA:=Lib.hid ca
  clear ca cr h1
  go_enter Tryz.func159,Tryz.ntmps159
  go_wp2_with (go_at_call 240;refine (CA.out _).mono ?_;rintro e wk ⟨rfl,hk⟩;replace K:=kp_trans K hk;clear hk)
  go_ret2
  exact ⟨by rw [hv.out];rfl,K⟩
end Go.Proofs.YtgliljnbajohhaaGreatDoor
