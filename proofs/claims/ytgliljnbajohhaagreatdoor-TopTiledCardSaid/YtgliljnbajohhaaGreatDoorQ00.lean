import Derived.Test.YtgliljnbajohhaaGreatDoorProg
import Derived.WalkKit
import Derived.WalkSpells
import Derived.WalkLawsBesides
import Derived.Outline
import Derived.Lib.Hide
import Derived.Deep.QuietTactic
import Derived.BigQuiet
import Derived.Deep.RegionHeld3
import Derived.Below
import Derived.Shelf.Bits.Mul64
import Derived.IntWalk
import Derived.Laws.Bits64
import Derived.WalkSmall
import Derived.Maps.AppendAt
import Derived.Laws.OwnMore
import Derived.Laws.Rows
import Derived.Deep.DeepCutAuto
import Derived.StillTailTactics
import Derived.RegionTactic
import Derived.BigRegion
set_option linter.unusedVariables false
set_option linter.unusedSimpArgs false
namespace Go.Proofs.Geo
abbrev Pt:=Int×Int
def okB (x:Int):Bool:=decide (-1099511627775≤x) && decide (x≤1099511627775)
def okP (p:Pt):Bool:=okB p.1 && okB p.2
theorem okB_iff {x:Int}:okB x=true↔-1099511627775≤x∧x≤1099511627775:=by simp [okB]
theorem okP_iff {p:Pt}:okP p=true↔(-1099511627775≤p.1∧p.1≤1099511627775)∧-1099511627775≤p.2∧p.2≤1099511627775:=by simp [okP,okB]
def det (a b c:Pt):Int:=(b.1 - a.1) * (c.2 - a.2) - (b.2 - a.2) * (c.1 - a.1)
def turn (a b c:Pt):Int:=if okP a && okP b && okP c then (det a b c).sign else 0
def btw (n a b:Int):Bool:=decide (min a b≤n) && decide (n≤max a b)
def onS (p a b:Pt):Bool:=okP p && okP a && okP b && btw p.1 a.1 b.1 && btw p.2 a.2 b.2 && decide (turn a b p=0)
theorem btw_iff {n a b:Int}:btw n a b=true↔(a≤n∧n≤b)∨(b≤n∧n≤a):=by
 simp only [btw,Bool.and_eq_true,decide_eq_true_eq];omega
theorem turn_ok {a b c:Pt} (ha:okP a=true) (hb:okP b=true) (hc:okP c=true):turn a b c=(det a b c).sign:=by simp [turn,ha,hb,hc]
theorem det_swap (a b c:Pt):det b a c = - det a b c:=by unfold det;grind
theorem det_aba (a b:Pt):det a b a=0:=by unfold det;simp
theorem turn_swap (a b c:Pt):turn b a c = - turn a b c:=by
 unfold turn;rw [det_swap];cases okP a <;> cases okP b <;> cases okP c <;> simp [Int.sign_neg]
theorem turn_aba (a b:Pt):turn a b a=0:=by unfold turn;rw [det_aba];simp
theorem sign_bd (x:Int):-1≤x.sign∧x.sign≤1:=by
 rcases Int.lt_trichotomy x 0 with h | h | h
 ·rw [Int.sign_eq_neg_one_of_neg h];decide
 ·subst h;decide
 ·rw [Int.sign_eq_one_of_pos h];decide
theorem turn_bd (a b c:Pt):-1≤turn a b c∧turn a b c≤1:=by
 unfold turn;split
 ·exact sign_bd _
 ·decide
theorem sign_zero {x:Int}:x.sign=0↔x=0:=Int.sign_eq_zero_iff_zero
theorem btw_comm (n a b:Int):btw n a b=btw n b a:=by rw [Bool.eq_iff_iff,btw_iff,btw_iff];exact Or.comm
theorem onS_comm (p a b:Pt):onS p a b=onS p b a:=by
 have e:decide (turn a b p=0)=decide (turn b a p=0):=by rw [turn_swap a b p];simp
 unfold onS
 rw [btw_comm p.1 a.1 b.1,btw_comm p.2 a.2 b.2,e]
 cases okP p <;> cases okP a <;> cases okP b <;> simp
theorem onS_left {a b:Pt} (ha:okP a=true) (hb:okP b=true):onS a a b=true:=by
 have h:∀ n m:Int,btw n n m=true:=by intro n m;rw [btw_iff];omega
 simp [onS,ha,hb,turn_aba,h]
theorem onS_right {a b:Pt} (ha:okP a=true) (hb:okP b=true):onS b a b=true:=by
 rw [onS_comm];exact onS_left hb ha
theorem onS_iff {p a b:Pt}:onS p a b=true↔okP p=true∧okP a=true∧okP b=true∧btw p.1 a.1 b.1=true∧btw p.2 a.2 b.2=true∧det a b p=0:=by
 simp only [onS,Bool.and_eq_true,decide_eq_true_eq,and_assoc]
 constructor
 ·rintro ⟨h1,h2,h3,h4,h5,h6⟩
  refine ⟨h1,h2,h3,h4,h5,?_⟩
  rw [turn_ok h2 h3 h1] at h6;exact sign_zero.1 h6
 ·rintro ⟨h1,h2,h3,h4,h5,h6⟩
  refine ⟨h1,h2,h3,h4,h5,?_⟩
  rw [turn_ok h2 h3 h1];exact sign_zero.2 h6
end Go.Proofs.Geo
namespace Go.Proofs.YtgliljnbajohhaaGreatDoor
open Go.RowKit Go.Proofs.Geo
def Kp (w w':World):Prop:=Below w.heap.size w w'
theorem kp_refl (w:World):Kp w w:=Below.refl _ _
theorem kp_drew {W w:World} (h:Kp W w):Kp W w.drew:=Below.drew h
theorem kp_alloc {W w:World} (h:Kp W w) (o:Obj):Kp W (w.alloc o):=Below.alloc h (Below.size h) o
theorem kp_trans {W w w':World} (h:Kp W w) (k:Kp w w'):Kp W w':=Below.trans h (Below.mono k (Below.size h))
theorem kp_cell {W w:World} (h:Kp W w) {a:Addr} {v:Value} (hc:W.cell? a=some v):w.cell? a=some v:=by
 have hlt:a.block<W.heap.size:=by
  rcases Nat.lt_or_ge a.block W.heap.size with k | k
  ·exact k
  ·exfalso;unfold World.cell? at hc;rw [Array.getElem?_eq_none k] at hc;cases hc
 exact (Below.cell h hlt).trans hc
def cmpI (a b:Int):Int:=if a<b then -1 else if b<a then 1 else 0
theorem nanI (a:Int) (w:World):Calls Tryz.prog 232 #[.int .i64 a] w fun e w'=>e=.returned (.bool false)∧w=w':=by
 go_enter Tryz.func232,Tryz.ntmps232
 go_wp2
 go_ret
 exact ⟨by simp,rfl⟩
theorem nanU (a:Int) (w:World):Calls Tryz.prog 355 #[.int .u64 a] w fun e w'=>e=.returned (.bool false)∧w=w':=by
 go_enter Tryz.func355,Tryz.ntmps355
 go_wp2
 go_ret
 exact ⟨by simp,rfl⟩
theorem ret_int {k:IntKind} {a b:Int} (h:a=b):Ending.returned (.int k a)=.returned (.int k b):=by rw [h]
theorem ret_bool {a b:Bool} (h:a=b):Ending.returned (.bool a)=.returned (.bool b):=by rw [h]
theorem cmpI_lt {a b:Int} (h:a<b):cmpI a b = -1:=by unfold cmpI;rw [if_pos h]
theorem cmpI_gt {a b:Int} (h:b<a):cmpI a b=1:=by unfold cmpI;rw [if_neg (by omega),if_pos h]
theorem cmpI_eq {a b:Int} (h:a=b):cmpI a b=0:=by unfold cmpI;rw [if_neg (by omega),if_neg (by omega)]
theorem cmpInt (a b:Int) (w:World):Calls Tryz.prog 150 #[.int .i64 a,.int .i64 b] w fun e w'=>e=.returned (.int .i64 (cmpI a b))∧w=w':=by
 rcases Int.lt_trichotomy a b with h | h | h
 ·have H:=Lib.hid (cmpI_lt h)
  go_enter Tryz.func150,Tryz.ntmps150
  go_wp2_with (go_at_call 232;refine (nanI _ _).mono ?_;rintro e w' ⟨rfl,rfl⟩)
  go_ret
  exact ⟨ret_int H.out.symm,rfl⟩
 ·subst h
  have H:=Lib.hid (cmpI_eq (rfl:a=a))
  go_enter Tryz.func150,Tryz.ntmps150
  go_wp2_with (go_at_call 232;refine (nanI _ _).mono ?_;rintro e w' ⟨rfl,rfl⟩)
  go_ret
  exact ⟨ret_int H.out.symm,rfl⟩
 ·have H:=Lib.hid (cmpI_gt h)
  go_enter Tryz.func150,Tryz.ntmps150
  go_wp2_with (go_at_call 232;refine (nanI _ _).mono ?_;rintro e w' ⟨rfl,rfl⟩)
  go_ret
  exact ⟨ret_int H.out.symm,rfl⟩
theorem cmpUint (a b:Int) (w:World):Calls Tryz.prog 289 #[.int .u64 a,.int .u64 b] w fun e w'=>e=.returned (.int .i64 (cmpI a b))∧w=w':=by
 rcases Int.lt_trichotomy a b with h | h | h
 ·have H:=Lib.hid (cmpI_lt h)
  go_enter Tryz.func289,Tryz.ntmps289
  go_wp2_with (go_at_call 355;refine (nanU _ _).mono ?_;rintro e w' ⟨rfl,rfl⟩)
  go_ret
  exact ⟨ret_int H.out.symm,rfl⟩
 ·subst h
  have H:=Lib.hid (cmpI_eq (rfl:a=a))
  go_enter Tryz.func289,Tryz.ntmps289
  go_wp2_with (go_at_call 355;refine (nanU _ _).mono ?_;rintro e w' ⟨rfl,rfl⟩)
  go_ret
  exact ⟨ret_int H.out.symm,rfl⟩
 ·have H:=Lib.hid (cmpI_gt h)
  go_enter Tryz.func289,Tryz.ntmps289
  go_wp2_with (go_at_call 355;refine (nanU _ _).mono ?_;rintro e w' ⟨rfl,rfl⟩)
  go_ret
  exact ⟨ret_int H.out.symm,rfl⟩
def orI (x y:Int):Int:=if x=0 then y else x
theorem orI_0 {y:Int}:orI 0 y=y:=by simp [orI]
theorem orI_1 {x y:Int} (h:¬ x=0):orI x y=x:=by simp [orI,h]
theorem or_any (b:Nat) (x y:Int) (w:World) (h0:w.cell? ⟨b,0,none⟩=some (.int .i64 x)) (h1:w.cell? ⟨b,1,none⟩=some (.int .i64 y)) :
  Calls Tryz.prog 149 #[.slice (some ⟨b,0,none⟩) 2 2] w fun e w'=>e=.returned (.int .i64 (orI x y))∧w=w':=by
 by_cases hx:x=0
 ·subst hx
  have H:=Lib.hid (orI_0 (y:=y))
  by_cases hy:y=0
  ·subst hy
   go_enter Tryz.func149,Tryz.ntmps149
   go_wp2
   go_loop [8] (fun i=>∃ k:Nat,k≤2∧i=.int .i64 k) (fun i=>2 - (intOf i).toNat)
   case atStart=>exact ⟨0,by omega,rfl⟩
   case round =>
    obtain ⟨k,hk,rfl⟩:=hrel
    have hk':k=0∨k=1∨k=2:=by omega
    rcases hk' with rfl | rfl | rfl
    ·go_wp2
     go_round
     case rel=>exact ⟨1,by omega,rfl⟩
     case measure=>simp [intOf]
    ·go_wp2
     go_round
     case rel=>exact ⟨2,by omega,rfl⟩
     case measure=>simp [intOf]
    ·go_wp2
     go_ret
     exact ⟨ret_int H.out.symm,rfl⟩
  ·go_enter Tryz.func149,Tryz.ntmps149
   go_wp2
   go_loop [8] (fun i=>∃ k:Nat,k≤1∧i=.int .i64 k) (fun i=>2 - (intOf i).toNat)
   case atStart=>exact ⟨0,by omega,rfl⟩
   case round =>
    obtain ⟨k,hk,rfl⟩:=hrel
    have hk':k=0∨k=1:=by omega
    rcases hk' with rfl | rfl
    ·go_wp2
     go_round
     case rel=>exact ⟨1,by omega,rfl⟩
     case measure=>simp [intOf]
    ·go_wp2
     go_ret
     exact ⟨ret_int H.out.symm,rfl⟩
 ·have H:=Lib.hid (orI_1 (y:=y) hx)
  go_enter Tryz.func149,Tryz.ntmps149
  go_wp2
  go_loop [8] (fun i=>i=.int .i64 0) (fun i=>2 - (intOf i).toNat)
  case atStart=>rfl
  case round =>
   subst hrel
   go_wp2
   go_ret
   exact ⟨ret_int H.out.symm,rfl⟩
theorem okB_t {a:Int} (h1:-1099511627775≤a) (h2:a≤1099511627775):okB a=true:=okB_iff.2 ⟨h1,h2⟩
theorem okB_f {a:Int} (h:¬ (-1099511627775≤a∧a≤1099511627775)):okB a=false:=by rw [← Bool.not_eq_true,okB_iff];exact h
theorem fits_any (a:Int) (w:World):Calls Tryz.prog 277 #[.int .i64 a] w fun e w'=>e=.returned (.bool (okB a))∧w=w':=by
 by_cases h:-1099511627775≤a
 ·by_cases h2:a≤1099511627775
  ·have H:=Lib.hid (okB_t h h2)
   go_enter Tryz.func277,Tryz.ntmps277
   go_wp2
   go_ret
   exact ⟨ret_bool H.out.symm,rfl⟩
  ·have H:=Lib.hid (okB_f (a:=a) (by omega))
   go_enter Tryz.func277,Tryz.ntmps277
   go_wp2
   go_ret
   exact ⟨ret_bool H.out.symm,rfl⟩
 ·have H:=Lib.hid (okB_f (a:=a) (by omega))
  go_enter Tryz.func277,Tryz.ntmps277
  go_wp2
  go_ret
  exact ⟨ret_bool H.out.symm,rfl⟩
abbrev pv (x y:Int):Value:=.agg #[.int .i64 x,.int .i64 y]
theorem okP_mk {x y:Int} {a b:Bool} (h1:okB x=a) (h2:okB y=b):okP (x,y)=(a && b):=by unfold okP;rw [h1,h2]
theorem valid_any (x y:Int) (w:World):Calls Tryz.prog 196 #[.agg #[.int .i64 x,.int .i64 y]] w fun e w'=>e=.returned (.bool (okP (x,y)))∧Kp w w':=by
 cases h:okB x
 ·have H:=Lib.hid (okP_mk h (rfl:okB y=_))
  go_enter Tryz.func196,Tryz.ntmps196
  go_wp2_with (go_at_call 277;refine (fits_any _ _).mono ?_;rintro e w' ⟨rfl,rfl⟩)
  go_ret
  exact ⟨ret_bool H.out.symm,kp_alloc (kp_refl _) _⟩
 ·have H:=Lib.hid (okP_mk h (rfl:okB y=_))
  go_enter Tryz.func196,Tryz.ntmps196
  go_wp2_with (go_at_call 277;refine (fits_any _ _).mono ?_;rintro e w' ⟨rfl,rfl⟩)
  go_ret
  exact ⟨ret_bool (by rw [H.out];rfl),kp_alloc (kp_refl _) _⟩
def PtsAt (w:World) (b off:Nat) (l:List Pt):Prop :=
 ∀ i (h:i<l.length),w.cell? ⟨b,off+i * 2,none⟩=some (.int .i64 (l[i]'h).1)∧w.cell? ⟨b,off+i * 2+1,none⟩=some (.int .i64 (l[i]'h).2)
theorem PtsAt.kp {w w':World} {b off:Nat} {l:List Pt} (h:PtsAt w b off l) (k:Kp w w'):PtsAt w' b off l :=
 fun i hi=>⟨kp_cell k (h i hi).1,kp_cell k (h i hi).2⟩
theorem all_take_succ (l:List Pt) (k:Nat) (h:k<l.length):(l.take (k+1)).all okP=((l.take k).all okP && okP l[k]):=by
 rw [List.take_succ_eq_append_getElem h,List.all_append];simp only [List.all_cons,List.all_nil,Bool.and_true]
theorem all_of_bad (l:List Pt) (k:Nat) (h:k<l.length) (hb:okP l[k]=false):l.all okP=false:=by
 rw [List.all_eq_false];exact ⟨l[k],List.getElem_mem h,by simp [hb]⟩
set_option maxHeartbeats 1000000 in
theorem valids_any (b off cap:Nat) (l:List Pt) (w:World) (hl:l.length≤10000000000000) (h:PtsAt w b off l) :
  Calls Tryz.prog 217 #[.slice (some ⟨b,off,none⟩) l.length cap] w fun e w'=>e=.returned (.bool (l.all okP))∧Kp w w':=by
 go_enter Tryz.func217,Tryz.ntmps217
 go_wp2
 go_loopw [7] (fun i wr=>∃ k:Nat,k≤l.length∧i=.int .i64 k∧(l.take k).all okP=true∧Kp w wr) (fun i _=>l.length - (intOf i).toNat)
 case atStart=>exact ⟨0,Nat.zero_le _,rfl,rfl,kp_refl _⟩
 case round =>
  obtain ⟨k,hk,rfl,hall,hkp⟩:=hrel
  by_cases hlt:k<l.length
  ·obtain ⟨x,y,hxy⟩:∃ x y,l[k]=(x,y):=⟨_,_,rfl⟩
   have hc:=(h.kp hkp) k hlt
   rw [hxy] at hc
   obtain ⟨hc1,hc2⟩:=hc
   have hs:=all_take_succ l k hlt
   have hb:=all_of_bad l k hlt
   rw [hxy] at hs hb
   have hs':=Lib.hid hs
   have hb':=Lib.hid hb
   have hh2:=Lib.hid hall
   have hh3:=Lib.hid hkp
   have hh4:=Lib.hid h
   clear hxy hall hkp h hs hb
   cases hv:okP (x,y)
   ·go_wp2_with (go_at_call 196;refine (valid_any _ _ _).mono ?_;rintro e w' ⟨rfl,hk1⟩)
    go_ret
    exact ⟨ret_bool (hb'.out hv).symm,kp_trans (kp_alloc hh3.out _) hk1⟩
   ·go_wp2_with (go_at_call 196;refine (valid_any _ _ _).mono ?_;rintro e w' ⟨rfl,hk1⟩)
    go_roundw
    case rel=>exact ⟨k+1,by omega,by go_num,by rw [hs'.out,hh2.out,hv];rfl,kp_trans (kp_alloc hh3.out _) hk1⟩
    case measure=>simp [intOf];omega
  ·have hke:k=l.length:=by omega
   have hh2:Hid (l.all okP=true):=by show l.all okP=true;rw [hke,List.take_length] at hall;exact hall
   have hh3:=Lib.hid hkp
   clear hall hkp h hke
   go_wp2
   go_ret
   exact ⟨ret_bool hh2.out.symm,hh3.out⟩
end Go.Proofs.YtgliljnbajohhaaGreatDoor
namespace Go.Proofs.YtgliljnbajohhaaGreatDoor
open Go.Shelf
def mulRen:Go.Shelf.Ren:=⟨fun | 264=>416 | n=>n,fun | 53=>202 | 46=>336 | n=>n,fun | n=>n⟩
theorem mulLays:Go.Proofs.Lays.n264 Tryz.prog mulRen:={
 mixed:=by kernel_rfl
 f264:=Tryz.func416.trans (congrArg some (by kernel_rfl))
 t46:=Tryz.underlying336
 a46:=Tryz.isAgg336
 z46:=Tryz.sizeOf336
 v46:=Tryz.zeroValue336
 t53:=Tryz.underlying202
 a53:=Tryz.isAgg202
 z53:=Tryz.sizeOf202
 v53:=Tryz.zeroValue202 }
open Go.RowKit Go.Lib in
theorem mul64 (x y:Nat) (hx:x<18446744073709551616) (hy:y<18446744073709551616) (w:World) :
  Calls Tryz.prog 416 #[.int .u64 x,.int .u64 y] w fun e w'=>e=.returned (.tuple #[.int .u64 ((x * y / 18446744073709551616:Nat):Int),.int .u64 ((x * y % 18446744073709551616:Nat):Int)])∧w'=w:=Any.bits_Mul64 mulLays x y hx hy w
end Go.Proofs.YtgliljnbajohhaaGreatDoor
namespace Go.Proofs.YtgliljnbajohhaaGreatDoor
open Go.RowKit Go.Proofs.Geo
def I64 (x:Int):Prop:=-9223372036854775808≤x∧x≤9223372036854775807
theorem sign_any (a:Int) (w:World):Calls Tryz.prog 372 #[.int .i64 a] w fun e w'=>e=.returned (.int .i64 (cmpI a 0))∧w=w':=by
 go_enter Tryz.func372,Tryz.ntmps372
 go_wp2_with (go_at_call 150;refine (cmpInt _ _ _).mono ?_;rintro e w' ⟨rfl,rfl⟩)
 go_ret
 exact ⟨rfl,rfl⟩
theorem size_neg {a:Int} (h:I64 a) (hn:a<0):IntKind.u64.wrap (-IntKind.u64.wrap a)=(a.natAbs:Int):=by
 unfold I64 at h;rw [IntKind.wrap_u64,IntKind.wrap_u64];omega
theorem size_pos {a:Int} (h:I64 a) (hn:¬ a<0):IntKind.u64.wrap a=(a.natAbs:Int):=by
 unfold I64 at h;rw [IntKind.wrap_u64];omega
theorem size_any (a:Int) (h:I64 a) (w:World):Calls Tryz.prog 371 #[.int .i64 a] w fun e w'=>e=.returned (.int .u64 (a.natAbs:Int))∧w=w':=by
 by_cases hn:a<0
 ·have H:=Lib.hid (size_neg h hn)
  clear h
  go_enter Tryz.func371,Tryz.ntmps371
  go_wp2
  go_ret
  exact ⟨ret_int H.out,rfl⟩
 ·have H:=Lib.hid (size_pos h hn)
  clear h
  go_enter Tryz.func371,Tryz.ntmps371
  go_wp2
  go_ret
  exact ⟨ret_int H.out,rfl⟩
def mulH (a b:Int):Int:=((a.natAbs * b.natAbs / 18446744073709551616:Nat):Int)
def mulL (a b:Int):Int:=((a.natAbs * b.natAbs % 18446744073709551616:Nat):Int)
def mulS (a b:Int):Int:=cmpI a 0 * cmpI b 0
theorem mul64' (a b:Int) (ha:I64 a) (hb:I64 b) (w:World) :
  Calls Tryz.prog 416 #[.int .u64 (a.natAbs:Int),.int .u64 (b.natAbs:Int)] w fun e w'=>e=.returned (.tuple #[.int .u64 (mulH a b),.int .u64 (mulL a b)])∧w=w' :=
 (mul64 a.natAbs b.natAbs (by unfold I64 at ha;omega) (by unfold I64 at hb;omega) w).mono fun _ _ ⟨h1,h2⟩=>⟨h1,h2.symm⟩
theorem cmpI_bd (a b:Int):-1≤cmpI a b∧cmpI a b≤1:=by unfold cmpI;(repeat' split) <;> omega
theorem mulS_wrap (a b:Int):IntKind.i64.wrap (cmpI a 0 * cmpI b 0)=mulS a b:=by
 have h1:=cmpI_bd a 0;have h2:=cmpI_bd b 0
 rw [IntWalk.i64_in _ ?_];rfl
 have e1:cmpI a 0 = -1∨cmpI a 0=0∨cmpI a 0=1:=by omega
 rcases e1 with e | e | e <;> rw [e] <;> omega
theorem mul_any (a b:Int) (ha:I64 a) (hb:I64 b) (w:World):Calls Tryz.prog 370 #[.int .i64 a,.int .i64 b] w fun e w' =>
  e=.returned (.tuple #[.int .u64 (mulH a b),.int .u64 (mulL a b),.int .i64 (mulS a b)])∧w=w':=by
 have Ha:=Lib.hid ha
 have Hb:=Lib.hid hb
 clear ha hb
 have hm:=mulS_wrap a b
 have hm2:wrap64 (cmpI a 0 * cmpI b 0)=mulS a b:=by rw [← IntWalk.i64_left];exact hm
 go_enter Tryz.func370,Tryz.ntmps370
 go_wp2_with (first
  | (go_at_call_of 371 (Value.int .i64 a);refine (size_any a Ha.out _).mono ?_;rintro e w' ⟨rfl,rfl⟩)
  | (go_at_call_of 371 (Value.int .i64 b);refine (size_any b Hb.out _).mono ?_;rintro e w' ⟨rfl,rfl⟩)
  | (go_at_call 416;refine (mul64' a b Ha.out Hb.out _).mono ?_;rintro e w' ⟨rfl,rfl⟩)
  | (go_at_call 372;refine (sign_any _ _).mono ?_;rintro e w' ⟨rfl,rfl⟩))
 go_ret3
 exact ⟨rfl,rfl⟩
def magI (a b c d:Int):Int:=orI (cmpI (mulH a b) (mulH c d)) (cmpI (mulL a b) (mulL c d))
theorem orI_cmp {h i l m:Int} (hl:0≤l) (hl':l<18446744073709551616) (hm:0≤m) (hm':m<18446744073709551616) :
  orI (cmpI h i) (cmpI l m)=cmpI (h * 18446744073709551616+l) (i * 18446744073709551616+m):=by
 unfold orI cmpI;(repeat' split) <;> omega
theorem magI_eq (a b c d:Int):magI a b c d=cmpI ((a.natAbs * b.natAbs:Nat):Int) ((c.natAbs * d.natAbs:Nat):Int):=by
 unfold magI
 rw [orI_cmp (by unfold mulL;omega) (by unfold mulL;omega) (by unfold mulL;omega) (by unfold mulL;omega)]
 unfold mulH mulL
 congr 1 <;> omega
theorem cmpI_sign (a b:Int):cmpI a b=(a - b).sign:=by
 rcases Int.lt_trichotomy a b with h | h | h
 ·rw [cmpI_lt h,Int.sign_eq_neg_one_of_neg (by omega)]
 ·rw [cmpI_eq h,h];simp
 ·rw [cmpI_gt h,Int.sign_eq_one_of_pos (by omega)]
theorem cmpI_zero (a:Int):cmpI a 0=a.sign:=by rw [cmpI_sign];simp
theorem mulS_eq (a b:Int):mulS a b=(a * b).sign:=by unfold mulS;rw [cmpI_zero,cmpI_zero,Int.sign_mul]
theorem mul_abs (a b:Int):a * b=mulS a b * ((a.natAbs * b.natAbs:Nat):Int):=by
 rw [mulS_eq,← Int.natAbs_mul,Int.sign_mul_natAbs]
def dif (a b c d:Int):Int:=(a * b - c * d).sign
theorem dif_ne {a b c d:Int} (h:mulS a b≠mulS c d):cmpI (mulS a b) (mulS c d)=dif a b c d:=by
 unfold dif
 rw [mulS_eq,mulS_eq] at *
 generalize a * b=x at *
 generalize c * d=y at *
 rcases Int.lt_trichotomy x 0 with h1 | h1 | h1 <;> rcases Int.lt_trichotomy y 0 with h2 | h2 | h2
 ·rw [Int.sign_eq_neg_one_of_neg h1,Int.sign_eq_neg_one_of_neg h2] at h;omega
 ·subst h2;rw [Int.sign_eq_neg_one_of_neg h1,Int.sign_eq_neg_one_of_neg (a:=x - 0) (by omega)];decide
 ·rw [Int.sign_eq_neg_one_of_neg h1,Int.sign_eq_one_of_pos h2,Int.sign_eq_neg_one_of_neg (a:=x - y) (by omega)];decide
 ·subst h1;rw [Int.sign_eq_neg_one_of_neg h2,Int.sign_eq_one_of_pos (a:=0 - y) (by omega)];decide
 ·subst h1;subst h2;omega
 ·subst h1;rw [Int.sign_eq_one_of_pos h2,Int.sign_eq_neg_one_of_neg (a:=0 - y) (by omega)];decide
 ·rw [Int.sign_eq_one_of_pos h1,Int.sign_eq_neg_one_of_neg h2,Int.sign_eq_one_of_pos (a:=x - y) (by omega)];decide
 ·subst h2;rw [Int.sign_eq_one_of_pos h1,Int.sign_eq_one_of_pos (a:=x - 0) (by omega)];decide
 ·rw [Int.sign_eq_one_of_pos h1,Int.sign_eq_one_of_pos h2] at h;omega
theorem dif_eq {a b c d:Int} (h:mulS a b=mulS c d):mulS a b * magI a b c d=dif a b c d:=by
 rw [magI_eq];unfold dif
 have e1:=mul_abs a b
 have e2:=mul_abs c d
 rw [← h] at e2
 rw [e1,e2,cmpI_sign,← Int.mul_sub,Int.sign_mul]
 congr 1
 have:=sign_bd (a * b)
 rw [mulS_eq]
 have k:(a * b).sign = -1∨(a * b).sign=0∨(a * b).sign=1:=by omega
 rcases k with k | k | k <;> rw [k] <;> decide
theorem magI_wrap (a b c d:Int):IntKind.i64.wrap (mulS a b * magI a b c d)=mulS a b * magI a b c d:=by
 have h1:-1≤mulS a b∧mulS a b≤1:=by rw [mulS_eq];exact sign_bd _
 have h2:-1≤magI a b c d∧magI a b c d≤1:=by rw [magI_eq];exact cmpI_bd _ _
 apply IntWalk.i64_in
 have e1:mulS a b = -1∨mulS a b=0∨mulS a b=1:=by omega
 rcases e1 with e | e | e <;> rw [e] <;> omega
set_option maxHeartbeats 1000000 in
theorem wsign_any (a b c d:Int) (ha:I64 a) (hb:I64 b) (hc:I64 c) (hd:I64 d) (w:World):Calls Tryz.prog 350 #[.int .i64 a,.int .i64 b,.int .i64 c,.int .i64 d] w fun e w' =>
  e=.returned (.int .i64 (dif a b c d))∧Kp w w':=by
 have Ha:=Lib.hid ha
 have Hb:=Lib.hid hb
 have Hc:=Lib.hid hc
 have Hd:=Lib.hid hd
 clear ha hb hc hd
 by_cases h:mulS a b=mulS c d
 ·have H:=Lib.hid (dif_eq h)
  have hne:(mulS a b != mulS c d)=false:=by simp [h]
  clear h
  have hm:=magI_wrap a b c d
  have hm2:wrap64 (mulS a b * magI a b c d)=mulS a b * magI a b c d:=by rw [← IntWalk.i64_left];exact hm
  have em:orI (cmpI (mulH a b) (mulH c d)) (cmpI (mulL a b) (mulL c d))=magI a b c d:=rfl
  go_enter Tryz.func350,Tryz.ntmps350
  go_wp2_with (first
   | (go_at_call_of 370 (Value.int .i64 a);refine (mul_any a b Ha.out Hb.out _).mono ?_;rintro e w' ⟨rfl,rfl⟩)
   | (go_at_call_of 370 (Value.int .i64 c);refine (mul_any c d Hc.out Hd.out _).mono ?_;rintro e w' ⟨rfl,rfl⟩)
   | (go_at_call 289;refine (cmpUint _ _ _).mono ?_;rintro e w' ⟨rfl,rfl⟩)
   | (go_at_call 149;refine (or_any _ (cmpI (mulH a b) (mulH c d)) (cmpI (mulL a b) (mulL c d)) _ ?_ ?_).mono ?_;(simp [go_sem]);(simp [go_sem]);rintro e w' ⟨rfl,rfl⟩))
  go_ret
  exact ⟨ret_int H.out,by repeat (first | assumption | exact kp_refl _ | apply kp_drew | apply kp_alloc)⟩
 ·have H:=Lib.hid (dif_ne h)
  have hne:(mulS a b != mulS c d)=true:=by simp [h]
  clear h
  go_enter Tryz.func350,Tryz.ntmps350
  go_wp2_with (first
   | (go_at_call_of 370 (Value.int .i64 a);refine (mul_any a b Ha.out Hb.out _).mono ?_;rintro e w' ⟨rfl,rfl⟩)
   | (go_at_call_of 370 (Value.int .i64 c);refine (mul_any c d Hc.out Hd.out _).mono ?_;rintro e w' ⟨rfl,rfl⟩)
   | (go_at_call 150;refine (cmpInt _ _ _).mono ?_;rintro e w' ⟨rfl,rfl⟩))
  go_ret
  exact ⟨ret_int H.out,kp_refl _⟩
theorem valid3 (b:Nat) (p q r:Pt) (w:World) (h0:w.cell? ⟨b,0,none⟩=some (.int .i64 p.1)) (h1:w.cell? ⟨b,1,none⟩=some (.int .i64 p.2)) (h2:w.cell? ⟨b,2,none⟩=some (.int .i64 q.1))
  (h3:w.cell? ⟨b,3,none⟩=some (.int .i64 q.2)) (h4:w.cell? ⟨b,4,none⟩=some (.int .i64 r.1)) (h5:w.cell? ⟨b,5,none⟩=some (.int .i64 r.2)) :
  Calls Tryz.prog 217 #[.slice (some ⟨b,0,none⟩) 3 3] w fun e w'=>e=.returned (.bool (okP p && okP q && okP r))∧Kp w w':=by
 refine (valids_any b 0 3 [p,q,r] w (by simp) ?_).mono ?_
 ·intro i hi
  match i,hi with
  | 0,_=>exact ⟨h0,h1⟩
  | 1,_=>exact ⟨h2,h3⟩
  | 2,_=>exact ⟨h4,h5⟩
 ·rintro e w' ⟨rfl,hk⟩
  exact ⟨ret_bool (by simp [Bool.and_assoc]),hk⟩
theorem turn_no {a b c:Pt} (h:(okP a && okP b && okP c)=false):turn a b c=0:=by simp [turn,h]
theorem turn_dif {ax ay bx bY cx cy:Int} (h:(okP (ax,ay) && okP (bx,bY) && okP (cx,cy))=true):dif (bx - ax) (cy - ay) (bY - ay) (cx - ax)=turn (ax,ay) (bx,bY) (cx,cy):=by
 simp only [turn,h,if_true];rfl
set_option maxHeartbeats 1000000 in
theorem turn_any (ax ay bx bY cx cy:Int) (w:World):Calls Tryz.prog 284 #[pv ax ay,pv bx bY,pv cx cy] w fun e w' =>
  e=.returned (.int .i64 (turn (ax,ay) (bx,bY) (cx,cy)))∧Kp w w':=by
 cases h:(okP (ax,ay) && okP (bx,bY) && okP (cx,cy))
 ·have H:=Lib.hid (turn_no h)
  go_enter Tryz.func284,Tryz.ntmps284
  go_wp2_with (go_at_call 217;refine (valid3 _ (ax,ay) (bx,bY) (cx,cy) _ ?_ ?_ ?_ ?_ ?_ ?_).mono ?_;(iterate 6 (focus (simp [go_sem])));rintro e w' ⟨rfl,hk1⟩)
  go_ret
  exact ⟨ret_int H.out.symm,by repeat (first | assumption | exact kp_refl _ | apply kp_drew | apply kp_alloc | refine kp_trans ?_ hk1)⟩
 ·have H:=Lib.hid (turn_dif h)
  have h':=h
  simp only [Bool.and_eq_true,okP_iff] at h'
  obtain ⟨⟨⟨⟨a1,a2⟩,a3,a4⟩,⟨b1,b2⟩,b3,b4⟩,⟨c1,c2⟩,c3,c4⟩:=h'
  have i1:=Lib.hid (show I64 (bx - ax) from ⟨by omega,by omega⟩)
  have i2:=Lib.hid (show I64 (cy - ay) from ⟨by omega,by omega⟩)
  have i3:=Lib.hid (show I64 (bY - ay) from ⟨by omega,by omega⟩)
  have i4:=Lib.hid (show I64 (cx - ax) from ⟨by omega,by omega⟩)
  go_enter Tryz.func284,Tryz.ntmps284
  go_wp2_with (first
   | (go_at_call 217;refine (valid3 _ (ax,ay) (bx,bY) (cx,cy) _ ?_ ?_ ?_ ?_ ?_ ?_).mono ?_;(iterate 6 (focus (simp [go_sem])));rintro e w' ⟨rfl,hk1⟩;have c1:w'.cell? ⟨w.heap.size,0,none⟩=some (.int .i64 ax):=kp_cell hk1 (by simp [go_sem]);have c2:w'.cell? ⟨w.heap.size,1,none⟩=some (.int .i64 ay):=kp_cell hk1 (by simp [go_sem]);have c3:w'.cell? ⟨w.heap.size+1,0,none⟩=some (.int .i64 bx):=kp_cell hk1 (by simp [go_sem]);have c4:w'.cell? ⟨w.heap.size+1,1,none⟩=some (.int .i64 bY):=kp_cell hk1 (by simp [go_sem]);have c5:w'.cell? ⟨w.heap.size+1+1,0,none⟩=some (.int .i64 cx):=kp_cell hk1 (by simp [go_sem]);have c6:w'.cell? ⟨w.heap.size+1+1,1,none⟩=some (.int .i64 cy):=kp_cell hk1 (by simp [go_sem]))
   | (go_at_call 350;refine (wsign_any _ _ _ _ i1.out i2.out i3.out i4.out _).mono ?_;rintro e w' ⟨rfl,hk5⟩))
  go_ret
  exact ⟨ret_int H.out,by repeat (first | exact kp_refl _ | apply kp_drew | apply kp_alloc | refine kp_trans ?_ hk5 | refine kp_trans ?_ hk1)⟩
theorem kp_all {w w':World} (h:Kp w w'):(∀ b o,b<w.heap.size→w'.cell? ⟨b,o,none⟩=w.cell? ⟨b,o,none⟩)∧(∀ b o,b<w.heap.size→w'.frozen? ⟨b,o,none⟩=w.frozen? ⟨b,o,none⟩)∧w.heap.size≤w'.heap.size :=
 ⟨fun b o k=>Below.cell (p:=⟨b,o,none⟩) h k,fun b o k=>Below.frozen (p:=⟨b,o,none⟩) h k,Below.size h⟩
theorem kp_drewN {W w:World} (h:Kp W w) (n:Nat):Kp W (w.drewN n):=below_drewN h n
theorem kp_set {W w:World} (h:Kp W w) {a:Addr} (ha:W.heap.size≤a.block) (u:Value):Kp W (w.setCell a u):=Below.setCell h ha u
theorem cell_a {w:World} {a:Addr} {v:Value} (h:w.cell? a=some v) (o:Obj):(w.alloc o).cell? a=some v:=kp_cell (kp_alloc (kp_refl w) o) h
theorem cell_lt {w:World} {a:Addr} {v:Value} (hc:w.cell? a=some v):a.block<w.heap.size:=by
 rcases Nat.lt_or_ge a.block w.heap.size with k | k
 ·exact k
 ·exfalso;unfold World.cell? at hc;rw [Array.getElem?_eq_none k] at hc;cases hc
theorem kp_froz {W w:World} (h:Kp W w) {a:Addr} {v:Value} (hc:W.cell? a=some v) (hf:W.frozen? a=false):w.frozen? a=false :=
 (Below.frozen h (cell_lt hc)).trans hf
theorem froz_a {w:World} {a:Addr} {v:Value} (hc:w.cell? a=some v) (hf:w.frozen? a=false) (o:Obj):(w.alloc o).frozen? a=false:=kp_froz (kp_alloc (kp_refl w) o) hc hf
def Rd (w:World) (v:Value) (l:List Pt):Prop:=l.length≤10000000000000∧((v=.slice none 0 0∧l=[])∨∃ b off cap,v=.slice (some ⟨b,off,none⟩) l.length cap∧PtsAt w b off l)
theorem Rd.kp {w w':World} {v:Value} {l:List Pt} (h:Rd w v l) (k:Kp w w'):Rd w' v l:=by
 obtain ⟨hl,h | ⟨b,off,cap,hv,h⟩⟩:=h
 ·exact ⟨hl,.inl h⟩
 ·exact ⟨hl,.inr ⟨b,off,cap,hv,h.kp k⟩⟩
def flat (l:List Pt):List Value:=l.flatMap fun p=>[.int .i64 p.1,.int .i64 p.2]
theorem flat_snoc (l:List Pt) (p:Pt):flat (l++[p])=flat l++[.int .i64 p.1,.int .i64 p.2]:=by simp [flat]
theorem flat_len (l:List Pt):(flat l).length=l.length * 2:=by
 induction l with
 | nil=>rfl
 | cons p l ih=>simp [flat] at ih ⊢;omega
theorem flat_get (l:List Pt) (i:Nat) (h:i<l.length):(flat l)[i * 2]? = some (.int .i64 (l[i]'h).1)∧(flat l)[i * 2+1]? = some (.int .i64 (l[i]'h).2):=by
 induction l generalizing i with
 | nil=>simp at h
 | cons p l ih =>
  cases i with
  | zero=>simp [flat]
  | succ i =>
   have:=ih i (by simpa using h)
   have e1:(i+1) * 2=i * 2+1+1:=by omega
   rw [e1]
   simpa [flat] using this
def OwnP (w:World) (B:Nat) (v:Value) (l:List Pt):Prop:=w.ownsRow B 53 2 v l.length (flat l)
theorem OwnP.nil (w:World) (B:Nat):OwnP w B (.slice none 0 0) []:=World.ownsRow_nil _ _ _ _
theorem OwnP.grown {w w':World} {B:Nat} {v:Value} {l:List Pt} {row:Option Nat} (h:OwnP w B v l) (hg:w.grownBy w' row) (hne:v.ownBlock=none∨v.ownBlock≠row):OwnP w' B v l:=World.ownsRow.kept h hg hne
theorem grown_of_kp {w w':World} (h:Kp w w') (row:Option Nat):w.grownBy w' row:=⟨h.os,h.tape,h.output,h.size,fun k hk _=>h.block k hk⟩
theorem OwnP.kp {w w':World} {B:Nat} {v:Value} {l:List Pt} (h:OwnP w B v l) (k:Kp w w'):OwnP w' B v l:=by
 refine h.grown (grown_of_kp k none) ?_
 cases v.ownBlock
 ·exact .inl rfl
 ·exact .inr (by simp)
theorem OwnP.mono {w:World} {B B':Nat} {v:Value} {l:List Pt} (h:OwnP w B v l) (hB:B'≤B):OwnP w B' v l:=by
 obtain ⟨h1,h2⟩:=h
 refine ⟨h1,?_⟩
 rcases h2 with h2 | ⟨g,cap,cur,a,b,c⟩
 ·exact .inl h2
 ·exact .inr ⟨g,cap,cur,a,Nat.le_trans hB b,c⟩
theorem OwnP.rd {w:World} {B:Nat} {v:Value} {l:List Pt} (h:OwnP w B v l) (hl:l.length≤10000000000000):Rd w v l:=by
 refine ⟨hl,?_⟩
 have h':=h
 obtain ⟨h1,h2⟩:=h'
 rcases h2 with ⟨hv,hn⟩ | ⟨g,cap,cur,hv,h2⟩
 ·exact .inl ⟨hv,List.eq_nil_of_length_eq_zero hn⟩
 ·refine .inr ⟨g,0,cap,hv,fun i hi=>?_⟩
  subst hv
  have hc:=World.ownsRow.cells (w:=w) h (g:=g) rfl
  have hf:=flat_get l i hi
  have c1:=hc _ _ hf.1
  have c2:=hc _ _ hf.2
  have e:∀ j,(⟨g,0,none⟩:Addr).add j=⟨g,0+j,none⟩:=fun j=>by unfold Addr.add;split <;> simp_all
  rw [e] at c1 c2
  exact ⟨c1,c2⟩
theorem OwnP.snoc {w:World} {B:Nat} {v:Value} {l:List Pt} {x y:Int} (h:w.ownsRow B 53 2 v (l.length+1) (flat l++[.int .i64 x,.int .i64 y])):OwnP w B v (l++[(x,y)]):=by
 unfold OwnP;rw [flat_snoc,List.length_append];exact h
theorem infoPt:(Tryz.prog.info? 53).map (fun i=>(i.zero,i.size,i.bytes))=some (some (.agg #[.int .i64 0,.int .i64 0]),2,16):=by kernel_rfl
theorem cell_two_pt (w:World) (x y:Int) (t:TypeId):∀ j u,[Value.int .i64 x,.int .i64 y][j]? = some u→(w.alloc (.cells #[.int .i64 x,.int .i64 y] t)).cell? ((⟨w.heap.size,0,none⟩:Addr).add j)=some u:=by
 intro j u hj
 match j,hj with
 | 0,hj=>simp at hj;subst hj;simp [Addr.add]
 | 1,hj=>simp at hj;subst hj;simp [Addr.add]
theorem kp_of_grown {W w w':World} {v:Value} {l:List Pt} (h:Kp W w) (hg:w.grownBy w' v.ownBlock) (ho:OwnP w W.heap.size v l):Kp W w' :=
 Below.grown h hg (Below.size h) fun k hk=>(World.ownsRow.lt ho k hk).1
def OwnEnd (w:World) (l:List Pt) (e:Ending) (w':World):Prop:=∃ v,e=.returned v∧OwnP w' w.heap.size v l∧Kp w w'
theorem flat_append (l m:List Pt):flat (l++m)=flat l++flat m:=by simp [flat]
theorem OwnP.append {w:World} {B:Nat} {v:Value} {l m:List Pt} (h:w.ownsRow B 53 2 v (l.length+m.length) (flat l++flat m)):OwnP w B v (l++m):=by
 unfold OwnP;rw [flat_append,List.length_append];exact h
theorem add_cell (b off j:Nat):(⟨b,off,none⟩:Addr).add j=⟨b,off+j,none⟩:=by unfold Addr.add;split <;> simp_all
theorem pts_cells {w:World} {b off:Nat} {l:List Pt} (h:PtsAt w b off l):∀ j u,(flat l)[j]? = some u→w.cell? ((⟨b,off,none⟩:Addr).add j)=some u:=by
 intro j u hj
 have hl:j<l.length * 2:=by rw [← flat_len];exact (List.getElem?_eq_some_iff.1 hj).1
 have hi:j / 2<l.length:=by omega
 have hf:=flat_get l (j / 2) hi
 have hp:=h (j / 2) hi
 rw [add_cell]
 rcases Nat.mod_two_eq_zero_or_one j with e | e
 ·have ej:j / 2 * 2=j:=by omega
  rw [ej] at hf hp
  rw [hj] at hf
  rw [hp.1,← hf.1]
 ·have ej:j / 2 * 2+1=j:=by omega
  have e2:off+j / 2 * 2+1=off+j:=by omega
  rw [ej] at hf
  rw [e2] at hp
  rw [hj] at hf
  rw [hp.2,← hf.2]
theorem flat_one (l:List Pt):∀ u∈flat l,u.oneCell'=true:=by
 intro u hu
 simp only [flat,List.mem_flatMap] at hu
 obtain ⟨p,_,hu⟩:=hu
 simp at hu
 rcases hu with rfl | rfl <;> rfl
theorem pts_of_flat {w:World} {b off:Nat} {l:List Pt} (h:∀ j u,(flat l)[j]? = some u→w.cell? ⟨b,off+j,none⟩=some u):PtsAt w b off l:=by
 intro i hi
 have hf:=flat_get l i hi
 exact ⟨h _ _ hf.1,h _ _ hf.2⟩
def RdC (w:World) (v:Value) (l:List Pt):Prop :=
 l.length≤10000000000000∧((v=.slice none 0 0∧l=[])∨∃ (ad:Addr) (cap:Nat),v=.slice (some ad) l.length cap∧∀ j u,(flat l)[j]? = some u→w.cell? (ad.add j)=some u)
theorem Rd.toC {w:World} {v:Value} {l:List Pt} (h:Rd w v l):RdC w v l:=by
 obtain ⟨hl,h | ⟨b,off,cap,hv,h⟩⟩:=h
 ·exact ⟨hl,.inl h⟩
 ·exact ⟨hl,.inr ⟨⟨b,off,none⟩,cap,hv,pts_cells h⟩⟩
theorem RdC.kp {w w':World} {v:Value} {l:List Pt} (h:RdC w v l) (k:Kp w w'):RdC w' v l:=by
 obtain ⟨hl,h | ⟨ad,cap,hv,h⟩⟩:=h
 ·exact ⟨hl,.inl h⟩
 ·exact ⟨hl,.inr ⟨ad,cap,hv,fun j u hj=>kp_cell k (h j u hj)⟩⟩
theorem RdC.rd {w:World} {v:Value} {l:List Pt} (h:RdC w v l) (hl:l≠[]):Rd w v l:=by
 obtain ⟨hb,⟨_,h⟩ | ⟨ad,cap,hv,h⟩⟩:=h
 ·exact absurd h hl
 ·have hpos:0<l.length:=List.length_pos_iff.2 hl
  have h0:=h 0 _ (by have:=(flat_get l 0 hpos).1;rwa [Nat.zero_mul] at this)
  obtain ⟨b,off,spot⟩:=ad
  have hs:spot=none:=by simpa [Addr.add] using World.cell?_spot h0
  subst hs
  exact ⟨hb,.inr ⟨b,off,cap,hv,pts_of_flat fun j u hj=>by have:=h j u hj;rwa [add_cell] at this⟩⟩
end Go.Proofs.YtgliljnbajohhaaGreatDoor
namespace Go.Proofs.Geo
def mnC (c:Pt→Int) (m:Int) (l:List Pt):Int:=l.foldl (fun m p=>min m (c p)) m
def mxC (c:Pt→Int) (m:Int) (l:List Pt):Int:=l.foldl (fun m p=>max m (c p)) m
theorem mnC_snoc (c:Pt→Int) (m:Int) (l:List Pt) (p:Pt):mnC c m (l++[p])=min (mnC c m l) (c p):=by simp [mnC]
theorem mxC_snoc (c:Pt→Int) (m:Int) (l:List Pt) (p:Pt):mxC c m (l++[p])=max (mxC c m l) (c p):=by simp [mxC]
theorem mxC_mem (c:Pt→Int) (m:Int) (l:List Pt):mxC c m l=m∨∃ p∈l,mxC c m l=c p:=by
 induction l generalizing m with
 | nil=>left;rfl
 | cons q l ih =>
  have e:mxC c m (q :: l)=mxC c (max m (c q)) l:=rfl
  rw [e]
  rcases ih (max m (c q)) with h | ⟨p,hp,h⟩
  ·rcases Int.le_total (c q) m with k | k
   ·left;omega
   ·right;exact ⟨q,by simp,by omega⟩
  ·right;exact ⟨p,by simp [hp],h⟩
def bndOk (l:List Pt):Bool:=!l.isEmpty && l.all okP
def bndB (l:List Pt):Int×Int×Int×Int :=
 match l with
 | []=>(0,0,0,0)
 | a :: m=>if (a :: m).all okP then (mnC Prod.fst a.1 (a :: m),mnC Prod.snd a.2 (a :: m),mxC Prod.fst a.1 (a :: m)+1,mxC Prod.snd a.2 (a :: m)+1) else (0,0,0,0)
theorem bndB_no {l:List Pt} (h:bndOk l=false):bndB l=(0,0,0,0):=by
 cases l with
 | nil=>rfl
 | cons a m=>simp only [bndOk,List.isEmpty_cons,Bool.not_false,Bool.true_and] at h;simp [bndB,h]
theorem bndB_ok {a:Pt} {m:List Pt} (h:(a :: m).all okP=true):bndB (a :: m)=(mnC Prod.fst a.1 (a :: m),mnC Prod.snd a.2 (a :: m),mxC Prod.fst a.1 (a :: m)+1,mxC Prod.snd a.2 (a :: m)+1):=by
 show (if (a :: m).all okP then _ else _)=_
 rw [if_pos h]
theorem bnd_ok_range {l:List Pt} (h:l.all okP=true) {p:Pt} (hp:p∈l):(-1099511627775≤p.1∧p.1≤1099511627775)∧-1099511627775≤p.2∧p.2≤1099511627775:=okP_iff.1 (List.all_eq_true.1 h p hp)
theorem mxC_range {c:Pt→Int} {m:Int} {l:List Pt} (hm:-1099511627775≤m∧m≤1099511627775) (h:∀ p∈l,-1099511627775≤c p∧c p≤1099511627775):-1099511627775≤mxC c m l∧mxC c m l≤1099511627775:=by
 rcases mxC_mem c m l with e | ⟨p,hp,e⟩
 ·omega
 ·have:=h p hp;omega
end Go.Proofs.Geo
namespace Go.Proofs.YtgliljnbajohhaaGreatDoor
open Go.RowKit Go.Proofs.Geo
theorem axis_x (b o:Nat) (w:World):Calls Tryz.prog 218 #[.int .i64 0,.pointer (some ⟨b,o,none⟩)] w fun e w'=>e=.returned (.pointer (some ⟨b,o,none⟩))∧w=w':=by
 go_enter Tryz.func218,Tryz.ntmps218
 go_wp2
 go_ret
 exact ⟨rfl,rfl⟩
theorem axis_y (b o:Nat) (w:World):Calls Tryz.prog 218 #[.int .i64 1,.pointer (some ⟨b,o,none⟩)] w fun e w'=>e=.returned (.pointer (some ⟨b,o+1,none⟩))∧w=w':=by
 go_enter Tryz.func218,Tryz.ntmps218
 go_wp2
 go_ret
 exact ⟨rfl,rfl⟩
abbrev bxV (x:Int×Int×Int×Int):Value:=.agg #[.int .i64 x.1,.int .i64 x.2.1,.int .i64 x.2.2.1,.int .i64 x.2.2.2]
def BndEnd (w:World) (l:List Pt) (e:Ending) (w':World):Prop:=e=.returned (.tuple #[bxV (bndB l),.bool (bndOk l)])∧Kp w w'
theorem bnd_no {w:World} {l:List Pt} {w':World} (h:bndOk l=false) (k:Kp w w'):BndEnd w l (.returned (.tuple #[.agg #[.int .i64 0,.int .i64 0,.int .i64 0,.int .i64 0],.bool false])) w':=by
 unfold BndEnd;rw [h,bndB_no h];exact ⟨rfl,k⟩
set_option maxHeartbeats 4000000 in
theorem bounds_none (a:Option Addr) (cap:Nat) (w:World):Calls Tryz.prog 137 #[.slice a 0 cap] w (BndEnd w []):=by
 go_enter Tryz.func137,Tryz.ntmps137
 go_wp2
 exact bodyPost_ret (v:=.tuple #[.agg #[.int .i64 0,.int .i64 0,.int .i64 0,.int .i64 0],.bool false]) (by simp [results,Tryz.results137,go_sem]) rfl (bnd_no rfl (by repeat (first | exact kp_refl _ | apply kp_alloc | (refine kp_set ?_ (by simp) _))))
set_option maxHeartbeats 4000000 in
theorem bounds_bad (b off cap:Nat) (l:List Pt) (w:World) (hl:l.length≤10000000000000) (h:PtsAt w b off l) (hpos:0<l.length) (hb:l.all okP=false) :
  Calls Tryz.prog 137 #[.slice (some ⟨b,off,none⟩) l.length cap] w (BndEnd w l):=by
 obtain ⟨len,hlen⟩:∃ len,l.length=len:=⟨_,rfl⟩
 have HV:=Lib.hid (fun W (k:Kp w W)=>valids_any b off cap l W hl (h.kp k))
 rw [hlen,hb] at HV
 have HN:=Lib.hid (show bndOk l=false by simp [bndOk,hb])
 rw [hlen] at hpos ⊢
 clear hlen hl h hb
 have e1:(len == 0)=false:=beq_eq_false_iff_ne.2 (by omega)
 have e2:((len:Int) == 0)=false:=beq_eq_false_iff_ne.2 (by omega)
 go_enter Tryz.func137,Tryz.ntmps137
 go_wp2_with (go_at_call 217;refine (HV.out _ (kp_alloc (kp_refl _) _)).mono ?_;rintro e w1 ⟨rfl,hk⟩;have d0:w1.cell? ⟨w.heap.size,0,none⟩=some (.int .i64 0):=kp_cell hk (by simp [go_sem]);have d1:w1.cell? ⟨w.heap.size,1,none⟩=some (.int .i64 0):=kp_cell hk (by simp [go_sem]);have d2:w1.cell? ⟨w.heap.size,2,none⟩=some (.int .i64 0):=kp_cell hk (by simp [go_sem]);have d3:w1.cell? ⟨w.heap.size,3,none⟩=some (.int .i64 0):=kp_cell hk (by simp [go_sem]);obtain ⟨hc1,hf1,hz1⟩:=kp_all hk;clear hz1)
 refine bodyPost_ret (v:=.tuple #[.agg #[.int .i64 0,.int .i64 0,.int .i64 0,.int .i64 0],.bool false]) (by simp [results,Tryz.results137,go_sem,d0,d1,d2,d3]) rfl (bnd_no HN.out ?_)
 repeat (first | exact kp_refl _ | apply kp_alloc | (refine kp_set ?_ (by simp) _) | (refine kp_trans ?_ hk))
end Go.Proofs.YtgliljnbajohhaaGreatDoor
