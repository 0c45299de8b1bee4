import Derived.Test.YtgliljnbajohhaaGreatDoorQ35
import Derived.Test.YtgliljnbajohhaaGreatDoorQ34
import Derived.Test.YtgliljnbajohhaaGreatDoorQ19
import Derived.Conc.MuLone
import Derived.Test.YtgliljnbajohhaaGreatDoorQ02
import Derived.Test.YtgliljnbajohhaaGreatDoorQ07
import Derived.Test.YtgliljnbajohhaaGreatDoorQ05
import Derived.Test.YtgliljnbajohhaaGreatDoorQ14
set_option linter.unusedVariables false
set_option linter.unusedSimpArgs false
namespace Go.Ex
open Go
set_option maxRecDepth 100000
def OvP (P:Program) (k:Nat):Option Func→Prop
 | some fn=>P.funcs[k]? = some fn
 | none=>True
def AllF (P:Program):T Func→(Nat→Nat)→Prop
 | .e,_=>True
 | .n l v r,g=>OvP P (g 0) v∧AllF P l (fun j=>g (2 * j+1))∧AllF P r (fun j=>g (2 * j+2))
theorem allF_ok {P:Program}:∀ {t:T Func} {g:Nat→Nat},AllF P t g→∀ k v,t.get k=some v→P.funcs[g k]? = some v:=by
 intro t
 induction t with
 | e=>intro g h k v hk;rw [T.get_e] at hk;cases hk
 | n l x r il ir =>
  intro g h k v hk
  obtain ⟨h1,h2,h3⟩:=h
  rw [T.get_n] at hk
  by_cases c0:k=0
  ·rw [if_pos c0] at hk;subst hk;rw [c0];exact h1
  ·rw [if_neg c0] at hk
   by_cases c1:k % 2=1
   ·rw [if_pos c1] at hk
    have:=il h2 _ _ hk
    have e:2 * (k / 2)+1=k:=by omega
    simpa [e] using this
   ·rw [if_neg c1] at hk
    have:=ir h3 _ _ hk
    have e:2 * (k / 2 - 1)+2=k:=by omega
    simpa [e] using this
theorem ftAll:AllF Go.Proofs.Tryz.prog ftT (fun j=>j):=⟨trivial,⟨trivial,⟨trivial,⟨Go.Proofs.Tryz.func7,⟨Go.Proofs.Tryz.func15,⟨Go.Proofs.Tryz.func31,⟨Go.Proofs.Tryz.func63,⟨trivial,trivial,⟨Go.Proofs.Tryz.func383,trivial,trivial⟩⟩,trivial⟩,⟨Go.Proofs.Tryz.func95,⟨Go.Proofs.Tryz.func159,trivial,trivial⟩,⟨Go.Proofs.Tryz.func223,trivial,trivial⟩⟩⟩,⟨Go.Proofs.Tryz.func47,⟨Go.Proofs.Tryz.func79,⟨Go.Proofs.Tryz.func143,trivial,trivial⟩,⟨Go.Proofs.Tryz.func207,trivial,trivial⟩⟩,⟨trivial,⟨Go.Proofs.Tryz.func175,trivial,trivial⟩,trivial⟩⟩⟩,⟨Go.Proofs.Tryz.func23,⟨Go.Proofs.Tryz.func39,⟨Go.Proofs.Tryz.func71,⟨trivial,⟨Go.Proofs.Tryz.func263,⟨Go.Proofs.Tryz.func519,trivial,trivial⟩,trivial⟩,trivial⟩,trivial⟩,⟨trivial,⟨Go.Proofs.Tryz.func167,⟨Go.Proofs.Tryz.func295,trivial,trivial⟩,trivial⟩,⟨Go.Proofs.Tryz.func231,trivial,trivial⟩⟩⟩,⟨Go.Proofs.Tryz.func55,⟨Go.Proofs.Tryz.func87,⟨Go.Proofs.Tryz.func151,⟨Go.Proofs.Tryz.func279,trivial,trivial⟩,⟨Go.Proofs.Tryz.func407,trivial,trivial⟩⟩,trivial⟩,⟨Go.Proofs.Tryz.func119,⟨Go.Proofs.Tryz.func183,⟨Go.Proofs.Tryz.func311,trivial,trivial⟩,trivial⟩,trivial⟩⟩⟩⟩,⟨Go.Proofs.Tryz.func11,⟨Go.Proofs.Tryz.func19,⟨Go.Proofs.Tryz.func35,⟨Go.Proofs.Tryz.func67,⟨trivial,⟨Go.Proofs.Tryz.func259,⟨Go.Proofs.Tryz.func515,trivial,trivial⟩,trivial⟩,trivial⟩,trivial⟩,⟨Go.Proofs.Tryz.func99,⟨trivial,⟨Go.Proofs.Tryz.func291,trivial,trivial⟩,trivial⟩,⟨Go.Proofs.Tryz.func227,trivial,trivial⟩⟩⟩,⟨Go.Proofs.Tryz.func51,⟨Go.Proofs.Tryz.func83,⟨Go.Proofs.Tryz.func147,⟨trivial,⟨Go.Proofs.Tryz.func531,trivial,trivial⟩,trivial⟩,trivial⟩,trivial⟩,⟨trivial,⟨Go.Proofs.Tryz.func179,trivial,trivial⟩,⟨trivial,⟨Go.Proofs.Tryz.func371,trivial,trivial⟩,trivial⟩⟩⟩⟩,⟨Go.Proofs.Tryz.func27,⟨Go.Proofs.Tryz.func43,⟨Go.Proofs.Tryz.func75,⟨Go.Proofs.Tryz.func139,⟨Go.Proofs.Tryz.func267,trivial,trivial⟩,trivial⟩,⟨Go.Proofs.Tryz.func203,⟨Go.Proofs.Tryz.func331,trivial,trivial⟩,trivial⟩⟩,⟨trivial,⟨Go.Proofs.Tryz.func171,⟨Go.Proofs.Tryz.func299,trivial,trivial⟩,trivial⟩,⟨Go.Proofs.Tryz.func235,⟨Go.Proofs.Tryz.func363,trivial,trivial⟩,trivial⟩⟩⟩,⟨Go.Proofs.Tryz.func59,⟨Go.Proofs.Tryz.func91,trivial,⟨Go.Proofs.Tryz.func219,trivial,trivial⟩⟩,⟨trivial,⟨Go.Proofs.Tryz.func187,trivial,trivial⟩,⟨trivial,⟨Go.Proofs.Tryz.func379,trivial,trivial⟩,trivial⟩⟩⟩⟩⟩⟩,⟨trivial,⟨Go.Proofs.Tryz.func9,⟨Go.Proofs.Tryz.func17,⟨Go.Proofs.Tryz.func33,⟨Go.Proofs.Tryz.func65,⟨trivial,⟨Go.Proofs.Tryz.func257,trivial,trivial⟩,trivial⟩,⟨trivial,⟨Go.Proofs.Tryz.func321,trivial,trivial⟩,trivial⟩⟩,⟨Go.Proofs.Tryz.func97,trivial,⟨Go.Proofs.Tryz.func225,trivial,trivial⟩⟩⟩,⟨Go.Proofs.Tryz.func49,⟨Go.Proofs.Tryz.func81,⟨Go.Proofs.Tryz.func145,trivial,trivial⟩,trivial⟩,⟨trivial,⟨Go.Proofs.Tryz.func177,trivial,trivial⟩,⟨Go.Proofs.Tryz.func241,⟨Go.Proofs.Tryz.func369,trivial,trivial⟩,trivial⟩⟩⟩⟩,⟨Go.Proofs.Tryz.func25,⟨Go.Proofs.Tryz.func41,⟨Go.Proofs.Tryz.func73,⟨Go.Proofs.Tryz.func137,⟨Go.Proofs.Tryz.func265,⟨Go.Proofs.Tryz.func521,trivial,trivial⟩,trivial⟩,trivial⟩,trivial⟩,⟨trivial,⟨Go.Proofs.Tryz.func169,⟨Go.Proofs.Tryz.func297,trivial,trivial⟩,trivial⟩,⟨Go.Proofs.Tryz.func233,⟨Go.Proofs.Tryz.func361,trivial,trivial⟩,trivial⟩⟩⟩,⟨Go.Proofs.Tryz.func57,⟨Go.Proofs.Tryz.func89,⟨Go.Proofs.Tryz.func153,trivial,trivial⟩,⟨Go.Proofs.Tryz.func217,trivial,trivial⟩⟩,⟨Go.Proofs.Tryz.func121,⟨Go.Proofs.Tryz.func185,trivial,trivial⟩,⟨Go.Proofs.Tryz.func249,⟨Go.Proofs.Tryz.func377,trivial,trivial⟩,trivial⟩⟩⟩⟩⟩,⟨Go.Proofs.Tryz.func13,⟨Go.Proofs.Tryz.func21,⟨Go.Proofs.Tryz.func37,⟨Go.Proofs.Tryz.func69,trivial,trivial⟩,⟨Go.Proofs.Tryz.func101,⟨Go.Proofs.Tryz.func165,⟨Go.Proofs.Tryz.func293,trivial,trivial⟩,trivial⟩,⟨Go.Proofs.Tryz.func229,trivial,trivial⟩⟩⟩,⟨Go.Proofs.Tryz.func53,⟨Go.Proofs.Tryz.func85,⟨Go.Proofs.Tryz.func149,⟨Go.Proofs.Tryz.func277,⟨Go.Proofs.Tryz.func533,trivial,trivial⟩,trivial⟩,trivial⟩,trivial⟩,⟨trivial,⟨Go.Proofs.Tryz.func181,⟨Go.Proofs.Tryz.func309,trivial,trivial⟩,trivial⟩,⟨Go.Proofs.Tryz.func245,⟨Go.Proofs.Tryz.func373,trivial,trivial⟩,trivial⟩⟩⟩⟩,⟨Go.Proofs.Tryz.func29,⟨Go.Proofs.Tryz.func45,⟨Go.Proofs.Tryz.func77,⟨trivial,⟨Go.Proofs.Tryz.func269,trivial,trivial⟩,trivial⟩,⟨Go.Proofs.Tryz.func205,⟨Go.Proofs.Tryz.func333,trivial,trivial⟩,trivial⟩⟩,⟨Go.Proofs.Tryz.func109,⟨Go.Proofs.Tryz.func173,trivial,trivial⟩,⟨Go.Proofs.Tryz.func237,trivial,trivial⟩⟩⟩,⟨trivial,⟨Go.Proofs.Tryz.func93,⟨Go.Proofs.Tryz.func157,trivial,trivial⟩,trivial⟩,⟨trivial,⟨trivial,⟨Go.Proofs.Tryz.func317,trivial,trivial⟩,trivial⟩,⟨Go.Proofs.Tryz.func253,trivial,trivial⟩⟩⟩⟩⟩⟩⟩,⟨trivial,⟨Go.Proofs.Tryz.func4,⟨Go.Proofs.Tryz.func8,⟨Go.Proofs.Tryz.func16,⟨Go.Proofs.Tryz.func32,⟨trivial,⟨Go.Proofs.Tryz.func128,trivial,trivial⟩,⟨trivial,⟨Go.Proofs.Tryz.func320,trivial,trivial⟩,trivial⟩⟩,⟨Go.Proofs.Tryz.func96,⟨Go.Proofs.Tryz.func160,trivial,⟨Go.Proofs.Tryz.func416,trivial,trivial⟩⟩,⟨Go.Proofs.Tryz.func224,trivial,trivial⟩⟩⟩,⟨trivial,⟨Go.Proofs.Tryz.func80,⟨Go.Proofs.Tryz.func144,trivial,trivial⟩,⟨Go.Proofs.Tryz.func208,trivial,trivial⟩⟩,⟨trivial,⟨Go.Proofs.Tryz.func176,trivial,trivial⟩,⟨Go.Proofs.Tryz.func240,trivial,trivial⟩⟩⟩⟩,⟨Go.Proofs.Tryz.func24,⟨trivial,⟨Go.Proofs.Tryz.func72,⟨trivial,⟨Go.Proofs.Tryz.func264,⟨Go.Proofs.Tryz.func520,trivial,trivial⟩,trivial⟩,trivial⟩,trivial⟩,⟨Go.Proofs.Tryz.func104,⟨Go.Proofs.Tryz.func168,⟨Go.Proofs.Tryz.func296,trivial,trivial⟩,trivial⟩,⟨Go.Proofs.Tryz.func232,⟨Go.Proofs.Tryz.func360,trivial,trivial⟩,trivial⟩⟩⟩,⟨Go.Proofs.Tryz.func56,trivial,⟨Go.Proofs.Tryz.func120,⟨Go.Proofs.Tryz.func184,⟨Go.Proofs.Tryz.func312,trivial,trivial⟩,trivial⟩,⟨Go.Proofs.Tryz.func248,trivial,trivial⟩⟩⟩⟩⟩,⟨Go.Proofs.Tryz.func12,⟨Go.Proofs.Tryz.func20,⟨Go.Proofs.Tryz.func36,⟨Go.Proofs.Tryz.func68,⟨Go.Proofs.Tryz.func132,⟨Go.Proofs.Tryz.func260,⟨Go.Proofs.Tryz.func516,trivial,trivial⟩,trivial⟩,trivial⟩,⟨Go.Proofs.Tryz.func196,⟨Go.Proofs.Tryz.func324,trivial,trivial⟩,trivial⟩⟩,⟨Go.Proofs.Tryz.func100,⟨Go.Proofs.Tryz.func164,⟨Go.Proofs.Tryz.func292,trivial,trivial⟩,trivial⟩,⟨Go.Proofs.Tryz.func228,⟨Go.Proofs.Tryz.func356,trivial,trivial⟩,trivial⟩⟩⟩,⟨Go.Proofs.Tryz.func52,⟨Go.Proofs.Tryz.func84,⟨Go.Proofs.Tryz.func148,⟨trivial,⟨Go.Proofs.Tryz.func532,trivial,trivial⟩,trivial⟩,trivial⟩,trivial⟩,⟨trivial,⟨Go.Proofs.Tryz.func180,trivial,trivial⟩,⟨trivial,⟨Go.Proofs.Tryz.func372,trivial,trivial⟩,trivial⟩⟩⟩⟩,⟨Go.Proofs.Tryz.func28,⟨trivial,⟨Go.Proofs.Tryz.func76,⟨Go.Proofs.Tryz.func140,⟨Go.Proofs.Tryz.func268,trivial,trivial⟩,trivial⟩,⟨Go.Proofs.Tryz.func204,⟨Go.Proofs.Tryz.func332,trivial,trivial⟩,trivial⟩⟩,⟨trivial,⟨Go.Proofs.Tryz.func172,⟨Go.Proofs.Tryz.func300,trivial,trivial⟩,trivial⟩,trivial⟩⟩,⟨Go.Proofs.Tryz.func60,⟨Go.Proofs.Tryz.func92,⟨trivial,⟨Go.Proofs.Tryz.func284,trivial,trivial⟩,trivial⟩,⟨Go.Proofs.Tryz.func220,trivial,trivial⟩⟩,⟨Go.Proofs.Tryz.func124,trivial,trivial⟩⟩⟩⟩⟩,⟨Go.Proofs.Tryz.func6,⟨Go.Proofs.Tryz.func10,⟨Go.Proofs.Tryz.func18,⟨Go.Proofs.Tryz.func34,⟨Go.Proofs.Tryz.func66,⟨Go.Proofs.Tryz.func130,⟨Go.Proofs.Tryz.func258,⟨Go.Proofs.Tryz.func514,trivial,trivial⟩,trivial⟩,⟨Go.Proofs.Tryz.func386,trivial,trivial⟩⟩,⟨Go.Proofs.Tryz.func194,trivial,trivial⟩⟩,⟨Go.Proofs.Tryz.func98,⟨Go.Proofs.Tryz.func162,⟨Go.Proofs.Tryz.func290,trivial,trivial⟩,⟨Go.Proofs.Tryz.func418,trivial,trivial⟩⟩,⟨Go.Proofs.Tryz.func226,trivial,trivial⟩⟩⟩,⟨Go.Proofs.Tryz.func50,⟨Go.Proofs.Tryz.func82,⟨Go.Proofs.Tryz.func146,trivial,trivial⟩,trivial⟩,⟨trivial,⟨Go.Proofs.Tryz.func178,trivial,trivial⟩,⟨Go.Proofs.Tryz.func242,⟨Go.Proofs.Tryz.func370,trivial,trivial⟩,trivial⟩⟩⟩⟩,⟨Go.Proofs.Tryz.func26,⟨Go.Proofs.Tryz.func42,⟨Go.Proofs.Tryz.func74,⟨Go.Proofs.Tryz.func138,⟨Go.Proofs.Tryz.func266,trivial,trivial⟩,trivial⟩,⟨Go.Proofs.Tryz.func202,trivial,trivial⟩⟩,⟨trivial,⟨Go.Proofs.Tryz.func170,⟨Go.Proofs.Tryz.func298,trivial,trivial⟩,trivial⟩,⟨Go.Proofs.Tryz.func234,⟨Go.Proofs.Tryz.func362,trivial,trivial⟩,trivial⟩⟩⟩,⟨Go.Proofs.Tryz.func58,⟨Go.Proofs.Tryz.func90,⟨Go.Proofs.Tryz.func154,trivial,trivial⟩,⟨Go.Proofs.Tryz.func218,trivial,trivial⟩⟩,⟨Go.Proofs.Tryz.func122,⟨Go.Proofs.Tryz.func186,trivial,trivial⟩,⟨Go.Proofs.Tryz.func250,⟨Go.Proofs.Tryz.func378,trivial,trivial⟩,trivial⟩⟩⟩⟩⟩,⟨Go.Proofs.Tryz.func14,⟨Go.Proofs.Tryz.func22,⟨Go.Proofs.Tryz.func38,⟨Go.Proofs.Tryz.func70,⟨Go.Proofs.Tryz.func134,trivial,trivial⟩,⟨trivial,⟨Go.Proofs.Tryz.func326,trivial,trivial⟩,trivial⟩⟩,⟨trivial,⟨Go.Proofs.Tryz.func166,⟨Go.Proofs.Tryz.func294,trivial,trivial⟩,trivial⟩,⟨Go.Proofs.Tryz.func230,trivial,trivial⟩⟩⟩,⟨Go.Proofs.Tryz.func54,⟨Go.Proofs.Tryz.func86,⟨Go.Proofs.Tryz.func150,trivial,⟨Go.Proofs.Tryz.func406,trivial,trivial⟩⟩,⟨Go.Proofs.Tryz.func214,trivial,trivial⟩⟩,⟨Go.Proofs.Tryz.func118,⟨Go.Proofs.Tryz.func182,⟨Go.Proofs.Tryz.func310,trivial,trivial⟩,trivial⟩,⟨Go.Proofs.Tryz.func246,⟨Go.Proofs.Tryz.func374,trivial,trivial⟩,trivial⟩⟩⟩⟩,⟨Go.Proofs.Tryz.func30,⟨Go.Proofs.Tryz.func46,⟨Go.Proofs.Tryz.func78,⟨Go.Proofs.Tryz.func142,trivial,trivial⟩,⟨Go.Proofs.Tryz.func206,⟨Go.Proofs.Tryz.func334,trivial,trivial⟩,trivial⟩⟩,⟨trivial,⟨Go.Proofs.Tryz.func174,trivial,trivial⟩,⟨Go.Proofs.Tryz.func238,trivial,trivial⟩⟩⟩,⟨Go.Proofs.Tryz.func62,⟨Go.Proofs.Tryz.func94,⟨Go.Proofs.Tryz.func158,trivial,trivial⟩,⟨trivial,⟨Go.Proofs.Tryz.func350,trivial,trivial⟩,trivial⟩⟩,⟨Go.Proofs.Tryz.func126,⟨Go.Proofs.Tryz.func190,⟨Go.Proofs.Tryz.func318,trivial,trivial⟩,trivial⟩,⟨Go.Proofs.Tryz.func254,⟨Go.Proofs.Tryz.func382,trivial,trivial⟩,trivial⟩⟩⟩⟩⟩⟩⟩⟩
noncomputable def chk2 (_:Nat) (fn:Func):Bool:=!(fn.name == "runtime.NumGoroutine")
theorem ftNames:allT chk2 ftT (fun j=>j)=true:=by kernel_rfl
theorem mixed:Go.Proofs.Tryz.prog.follows .mixedOrders=true:=by kernel_rfl
theorem tbOk [Val] (orc:Nat→List AV→S→Option (AV×S)) {cmp:XI→XI→Option Cm} {ari:BinOp→IntKind→XI→XI→Option XI} (hl:LetOk Go.Proofs.Tryz.prog cmp ari):TbOk' Go.Proofs.Tryz.prog ⟨tiT,ftT,xtT,orc,cmp,ari⟩ where
 ti t i h:=(ti_ok t i h).1
 ft k fn h:=⟨allF_ok ftAll k fn h,by
  have:=allT_ok ftNames k fn h
  simpa [chk2] using this⟩
 mixed:=mixed
 lt:=hl
 noth t i h:=(ti_ok t i h).2
end Go.Ex
namespace Go.Proofs.YtgliljnbajohhaaGreatDoor
open Go Go.RowKit
abbrev muL:Go.Conc.Locks.MuLink:={ lock:=358,unlock:=359,ilock:=403,iunlock:=404,lockSlow:=434,unlockSlow:=437,disable:=430,enable:=432,acquire:=433,relMerge:=435,cas32:=431,add32:=436,tMutex:=389,tIMutex:=387,tPMutex:=595,tPIMutex:=619,tPI32:=621,tUP:=82,tNoCopy:=382,tU32:=383 }
theorem muLib:Go.Conc.Locks.MuLib Tryz.prog muL :=
 ⟨Tryz.func358,Tryz.func359,Tryz.func403,Tryz.func404,Tryz.func430,Tryz.func432,Tryz.func433,Tryz.func435,Tryz.func431,Tryz.func436,
 Tryz.underlying387,Tryz.runUnderlying387,Tryz.sizeOf387,Tryz.isAgg387,Tryz.zeroValue387,
 Tryz.underlying389,Tryz.runUnderlying389,Tryz.sizeOf389,Tryz.isAgg389,Tryz.zeroValue389,
 Tryz.underlying595,Tryz.runUnderlying595,Tryz.sizeOf595,Tryz.isAgg595,Tryz.zeroValue595,
 Tryz.underlying619,Tryz.runUnderlying619,Tryz.sizeOf619,Tryz.isAgg619,Tryz.zeroValue619,
 Tryz.underlying621,Tryz.runUnderlying621,Tryz.sizeOf621,Tryz.isAgg621,Tryz.zeroValue621,
 Tryz.underlying82,Tryz.runUnderlying82,Tryz.sizeOf82,Tryz.isAgg82,Tryz.zeroValue82,
 Tryz.underlying382,Tryz.runUnderlying382,Tryz.sizeOf382,Tryz.isAgg382,Tryz.zeroValue382,
 Tryz.underlying21,Tryz.runUnderlying21,Tryz.sizeOf21,Tryz.isAgg21,Tryz.zeroValue21,(by kernel_rfl)⟩
theorem pload_nil (b off:Nat) (w:World) (hc:w.cell? ⟨b,off,none⟩=some (.pointer none)) :
  Calls Tryz.prog 61 #[.pointer (some ⟨b,off,none⟩)] w fun e w'=>e=.returned (.pointer none)∧w'=w:=by
 have h1:(callFunc 141 #[.pointer (some ⟨b,off,none⟩)]).run Tryz.prog w=.ok (.value (.pointer none)) w:=by
  rw [run_callFunc_extern Tryz.func141 (by kernel_rfl) (by kernel_rfl) (by kernel_rfl) (by kernel_rfl:Extern.find _=some (Extern.Atomic.loadT .ptr))]
  change (Sem.run Tryz.prog (do Extern.Atomic.read .ptr (← asAddr (.pointer (some ⟨b,off,none⟩)))) w).andThen _=_
  simp [Extern.Atomic.read,asAddr,hc,Result.andThen]
 have h2:(convert 82 78 (.pointer none)).run Tryz.prog w=.ok (.pointer none) w:=by
  simp [convert,Conv.unsafePointer,run_underlying Tryz.underlying82,run_underlying Tryz.underlying78]
 go_enter Tryz.func61,Tryz.ntmps61
 go_wp2
 go_ret
 exact ⟨rfl,rfl⟩
theorem pstore_at (b off b2 off2:Nat) (u v:Value) (w:World) (hc:w.cell? ⟨b,off,none⟩=some u) (hz:w.frozen? ⟨b,off,none⟩=false) (hc2:w.cell? ⟨b2,off2,none⟩=some v) :
  Calls Tryz.prog 64 #[.pointer (some ⟨b,off,none⟩),.pointer (some ⟨b2,off2,none⟩)] w fun e w'=>e=.returned (.tuple #[])∧w'=w.setCell ⟨b,off,none⟩ (.pointer (some ⟨b2,off2,none⟩)):=by
 have h1:(callFunc 152 #[.pointer (some ⟨b,off,none⟩),.pointer (some ⟨b2,off2,none⟩)]).run Tryz.prog w=.ok (.value (.tuple #[])) (w.setCell ⟨b,off,none⟩ (.pointer (some ⟨b2,off2,none⟩))):=by
  rw [run_callFunc_extern Tryz.func152 (by kernel_rfl) (by kernel_rfl) (by kernel_rfl) (by kernel_rfl:Extern.find _=some Extern.Atomic.storeT)]
  change (Sem.run Tryz.prog (do
   store (← asAddr (.pointer (some ⟨b,off,none⟩))) (.pointer (some ⟨b2,off2,none⟩)) .atomic
   pure Extern.Atomic.none_) w).andThen _=_
  simp [asAddr,hc,hz,run_store Tryz.prog w ⟨b,off,none⟩ (.pointer (some ⟨b2,off2,none⟩)) .atomic rfl,Result.andThen,Extern.Atomic.none_]
 have h2:(convert 78 82 (.pointer (some ⟨b2,off2,none⟩))).run Tryz.prog w=.ok (.pointer (some ⟨b2,off2,none⟩)) w:=run_convert_to_unsafe Tryz.underlying78 Tryz.underlying82 (by kernel_rfl) hc2
 go_enter Tryz.func64,Tryz.ntmps64
 go_wp2
 go_end0
 exact ⟨rfl,rfl⟩
end Go.Proofs.YtgliljnbajohhaaGreatDoor
namespace Go.Ex
set_option maxRecDepth 100000
open Go Go.RowKit Go.Proofs Go.Proofs.YtgliljnbajohhaaGreatDoor
def isX (k:Nat):EK→Bool
 | .turn .i32 a b=>(Nat.beq k 358 && (ieq a 0 && ieq b 1)) || (Nat.beq k 359 && (ieq a 1 && ieq b 0))
 | .add .i64=>Nat.beq k 328
 | .add64=>Nat.beq k 189
 | .load .u32=>Nat.beq k 357
 | .store .u32=>Nat.beq k 405
 | .pload=>Nat.beq k 61
 | .pstore=>Nat.beq k 64
 | _=>false
theorem xtAll:allT isX xtT (fun j=>j)=true:=by kernel_rfl
section
variable {ρ:Env} {Pr:Nat→Prop} {w0 w w':World} {st st':S} {args:List AV} {vs:List Value} {r:AV}
theorem calls_S {P:Program} {k:Nat} {fn:Func} {c:Code} (hf:P.funcs[k]? = some fn) (hn:(fn.name == "runtime.NumGoroutine")=false) (hb:fn.body=some c) {R':Ending→World→Prop} {R:Value→World→Prop}
  (h:Calls P k vs.toArray w R') (hR:∀ e w',R' e w'→∃ c,e=.returned c∧R c w'):CallS P k vs w R:=by
 unfold CallS
 rw [enter_ok hf hn hb]
 exact Calls.mono h hR
theorem ext_pload [Val] (h:extX .pload args st=some (r,st')) (W:WR Pr w0 ρ st.h.get st.nx w) (hv:VRs ρ args vs):CallS Tryz.prog 61 vs w (Out Pr w0 ρ st.nx r st'):=by
 unfold extX at h
 split at h <;> try (first | contradiction | (cases h;done))
 rename_i id off heq
 split at h
 ·rename_i l e sz g hrow
  split at h
  ·rename_i hm
   simp only [Option.some.injEq,Prod.mk.injEq] at h
   obtain ⟨rfl,rfl⟩:=h
   cases hv with
   | cons h1 h2 =>
    cases h2
    obtain ⟨b,s,cs,ds,c1,rfl,c2,c3,c4,c5,c6⟩:=ptr_row W hrow h1
    obtain ⟨x,hx,hxv⟩:=c3.get hm
    cases hxv
    refine calls_S Tryz.func61 (by kernel_rfl) rfl (pload_nil b off w (cell_app c2 hx)) ?_
    rintro e w' ⟨rfl,rfl⟩
    exact ⟨_,rfl,out_same .p0 W⟩
  ·cases h
 ·cases h
theorem ext_pstore [Val] (h:extX .pstore args st=some (r,st')) (W:WR Pr w0 ρ st.h.get st.nx w) (hv:VRs ρ args vs):CallS Tryz.prog 64 vs w (Out Pr w0 ρ st.nx r st'):=by
 unfold extX at h
 split at h <;> try (first | contradiction | (cases h;done))
 rename_i id off u v heq
 split at h
 ·rename_i l e sz g hrow
  split at h
  ·rename_i l2 e2 sz2 g2 hrow2
   cases hq:(Nat.ble (Nat.succ off) l.length && Nat.ble (Nat.succ v) l2.length) with
   | false=>simp [hq] at h
   | true =>
    simp only [hq,cond_true,Option.some.injEq,Prod.mk.injEq] at h
    simp only [nble,Bool.and_eq_true,decide_eq_true_eq] at hq
    obtain ⟨hq1,hq2⟩:=hq
    obtain ⟨rfl,rfl⟩:=h
    cases hv with
    | cons h1 h2 =>
     cases h2 with
     | cons h3 h4 =>
      cases h4
      obtain ⟨b,s,cs,ds,c1,rfl,c2,c3,c4,c5,c6⟩:=ptr_row W hrow h1
      have h3':=h3
      obtain ⟨b2,s2,cs2,ds2,z1,rfl,z2,z3,z4,z5,z6⟩:=ptr_row W hrow2 h3
      obtain ⟨x,hx,hxv⟩:=c3.get (List.getElem?_eq_getElem hq1)
      obtain ⟨y,hy,hyv⟩:=z3.get (List.getElem?_eq_getElem hq2)
      refine calls_S Tryz.func64 (by kernel_rfl) rfl (pstore_at b off b2 v x y w (cell_app c2 hx) (frozen_of_row w b off _ _ c2) (cell_app z2 hy)) ?_
      rintro e w' ⟨rfl,rfl⟩
      exact ⟨_,rfl,out_upd (upd_cell W hrow c1 c2 c3 c4 c5 c6 hq1 h3' rfl)⟩
  ·cases h
 ·cases h
theorem ext_add64 [Val] (h:extX .add64 args st=some (r,st')) (W:WR Pr w0 ρ st.h.get st.nx w) (hv:VRs ρ args vs):CallS Tryz.prog 189 vs w (Out Pr w0 ρ st.nx r st'):=by
 unfold extX at h
 split at h <;> try (first | contradiction | (cases h;done))
 rename_i a b c heq
 cases hq:Nat.ble c 1 with
 | false=>simp [hq] at h
 | true =>
  simp only [hq,cond_true,Option.some.injEq,Prod.mk.injEq] at h
  simp only [nble,decide_eq_true_eq] at hq
  obtain ⟨rfl,rfl⟩:=h
  cases hv with
  | cons h1 h2 =>
   cases h2 with
   | cons h3 h4 =>
    cases h4 with
    | cons h5 h6 =>
     cases h6
     cases h1
     cases h3
     cases h5
     have:=add64 a b c hq w
     unfold CallS
     rw [show ([Value.int .u64 (.ofNat a),Value.int .u64 (.ofNat b),Value.int .u64 (.ofNat c)]:List Value).toArray = #[.int .u64 (a:Int),.int .u64 (b:Int),.int .u64 (c:Int)] from rfl,this]
     exact out_same (.tup (xs:=[_,_]) (.cons (.i _ _) (.cons (.i _ _) .nil))) W
theorem n328:(Tryz.f328.name == "runtime.NumGoroutine")=false:=by kernel_rfl
theorem b328:Tryz.f328.body.isNone=true:=by kernel_rfl
theorem x328:Extern.findNext Tryz.f328=none:=by kernel_rfl
theorem z328:Extern.find Tryz.f328=some (Extern.Atomic.update (Op.intArith .add) .i64 true):=by kernel_rfl
theorem e328 [Val] (h:extX (.add .i64) args st=some (r,st')) (W:WR Pr w0 ρ st.h.get st.nx w) (hv:VRs ρ args vs):CallS Tryz.prog 328 vs w (Out Pr w0 ρ st.nx r st') :=
 ext_add (P:=Tryz.prog) (f:=328) (fn:=Tryz.f328) Tryz.func328 n328 b328 x328 .i64 z328 h W hv
theorem n357:(Tryz.f357.name == "runtime.NumGoroutine")=false:=by kernel_rfl
theorem b357:Tryz.f357.body.isNone=true:=by kernel_rfl
theorem x357:Extern.findNext Tryz.f357=none:=by kernel_rfl
theorem z357:Extern.find Tryz.f357=some (Extern.Atomic.loadT (.int .u32)):=by kernel_rfl
theorem e357 [Val] (h:extX (.load .u32) args st=some (r,st')) (W:WR Pr w0 ρ st.h.get st.nx w) (hv:VRs ρ args vs):CallS Tryz.prog 357 vs w (Out Pr w0 ρ st.nx r st') :=
 ext_load (P:=Tryz.prog) (f:=357) (fn:=Tryz.f357) Tryz.func357 n357 b357 x357 .u32 z357 h W hv
theorem n405:(Tryz.f405.name == "runtime.NumGoroutine")=false:=by kernel_rfl
theorem b405:Tryz.f405.body.isNone=true:=by kernel_rfl
theorem x405:Extern.findNext Tryz.f405=none:=by kernel_rfl
theorem z405:Extern.find Tryz.f405=some (Extern.Atomic.storeT):=by kernel_rfl
theorem e405 [Val] (h:extX (.store .u32) args st=some (r,st')) (W:WR Pr w0 ρ st.h.get st.nx w) (hv:VRs ρ args vs):CallS Tryz.prog 405 vs w (Out Pr w0 ρ st.nx r st') :=
 ext_store (P:=Tryz.prog) (f:=405) (fn:=Tryz.f405) Tryz.func405 n405 b405 x405 .u32 z405 h W hv
theorem ext_ok [Val] {k:Nat} {e:EK} (he:xtT.get k=some e) (h:extX e args st=some (r,st')) (W:WR Pr w0 ρ st.h.get st.nx w) (hv:VRs ρ args vs):CallS Tryz.prog k vs w (Out Pr w0 ρ st.nx r st'):=by
 have hx:=allT_ok xtAll k e he
 unfold isX at hx
 split at hx
 ·simp only [ieq_eq,Bool.or_eq_true,Bool.and_eq_true,decide_eq_true_eq] at hx
  rcases hx with ⟨hk,rfl,rfl⟩ | ⟨hk,rfl,rfl⟩
  ·have hk:=nbt hk;subst hk;exact ext_lock muLib h W hv
  ·have hk:=nbt hk;subst hk;exact (ext_unlock muLib h W hv).1
 ·have hx:=nbt hx;subst hx;exact e328 h W hv
 ·have hx:=nbt hx;subst hx;exact ext_add64 h W hv
 ·have hx:=nbt hx;subst hx;exact e357 h W hv
 ·have hx:=nbt hx;subst hx;exact e405 h W hv
 ·have hx:=nbt hx;subst hx;exact ext_pload h W hv
 ·have hx:=nbt hx;subst hx;exact ext_pstore h W hv
 ·cases hx
theorem dext_ok [Val] {k:Nat} {e:EK} (he:xtT.get k=some e) (ht:e.isTurn=true) (h:extX e args st=some (r,st')) (W:WR Pr w0 ρ st.h.get st.nx w) (hv:VRs ρ args vs) :
  ∃ f args',(callFunc k vs.toArray).run Tryz.prog w=.ok (.enter f args') w∧CallsD Tryz.prog f args' .returning w fun e u' w'=>u'=.returning∧∃ c,e=.returned c∧Out Pr w0 ρ st.nx r st' c w':=by
 have hx:=allT_ok xtAll k e he
 unfold isX at hx
 split at hx
 ·simp only [ieq_eq,Bool.or_eq_true,Bool.and_eq_true,decide_eq_true_eq] at hx
  rcases hx with ⟨hk,rfl,rfl⟩ | ⟨hk,rfl,rfl⟩
  ·simp [EK.isTurn,ieq_eq] at ht
  ·have hk:=nbt hk;subst hk;exact (ext_unlock muLib h W hv).2
 all_goals (first | (simp [EK.isTurn] at ht;done) | cases hx)
theorem xok [Val] {orc:Nat→List AV→S→Option (AV×S)} {cmp:XI→XI→Option Cm} {ari:BinOp→IntKind→XI→XI→Option XI}
  (ho:∀ k args st r st',orc k args st=some (r,st')→∀ (Pr:Nat→Prop) (w0:World) (ρ:Env) (w:World) (vs:List Value),WR Pr w0 ρ st.h.get st.nx w→VRs ρ args vs→CallS Tryz.prog k vs w (Out Pr w0 ρ st.nx r st')) :
  XOk Tryz.prog ⟨tiT,ftT,xtT,orc,cmp,ari⟩ where
 orc:=ho
 ext k e args st r st' he h Pr w0 ρ w vs W hv:=ext_ok he h W hv
 dext k e args st r st' he ht h Pr w0 ρ w vs W hv:=dext_ok he ht h W hv
end
end Go.Ex
namespace Go.Ex
open Go Go.RowKit
noncomputable def mkT:List (Option AObj)→Nat→T AObj
 | [],_=>.e
 | o :: r,k=>(mkT r (Nat.succ k)).set 30 k o
noncomputable def S.ofL (l:List (Option AObj)):S:=⟨mkT l 0,l.length⟩
theorem mkT_get:∀ (l:List (Option AObj)) (k i:Nat),k+l.length≤1000100→(mkT l k).get i=if k≤i then (l[i - k]?).join else none
 | [],k,i,_=>by simp [mkT,T.get_e]
 | o :: r,k,i,h=>by
  simp only [List.length_cons] at h
  change ((mkT r (k+1)).set 30 k o).get i=_
  rw [set_get _ _ (by omega),mkT_get r (k+1) i (by omega)]
  by_cases c:i=k
  ·subst c;simp
  ·rw [if_neg c]
   by_cases c2:k≤i
   ·rw [if_pos (by omega),if_pos c2,show i - k=(i - (k+1))+1 by omega,List.getElem?_cons_succ]
   ·rw [if_neg (by omega),if_neg c2]
theorem ofL_get {l:List (Option AObj)} (h:l.length≤1000100) (i:Nat):(S.ofL l).h.get i=(l[i]?).join:=by
 have:=mkT_get l 0 i (by omega)
 simpa [S.ofL] using this
theorem ofL_some {l:List (Option AObj)} (h:l.length≤1000100) {i:Nat} {o:AObj} (hi:(S.ofL l).h.get i=some o):l[i]? = some (some o):=by
 rw [ofL_get h] at hi
 cases hq:l[i]? with
 | none=>rw [hq] at hi;cases hi
 | some x=>rw [hq] at hi;cases x with
  | none=>cases hi
  | some y=>cases hi;rfl
theorem HR.ofL [Val] {w:World} {l:List (Option AObj)} {bs:List (Nat×Nat)} (hlen:l.length=bs.length) (hn:l.length≤1000100)
  (hat:∀ (i:Nat) (o:AObj),l[i]? = some (some o)→∃ g s ob,bs[i]? = some (g,s)∧w.heap[g]? = some ob∧OR (fun j=>bs[j]?) s o ob)
  (hinj:∀ (i j:Nat) (o o':AObj) (g s s':Nat),l[i]? = some (some o)→l[j]? = some (some o')→bs[i]? = some (g,s)→bs[j]? = some (g,s')→i=j):HR (fun j=>bs[j]?) (S.ofL l).h.get (S.ofL l).nx w where
 sm:=hn
 fresh id hid:=by
  have:bs.length≤id:=by rw [← hlen];exact hid
  exact List.getElem?_eq_none this
 at_ id o ho:=hat id o (ofL_some hn ho)
 inj i j oi oj g s s' hi hj:=hinj i j oi oj g s s' (ofL_some hn hi) (ofL_some hn hj)
def AV.sure:AV→Bool
 | .p _ _ | .sl _ _ _ _ | .m _=>true
 | a=>a.flat
theorem sure_fn [Val]:∀ {l:List AV},l.all AV.sure=true→∀ {ρ:Env} {xs ys:List Value},VRs ρ l xs→VRs ρ l ys→xs=ys
 | [],_,_,_,_,.nil,.nil=>rfl
 | a :: l,h,_,_,_,.cons p1 p2,.cons q1 q2=>by
  simp only [List.all_cons,Bool.and_eq_true] at h
  rw [sure_fn h.2 p2 q2]
  congr 1
  cases p1 <;> cases q1 <;> first
   | rfl
   | (rename_i h1 _ _ h2;rw [h1] at h2;cases h2;rfl)
   | (simp [AV.sure,AV.flat] at h;done)
def AObj.sure:AObj→Bool
 | .row _ _ _ .yes=>false
 | .row l _ _ _=>l.all AV.sure
 | .map _ _=>false
theorem or_fn [Val] {ρ:Env} {s:Nat} {o:AObj} {x y:Obj} (hs:o.sure=true) (h1:OR ρ s o x) (h2:OR ρ s o y):x=y:=by
 cases h1 with
 | @row l e sz g cs ds p1 p2 p3 p4 =>
  cases h2 with
  | @row _ _ _ _ cs' ds' q1 q2 q3 q4 =>
   cases g with
   | yes=>cases hs
   | no =>
    have e1:ds=[]:=List.eq_nil_of_length_eq_zero (by rw [p2,show s=0 from p4];simp)
    have e2:ds'=[]:=List.eq_nil_of_length_eq_zero (by rw [q2,show s=0 from q4];simp)
    rw [e1,e2,sure_fn hs p1 q1]
   | told c=>rw [show ds=Val.sps c from p4,show ds'=Val.sps c from q4,sure_fn hs p1 q1]
 | map p=>cases hs
theorem HR.wr' [Val] {ρ:Env} {h:Nat→Option AObj} {n:Nat} {w:World} (H:HR ρ h n w) {id:Nat} {o:AObj} (ho:h id=some o):id<n:=by
 obtain ⟨g,s,ob,a1,_⟩:=H.at_ id o ho
 rcases Nat.lt_or_ge id n with k | k
 ·exact k
 ·rw [H.fresh id k] at a1;cases a1
theorem kp_of [Val] {ρ ρ':Env} {h h':Nat→Option AObj} {n n':Nat} {w w':World} (H:HR ρ h n w) (W:WR (PrOf ρ h w) w ρ' h' n' w') (e:Ext n ρ ρ') (hs:∀ id o,h id=some o→o.sure=true∧h' id=some o):Kq w w' :=
 ⟨W.os,W.tape,W.output,W.size,fun k hk=>by
  by_cases c:∃ id o s,h id=some o∧ρ id=some (k,s)
  ·obtain ⟨id,o,s,ho,hr⟩:=c
   obtain ⟨g,s1,ob,a1,a2,a3⟩:=H.at_ id o ho
   rw [hr] at a1
   cases a1
   obtain ⟨h1,h2⟩:=hs id o ho
   obtain ⟨g2,s2,ob2,b1,_,b2,b3⟩:=W.at_ id o h2
   have hid:id<n:=(H.wr' ho)
   rw [e id hid,hr] at b1
   cases b1
   have le:Le ρ ρ':=fun i x hx=>by
    by_cases ci:i<n
    ·rw [e i ci];exact hx
    ·rw [H.fresh i (by omega)] at hx;cases hx
   rw [a2,b2,or_fn h1 (a3.mono le) b3]
  ·exact W.pr k ⟨hk,fun id o s ho hr=>c ⟨id,o,s,ho,hr⟩⟩⟩
end Go.Ex
namespace Go.Proofs.Geo
end Go.Proofs.Geo
namespace Go.Proofs.Geo
theorem skipB_true {n i k:Nat} (h:skipB n i k=false):i+2≤k∧¬ (i=0∧k+1=n):=by
 unfold skipB at h
 rw [Bool.or_eq_false_iff,decide_eq_false_iff_not,Bool.and_eq_false_iff,decide_eq_false_iff_not,decide_eq_false_iff_not] at h
 omega
end Go.Proofs.Geo
namespace Go.Proofs.Geo
def bx (x y s:Int) (m0 m1 m2 m3:Nat) (j:Nat):Pt :=
 if j≤m0 then (x+j,y) else if j≤m0+m1+1 then (x+s,y+((j:Int) - m0 - 1)) else if j≤m0+m1+m2+2 then (x+s - ((j:Int) - m0 - m1 - 2),y+s) else if j≤m0+m1+m2+m3+3 then (x,y+s - ((j:Int) - m0 - m1 - m2 - 3)) else (x,y)
def Fine (a b c:Pt):Prop :=
 (a.2=b.2∧b.2=c.2∧((a.1≤b.1∧b.1≤c.1)∨(c.1≤b.1∧b.1≤a.1)))∨(a.1=b.1∧b.1=c.1∧((a.2≤b.2∧b.2≤c.2)∨(c.2≤b.2∧b.2≤a.2))) ∨
  (a.2=b.2∧b.1=c.1∧a.1≠b.1∧c.2≠b.2)∨(a.1=b.1∧b.2=c.2∧a.2≠b.2∧c.1≠b.1)
theorem fine_back {a b c:Pt} (ha:okP a=true) (hb:okP b=true) (hc:okP c=true) (h:Fine a b c):turn a b c=0→onS b a c=true:=by
 obtain ⟨a1,a2⟩:=a
 obtain ⟨b1,b2⟩:=b
 obtain ⟨c1,c2⟩:=c
 unfold Fine at h
 simp only at h
 rcases h with ⟨e1,e2,h⟩ | ⟨e1,e2,h⟩ | ⟨e1,e2,n1,n2⟩ | ⟨e1,e2,n1,n2⟩
 ·intro _
  subst e1;subst e2
  refine onS_iff.2 ⟨hb,ha,hc,?_,?_,?_⟩
  ·rw [btw_iff];simp only;omega
  ·rw [btw_iff];simp only;omega
  ·unfold det;simp
 ·intro _
  subst e1;subst e2
  refine onS_iff.2 ⟨hb,ha,hc,?_,?_,?_⟩
  ·rw [btw_iff];simp only;omega
  ·rw [btw_iff];simp only;omega
  ·unfold det;simp
 ·intro ht
  exfalso
  subst e1;subst e2
  rw [turn_ok ha hb hc,sign_zero] at ht
  unfold det at ht
  simp only [Int.sub_self,Int.zero_mul,Int.sub_zero] at ht
  rcases Int.mul_eq_zero.1 ht with k | k <;> omega
 ·intro ht
  exfalso
  subst e1;subst e2
  rw [turn_ok ha hb hc,sign_zero] at ht
  unfold det at ht
  simp only [Int.sub_self,Int.zero_mul,Int.zero_sub] at ht
  rcases Int.mul_eq_zero.1 (Int.neg_eq_zero.1 ht) with k | k <;> omega
section
variable {x y s:Int} {m0 m1 m2 m3:Nat}
end
end Go.Proofs.Geo
namespace Go.Proofs.Geo
def ring4 (a b c d:Int):List Pt:=[(a,b),(c,b),(c,d),(a,d)]
section
variable {a b c d:Int}
theorem back4 {l:List Pt} {i:Nat} {p q r:Pt} (e1:rat l ((i:Int) - 1)=p) (e2:pt l i=q) (e3:rat l ((i:Int)+1)=r) (hp:okP p=true) (hq:okP q=true) (hr:okP r=true) (hf:Fine p q r):backB l i=false:=by
 unfold backB
 rw [e1,e2,e3]
 have hb:=fine_back hp hq hr hf
 cases h:onS q p r with
 | true=>simp
 | false=>rw [decide_eq_false (fun e=>by rw [hb e] at h;exact absurd h (by simp))];rfl
theorem box_chk (h1:a<c) (h2:b<d) (ha:okP (a,b)=true) (hc:okP (c,d)=true):chk (ring4 a b c d)=(0,0):=by
 have hb:okP (c,b)=true:=by unfold okP at *;simp only [Bool.and_eq_true] at *;exact ⟨hc.1,ha.2⟩
 have hd:okP (a,d)=true:=by unfold okP at *;simp only [Bool.and_eq_true] at *;exact ⟨ha.1,hc.2⟩
 have p0:pt (ring4 a b c d) 0=(a,b):=rfl
 have p1:pt (ring4 a b c d) 1=(c,b):=rfl
 have p2:pt (ring4 a b c d) 2=(c,d):=rfl
 have p3:pt (ring4 a b c d) 3=(a,d):=rfl
 have r0:rat (ring4 a b c d) (((0:Nat):Int) - 1)=(a,d):=rfl
 have r1:rat (ring4 a b c d) (((1:Nat):Int) - 1)=(a,b):=rfl
 have r2:rat (ring4 a b c d) (((2:Nat):Int) - 1)=(c,b):=rfl
 have r3:rat (ring4 a b c d) (((3:Nat):Int) - 1)=(c,d):=rfl
 have s0:rat (ring4 a b c d) (((0:Nat):Int)+1)=(c,b):=rfl
 have s1:rat (ring4 a b c d) (((1:Nat):Int)+1)=(c,d):=rfl
 have s2:rat (ring4 a b c d) (((2:Nat):Int)+1)=(a,d):=rfl
 have s3:rat (ring4 a b c d) (((3:Nat):Int)+1)=(a,b):=congrArg (pt (ring4 a b c d)) (show rix 4 (((3:Nat):Int)+1)=0 by decide)
 have hn:(ring4 a b c d).length=4:=rfl
 refine chk_ok (by rw [hn];omega) (by rw [hn];omega) (fun i hi=>?_) (fun i hi=>?_) (fun i hi=>?_) (fun i hi=>?_) <;> rw [hn] at hi
 ·have hi':i=0∨i=1∨i=2∨i=3:=by omega
  rcases hi' with rfl | rfl | rfl | rfl
  ·rw [p0,ha];rfl
  ·rw [p1,hb];rfl
  ·rw [p2,hc];rfl
  ·rw [p3,hd];rfl
 ·refine any_range_false fun k hk=>decide_eq_false ?_
  have hi':i=0∨i=1∨i=2∨i=3:=by omega
  have hk':k=0∨k=1∨k=2∨k=3:=by omega
  rcases hi' with rfl | rfl | rfl | rfl <;> rcases hk' with rfl | rfl | rfl | rfl <;> first | (exfalso;omega) | (simp only [p0,p1,p2,p3,ne_eq,Prod.mk.injEq];omega)
 ·have hi':i=0∨i=1∨i=2∨i=3:=by omega
  rcases hi' with rfl | rfl | rfl | rfl
  ·exact back4 r0 p0 s0 hd ha hb (.inr (.inr (.inr ⟨rfl,rfl,by simp only;omega,by simp only;omega⟩)))
  ·exact back4 r1 p1 s1 ha hb hc (.inr (.inr (.inl ⟨rfl,rfl,by simp only;omega,by simp only;omega⟩)))
  ·exact back4 r2 p2 s2 hb hc hd (.inr (.inr (.inr ⟨rfl,rfl,by simp only;omega,by simp only;omega⟩)))
  ·exact back4 r3 p3 s3 hc hd ha (.inr (.inr (.inl ⟨rfl,rfl,by simp only;omega,by simp only;omega⟩)))
 ·refine any_range_false fun k hk=>?_
  unfold hitB
  cases hsk:skipB (ring4 a b c d).length i k with
  | true=>rfl
  | false =>
   obtain ⟨j1,j2⟩:=skipB_true hsk
   rw [hn] at j2 hk
   have hik:(i=0∧k=2)∨(i=1∧k=3):=by omega
   rcases hik with ⟨rfl,rfl⟩ | ⟨rfl,rfl⟩
   ·rw [p0,p2,s0,s2]
    have hz:meets (a,b) (c,b) (c,d) (a,d)=0:=Classical.byContradiction fun e =>
     (not_Mt_of_boxes (by simp only;omega)) ((meets_ne (may_iff.2 ⟨ha,hb,by simp only [ne_eq,Prod.mk.injEq];omega⟩) (may_iff.2 ⟨hc,hd,by simp only [ne_eq,Prod.mk.injEq];omega⟩)).1 e)
    rw [hz];rfl
   ·rw [p1,p3,s1,s3]
    have hz:meets (c,b) (c,d) (a,d) (a,b)=0:=Classical.byContradiction fun e =>
     (not_Mt_of_boxes (by simp only;omega)) ((meets_ne (may_iff.2 ⟨hb,hc,by simp only [ne_eq,Prod.mk.injEq];omega⟩) (may_iff.2 ⟨hd,ha,by simp only [ne_eq,Prod.mk.injEq];omega⟩)).1 e)
    rw [hz];rfl
end
end Go.Proofs.Geo
namespace Go.Ex
open Go Go.RowKit Go.Proofs Go.Proofs.YtgliljnbajohhaaGreatDoor Go.Proofs.Geo
def lRing:List AV:=[.lx .i64 0,.lx .i64 1,.lx .i64 2,.lx .i64 1,.lx .i64 2,.lx .i64 3,.lx .i64 0,.lx .i64 3]
def oPts:AObj:=.row lRing 53 2 (.told 0)
def oRings:AObj:=.row [.sl 0 0 4 4] 71 1 (.told 1)
def stRl:List (Option AObj):=[some oPts,some oRings]
noncomputable def stR:S:=S.ofL stRl
def ringV [Val]:List Pt:=ring4 (Val.val 0) (Val.val 1) (Val.val 2) (Val.val 3)
def RgAt (w:World) (u:Value) (a b c d:Int) (b1 b2 c1 c2:Nat) (sp1 sp2:List Value):Prop:=u=.slice (some ⟨b1,0,none⟩) 1 (1+c1)∧w.heap[b1]? = some (.cells ([Value.slice (some ⟨b2,0,none⟩) 4 (4+c2)]++sp1).toArray 71 (0,0))∧sp1.length=c1 ∧
 w.heap[b2]? = some (.cells (flat (ring4 a b c d)++sp2).toArray 53 (0,0))∧sp2.length=c2 * 2
def RgO (w:World) (u:Value) (a b c d:Int):Prop:=∃ b1 b2 c1 c2 sp1 sp2,RgAt w u a b c d b1 b2 c1 c2 sp1 sp2
theorem RgAt.kept {w w':World} {u:Value} {a b c d:Int} {b1 b2 c1 c2:Nat} {sp1 sp2:List Value} (h:RgAt w u a b c d b1 b2 c1 c2 sp1 sp2) (k1:w'.heap[b1]? = w.heap[b1]?) (k2:w'.heap[b2]? = w.heap[b2]?):RgAt w' u a b c d b1 b2 c1 c2 sp1 sp2:=by
 obtain ⟨h1,h2,h3,h4,h5⟩:=h
 exact ⟨h1,k1.trans h2,h3,k2.trans h4,h5⟩
theorem RgO.kp {w w':World} {u:Value} {a b c d:Int} (h:RgO w u a b c d) (k:Kp w w'):RgO w' u a b c d:=by
 obtain ⟨b1,b2,c1,c2,sp1,sp2,h⟩:=h
 have h':=h
 obtain ⟨h1,h2,h3,h4,h5⟩:=h'
 exact ⟨b1,b2,c1,c2,sp1,sp2,h.kept (k.block b1 (Array.getElem?_eq_some_iff.1 h2).1) (k.block b2 (Array.getElem?_eq_some_iff.1 h4).1)⟩
theorem lRing_vr [Val] (ρ:Env):VRs ρ lRing (flat ringV):=.cons (.lx _ _) (.cons (.lx _ _) (.cons (.lx _ _) (.cons (.lx _ _) (.cons (.lx _ _) (.cons (.lx _ _) (.cons (.lx _ _) (.cons (.lx _ _) .nil)))))))
theorem RgAt.hr [Val] {w:World} {u:Value} {b1 b2 c1 c2:Nat} (h:RgAt w u (Val.val 0) (Val.val 1) (Val.val 2) (Val.val 3) b1 b2 c1 c2 (Val.sps 1) (Val.sps 0)) :
  HR (fun j=>[(b2,c2),(b1,c1)][j]?) stR.h.get stR.nx w∧VRs (fun j=>[(b2,c2),(b1,c1)][j]?) [.agg [.sl 1 0 1 1]] [.agg #[u]]:=by
 obtain ⟨rfl,h2,h3,h4,h5⟩:=h
 have hne:b1≠b2:=fun e=>by rw [e,h4] at h2;simp at h2
 refine ⟨HR.ofL rfl (by decide) (fun i o hi=>?_) (fun i j o o' g s s' hi hj ei ej=>?_),.cons (.agg (xs:=[_]) (.cons (.sl (s:=c1) (by rfl)) .nil)) .nil⟩
 ·rcases i with _ | _ | i
  ·cases hi;exact ⟨b2,c2,_,rfl,h4,.row (lRing_vr _) h5 (by decide) rfl⟩
  ·cases hi;exact ⟨b1,c1,_,rfl,h2,.row (.cons (.sl (by rfl)) .nil) (by omega) (by decide) rfl⟩
  ·simp [stRl] at hi
 ·rcases i with _ | _ | i <;> rcases j with _ | _ | j <;> first
   | rfl
   | (simp [stRl] at hi;done)
   | (simp [stRl] at hj;done)
   | (cases ei;cases ej;exact absurd rfl hne)
theorem wr_oneR [Val] {Pr:Nat→Prop} {w0 w:World} {ρ:Env} {h:Nat→Option AObj} {n id1 id2 c1 c2 e1 e2 s1 s2:Nat} {g1 g2:Gr} {u:Value} (W:WR Pr w0 ρ h n w) (h1:h id1=some (.row [.sl id2 0 4 c2] e1 s1 g1)) (h2:h id2=some (.row lRing e2 s2 g2))
  (hu:VR ρ (.sl id1 0 1 (c1+1)) u):OneR w u ringV:=by
 obtain ⟨b1,m1,cs1,ds1,a1,a2,a3,_⟩:=W.row h1
 obtain ⟨b2,m2,cs2,ds2,z1,z2,z3,_⟩:=W.row h2
 cases hu with
 | @sl _ _ _ _ g s he =>
  rw [a1] at he
  cases he
  cases a3 with
  | cons hx hn =>
   cases hn
   cases hx with
   | @sl _ _ _ _ g s he =>
    rw [z1] at he
    cases he
    refine ⟨b1,0,_,some ⟨b2,0,none⟩,c2+m2,rfl,by omega,cell_app a2 (by rfl),?_⟩
    have hcs:cs2=flat ringV:=by
     have hl:VRs ρ lRing (flat ringV):=lRing_vr ρ
     exact vrs_fn (by decide) z3 hl
    subst hcs
    refine ⟨by unfold ringV ring4;simp,.inr ⟨⟨b2,0,none⟩,c2+m2,rfl,fun j u hj=>?_⟩⟩
    rw [add_cell,Nat.zero_add]
    exact cell_app z2 hj
end Go.Ex
