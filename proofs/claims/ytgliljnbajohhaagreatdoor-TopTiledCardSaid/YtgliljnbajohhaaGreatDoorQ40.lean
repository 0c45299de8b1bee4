import Derived.Test.YtgliljnbajohhaaGreatDoorQ39
set_option linter.unusedVariables false
set_option linter.unusedSimpArgs false
namespace Go.Ex
open Go Go.RowKit Go.Proofs Go.Proofs.YtgliljnbajohhaaGreatDoor
set_option maxRecDepth 100000
theorem awake_run:ends (run tbA 3000 4 [] ⟨.e,0⟩) (.b true) (fun _=>true)=true:=by kernel_rfl
theorem awake_any (w:World):Calls Tryz.prog 4 #[] w fun e w'=>e=.returned (.bool true)∧Kp w w':=by
 letI:=v0
 obtain ⟨st1,h1,_⟩:=ends_ok awake_run
 refine (run_closed (tbOk orcA (let0 _)) (xok (cmp:=fun _ _=>none) (ari:=fun _ _ _ _=>none) fun _ _ _ _ _ h=>orcA_ok h) (fun _=>trivial) h1 Tryz.func4 (by kernel_rfl) rfl w).mono ?_
 rintro e w' ⟨v,ρ',rfl,hv,hk⟩
 cases hv
 exact ⟨rfl,hk⟩
end Go.Ex
