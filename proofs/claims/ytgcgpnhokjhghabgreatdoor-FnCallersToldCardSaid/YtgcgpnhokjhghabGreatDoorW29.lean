import Derived.Test.YtgcgpnhokjhghabGreatDoorW1
import Derived.Test.YtgcgpnhokjhghabGreatDoorW2
import Derived.Test.YtgcgpnhokjhghabGreatDoorW23
import Derived.Test.YtgcgpnhokjhghabGreatDoorW24
import Derived.Test.YtgcgpnhokjhghabGreatDoorW25
import Derived.Test.YtgcgpnhokjhghabGreatDoorW27
import Derived.Test.YtgcgpnhokjhghabGreatDoorW28
import Derived.Test.YtgcgpnhokjhghabGreatDoorW3
import Derived.Test.YtgcgpnhokjhghabGreatDoorW9
set_option linter.unusedVariables false
set_option linter.unusedSimpArgs false
set_option linter.unusedVariables false
set_option linter.unusedSimpArgs false
set_option maxHeartbeats 8000000
set_option maxRecDepth 100000
namespace Go.Proofs.T
open Go.OM
section
attribute [local irreducible] Hg O St.wps aO iB Lv Ct Lp VL Option.bind aP sAt eK bN bO mkI eS fO bF aI ite Dr
instance e3_:Ent E 3:=aY Tryz.func3
instance c3_ (a0:List Int) {r0:Bool}:Con E 3 (iD a0=some r0) [.val (.sl false 1 (List.map (vk .u8) a0))] [vb r0] []:=by
 refine eZ Tryz.func3 fun C q=>?_;unfold iD;repeat' first | refine And.intro ?_ ?_ | refine Prod.forall.2 ?_ | (intro _;try dsimp only) | refine eY ?_ | exact Z | refine cG 8001 [2] [] (fun v=>[(2,.t (vb v))]) (fun _=>[]) ?_ | refine S ?_
theorem wG (a0:List Int) {r0:Bool} (h:iD a0=some r0):Ok E 3 [.val (.sl false 1 (List.map (vk .u8) a0))] [vb r0] []:=Con.ok h
end
end Go.Proofs.T
