/- Walks: K12. -/
import Derived.Test.YtejnmechnhgmfaaZpTn
import Derived.Test.YtejnmechnhgmfaaZpNK6
import Derived.Test.YtejnmechnhgmfaaZpNK5
import Derived.Test.YtejnmechnhgmfaaZpF13
import Derived.Test.YtejnmechnhgmfaaZpM8
set_option linter.unusedSimpArgs false
set_option linter.unusedVariables false
set_option maxRecDepth 100000
attribute [local irreducible] Go.Proofs.Ytejnmechnhgmfaa.gv
namespace Go.Proofs.Ytejnmechnhgmfaa
open Go.RowKit

set_option maxHeartbeats 1000000 in
theorem c_spec_l08New (r : M.Rul) {v_r : Value} (p : M.Pos) {v_p : Value} {w : World} (h_r : (Ty.ref (cRules r)).ok w v_r) (h_p : (Ty.ref (cPosition p)).ok w v_p) (r0 : p.pits.length ≤ 4194304 := by exact om_) (r1 : p.stores.length ≤ 4194304 := by exact om_) : Ret Try.prog 91 [v_r, v_p] w (Ty.agg (cGame (M.Gam.mk r p [] p (-1)))) := by
 revert v_r; apply opn
 intro b1 o1 hr1
 revert v_p; apply opn
 intro b4 o4 A2 c2 h2 bl2 bh2 A3 c3 h3 bl3 bh3 hr4
 refine enter @Try.func91 @Try.ntmps91 rfl rfl ?_
 refine zent ?_
 refine zS <| za zeh fun b5 => zJ ?_
 refine zdr [8] ?_
 refine JH.p 0 rfl (p_move rfl) ?_
 refine JH.p 1 rfl (p_nilCheck rfl) ?_
 refine JH.w 2 rfl (fun os' u' hv => LS 0 (hr1.vis hv) rfl) ?_
 refine JH.p 3 rfl (p_move rfl) ?_
 refine JH.p 5 rfl (p_move rfl) ?_
 refine y1 4 ?_
 refine yc rfl rfl (fun w hw => c_spec_l04Own p (ok_ hw)) ?_
 intro A7 c7 bl7 bh7 A8 c8 bl8 bh8
 refine y1 6 ?_
 refine yc rfl rfl (fun w hw => c_spec_l04Own p (ok_ hw)) ?_
 intro A10 c10 bl10 bh10 A11 c11 bl11 bh11
 refine JH.p 7 rfl (q_bld) ?_
 refine y1 8 ?_
 refine yst rfl rfl rfl ?_
 refine yd ?_
 exact zro (Up.refl _ _)

end Go.Proofs.Ytejnmechnhgmfaa
