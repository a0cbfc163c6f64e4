/- Texts that the proof needs: LawBHolds. -/
import Derived.Test.YtilodknkildkbaaGreatDoorKbA
import Derived.Test.YtilodknkildkbaaGreatDoorKbB
import Derived.Test.YtilodknkildkbaaGreatDoorKbC
import Derived.Test.YtilodknkildkbaaGreatDoorKbD
import Derived.Test.YtilodknkildkbaaGreatDoorKbE
import Derived.Test.YtilodknkildkbaaGreatDoorKbF
import Derived.Test.YtilodknkildkbaaGreatDoorKbG
import Derived.Test.YtilodknkildkbaaGreatDoorKbH
import Derived.Test.YtilodknkildkbaaGreatDoorKbI
import Derived.Test.YtilodknkildkbaaGreatDoorKbJ
import Derived.Test.YtilodknkildkbaaGreatDoorKbK
import Derived.Test.YtilodknkildkbaaGreatDoorKbR
import Derived.Test.YtilodknkildkbaaGreatDoorKbS
namespace Go.Proofs.YtilodknkildkbaaGreatDoor
open Go.RowKit Go.Shelf
namespace Bd
open Nt Ci Sh
theorem La (s:SR) (Ap Ac Av Af:Option Addr) (cp cc cv cf:Nat) (F:List Int) (kq:Bool) (Aq Dq:Option Addr) (mq oq:Nat) (Vq:List Raw) (Rq:List Int) (w:World) (hE:Env w) (hs:StIn w s Ap Ac Av) (hF:InInt w Af F) (hFl:F.length≤140737488355328) (hCq:CIn w Aq Dq Vq Rq) :
 Calls Tryz.prog 4 #[.agg #[.slice Ap s.ps.length cp,.slice Ac s.cap.length cc,.slice Av s.vot.length cv],.slice Af F.length cf,.agg #[.bool kq,.slice Aq Vq.length mq,.slice Dq Rq.length oq]] w fun e w'=>e=.returned (.bool true)∧Below w.heap.size w w':=by
 cases kq
 · exact JP s Ap Ac Av Af cp cc cv cf F Aq Dq mq oq Vq Rq w hE hs hF hFl hCq
 · exact JO s Ap Ac Av Af cp cc cv cf F Aq Dq mq oq Vq Rq w hE hs hF hFl hCq
end Bd
end Go.Proofs.YtilodknkildkbaaGreatDoor
