/- Texts that the proof needs: LawBScales. -/
import Derived.Test.YtilodknkildkbaaGreatDoorKdL
import Derived.Test.YtilodknkildkbaaGreatDoorKdM
namespace Go.Proofs.YtilodknkildkbaaGreatDoor
open Go.RowKit Go.Shelf
namespace Bd
open Nt Ci Sh
theorem Kr (s:SR) (Ap Ac Av Af:Option Addr) (cp cc cv cf:Nat) (F:List Int) (kq:Bool) (Aq Dq:Option Addr) (mq oq:Nat) (Vq:List Raw) (Rq:List Int) (w:World) (hE:Env w) (hs:StIn w s Ap Ac Av) (hF:InInt w Af F) (d:F.length<=140737488355328) (a:CIn w Aq Dq Vq Rq) :
 Calls Tryz.prog 8 #[.agg #[.slice Ap s.ps.length cp,.slice Ac s.cap.length cc,.slice Av s.vot.length cv],.slice Af F.length cf,.agg #[.bool kq,.slice Aq Vq.length mq,.slice Dq Rq.length oq]] w fun e w'=>e=.returned (.bool true)/\Below w.heap.size w w':=by
 cases kq
 · exact IF s Ap Ac Av Af cp cc cv cf F Aq Dq mq oq Vq Rq w hE hs hF d a
 · exact IE s Ap Ac Av Af cp cc cv cf F Aq Dq mq oq Vq Rq w hE hs hF d a
end Bd
end Go.Proofs.YtilodknkildkbaaGreatDoor
