/- Texts that the proof needs: LawBJoins. -/
import Derived.Test.YtmfjbpcecpgchaaGreatDoorKeI
import Derived.Test.YtmfjbpcecpgchaaGreatDoorKeJ
import Derived.Test.YtmfjbpcecpgchaaGreatDoorKeK
namespace Go.Proofs.YtmfjbpcecpgchaaGreatDoor
open Go.RowKit Go.Shelf
namespace Bd
open Nt Ci Sh
theorem LQ(s:SR)(Ap Ac Av Af:Option Addr)(cp cc cv cf:Nat)(F:List Int)(ka:Bool)(Aa Da:Option Addr)(ma oa:Nat)(Va:List Raw)(Ra:List Int)(kb:Bool)(Ab Db:Option Addr)(mb ob:Nat)(Vb:List Raw)(Rb:List Int)(w:World)(hE:Env w)(hs:StIn w s Ap Ac Av)(hF:InInt w Af F)(h:F.length<=140737488355328)(a:CIn w Aa Da Va Ra)(d:CIn w Ab Db Vb Rb):
 Calls Tryz.prog 3 #[.agg #[.slice Ap s.ps.length cp,.slice Ac s.cap.length cc,.slice Av s.vot.length cv],.slice Af F.length cf,.agg #[.bool ka,.slice Aa Va.length ma,.slice Da Ra.length oa],.agg #[.bool kb,.slice Ab Vb.length mb,.slice Db Rb.length ob]] w fun e w'=>e=.returned (.bool true)/\Below w.heap.size w w':=by
 cases ka<;>cases kb
 .exact K7 s Ap Ac Av Af cp cc cv cf F Aa Da ma oa Va Ra Ab Db mb ob Vb Rb w hE hs hF h a d
 .exact K9 s Ap Ac Av Af cp cc cv cf F Aa Da ma oa Va Ra Ab Db mb ob Vb Rb w hE hs hF h a d
 .exact K8 s Ap Ac Av Af cp cc cv cf F Aa Da ma oa Va Ra Ab Db mb ob Vb Rb w hE hs hF h a d
 exact K4 s Ap Ac Av Af cp cc cv cf F Aa Da ma oa Va Ra Ab Db mb ob Vb Rb w hE hs hF h a d
end Bd
end Go.Proofs.YtmfjbpcecpgchaaGreatDoor
