/- Texts laid together: EffP EffQ Eff SumP Sum Bnd. -/
import Derived.Test.YtpcajamacpbjcaaGreatZKPlain
set_option maxHeartbeats 16000000
set_option linter.all false
namespace Go.Proofs.YtpcajamacpbjcaaGreat
def dy (ad:List Int) (x:Int):Nat->Bool
 | 0=>false
 | i+1=>dy ad x i||((ad[i]?.getD 0)/8==x/8)
def cJ (ad:List Int) (x:Int):Nat->Bool
 | 0=>false
 | i+1=>cJ ad x i||((ad[i]?.getD 0)==x)
def okPre (ad:List Int):Nat->Bool
 | 0=>true
 | k+1=>okPre ad k&&(decide (0<=ad[k]?.getD 0)&&decide (ad[k]?.getD 0<2048) && !cJ ad (ad[k]?.getD 0) k)
def yA (ad:List Int):Nat->Nat
 | 0=>0
 | k+1=>yA ad k+if dy ad (ad[k]?.getD 0) k then 0 else 1
def Gz (ad:List Int):Int:=if ad.length=0 then 0 else 3*ad.length+2
def D5 (ad:List Int):Int:=if ad.length=0 then 0 else (2*ad.length+7)/8+yA ad ad.length+2
def FE (ad:List Int):Int:=if ad.length=0 then 0 else 4
def Ci (ad:List Int):Int:=if 32<ad.length then 4 else if okPre ad ad.length then 0 else 2
def ofS (ad:List Int):Int:=if Ci ad=0 then Gz ad else 0
def ofF (ad:List Int):Int:=if Ci ad=0 then D5 ad else 0
def ofN (ad:List Int):Int:=if Ci ad=0 then FE ad else 0
open Go.RowKit
structure OfRel (H:Nat) (ad:List Int) (k:Nat) (w wr:World):Prop where
 below:Below H w wr
 res:wr.rowIs H 61 3 (λ_=>.int .i64 0)
 words:wr.rowIs (H+1) 155 2048 (λi=>.bool (cJ ad (i:Int) k))
 lines:wr.rowIs (H+1+1) 156 256 (λi=>.bool (dy ad (8*(i:Int)) k))
 sev:wr.rowIs (H+1+1+1) 3 1 (λ_=>.int .i64 (yA ad k:Nat))
def EY:List (List Int)->Int
 | []=>0
 | c::cs=>if Ci c=0 then EY cs else Ci c
def tot (f:List Int->Int):List (List Int)->Int
 | []=>0
 | c::cs=>f c+tot f cs
structure SumRel (H:Nat) (L:List (List Int)) (k:Nat) (w wr:World):Prop where
 below:Below H w wr
 err:EY (L.take k)=0
 res:Bx wr H 61 #[.int .i64 0,.int .i64 0,.int .i64 0]
 out:Bx wr (H+1) 61 #[.int .i64 (tot ofS (L.take k)),.int .i64 (tot ofF (L.take k)),.int .i64 (tot ofN (L.take k))]
end Go.Proofs.YtpcajamacpbjcaaGreat
