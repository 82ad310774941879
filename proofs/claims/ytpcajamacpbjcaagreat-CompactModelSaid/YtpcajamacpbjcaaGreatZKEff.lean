/- Texts laid together: EffP EffQ Eff SumP Sum Bnd. -/
import Derived.Test.YtpcajamacpbjcaaGreatZKPlain
set_option maxHeartbeats 16000000
set_option linter.all false
namespace Go.Proofs.YtpcajamacpbjcaaGreat
def py (ad:List Int) (x:Int):Nat->Bool
 | 0=>false
 | i+1=>py ad x i||((ad[i]?.getD 0)/8==x/8)
def fQ (ad:List Int) (x:Int):Nat->Bool
 | 0=>false
 | i+1=>fQ ad x i||((ad[i]?.getD 0)==x)
def okPre (ad:List Int):Nat->Bool
 | 0=>true
 | k+1=>okPre ad k&&(decide (0<=ad[k]?.getD 0)&&decide (ad[k]?.getD 0<2048) && !fQ ad (ad[k]?.getD 0) k)
def AA (ad:List Int):Nat->Nat
 | 0=>0
 | k+1=>AA ad k+if py ad (ad[k]?.getD 0) k then 0 else 1
def H4 (ad:List Int):Int:=if ad.length=0 then 0 else 3*ad.length+2
def Et (ad:List Int):Int:=if ad.length=0 then 0 else (2*ad.length+7)/8+AA ad ad.length+2
def GP (ad:List Int):Int:=if ad.length=0 then 0 else 4
def AF (ad:List Int):Int:=if 32<ad.length then 4 else if okPre ad ad.length then 0 else 2
def ofS (ad:List Int):Int:=if AF ad=0 then H4 ad else 0
def ofF (ad:List Int):Int:=if AF ad=0 then Et ad else 0
def ofN (ad:List Int):Int:=if AF ad=0 then GP ad else 0
open Go.RowKit
structure OfRel (H:Nat) (ad:List Int) (k:Nat) (w wr:World):Prop where
 below:Below H w wr
 res:wr.rowIs H 61 3 (λ_=>.int .i64 0)
 words:wr.rowIs (H+1) 155 2048 (λi=>.bool (fQ ad (i:Int) k))
 lines:wr.rowIs (H+1+1) 156 256 (λi=>.bool (py ad (8*(i:Int)) k))
 sev:wr.rowIs (H+1+1+1) 3 1 (λ_=>.int .i64 (AA ad k:Nat))
def Fb:List (List Int)->Int
 | []=>0
 | c::cs=>if AF c=0 then Fb cs else AF c
def tot (f:List Int->Int):List (List Int)->Int
 | []=>0
 | c::cs=>f c+tot f cs
structure SumRel (H:Nat) (L:List (List Int)) (k:Nat) (w wr:World):Prop where
 below:Below H w wr
 err:Fb (L.take k)=0
 res:Bx wr H 61 #[.int .i64 0,.int .i64 0,.int .i64 0]
 out:Bx wr (H+1) 61 #[.int .i64 (tot ofS (L.take k)),.int .i64 (tot ofF (L.take k)),.int .i64 (tot ofN (L.take k))]
end Go.Proofs.YtpcajamacpbjcaaGreat
