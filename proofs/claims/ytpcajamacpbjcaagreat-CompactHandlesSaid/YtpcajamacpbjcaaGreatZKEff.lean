/- Texts laid together: EffP EffQ Eff SumP Sum Bnd. -/
import Derived.Test.YtpcajamacpbjcaaGreatZKPlain
namespace Go.Proofs.YtpcajamacpbjcaaGreat
def zqc (ad:List Int) (x:Int):Nat→Bool
 | 0=>false
 | i+1=>zqc ad x i || ((ad[i]?.getD 0) / 8 == x / 8)
def zgc (ad:List Int) (x:Int):Nat→Bool
 | 0=>false
 | i+1=>zgc ad x i || ((ad[i]?.getD 0) == x)
def okPre (ad:List Int):Nat→Bool
 | 0=>true
 | k+1=>okPre ad k && (decide (0≤ad[k]?.getD 0) && decide (ad[k]?.getD 0<2048) && !zgc ad (ad[k]?.getD 0) k)
def zAk (ad:List Int):Nat→Nat
 | 0=>0
 | k+1=>zAk ad k+if zqc ad (ad[k]?.getD 0) k then 0 else 1
def zJr (ad:List Int):Int:=if ad.length=0 then 0 else 3 * ad.length+2
def zFm (ad:List Int):Int:=if ad.length=0 then 0 else (2 * ad.length+7) / 8+zAk ad ad.length+2
def zJb (ad:List Int):Int:=if ad.length=0 then 0 else 4
def zzi (ad:List Int):Int:=if 32<ad.length then 4 else if okPre ad ad.length then 0 else 2
def ofS (ad:List Int):Int:=if zzi ad=0 then zJr ad else 0
def ofF (ad:List Int):Int:=if zzi ad=0 then zFm ad else 0
def ofN (ad:List Int):Int:=if zzi ad=0 then zJb ad else 0
end Go.Proofs.YtpcajamacpbjcaaGreat
namespace Go.Proofs.YtpcajamacpbjcaaGreat
open Go.RowKit
end Go.Proofs.YtpcajamacpbjcaaGreat
namespace Go.Proofs.YtpcajamacpbjcaaGreat
open Go.RowKit
structure OfRel (H:Nat) (ad:List Int) (k:Nat) (w wr:World):Prop where
 below:Below H w wr
 res:wr.rowIs H 61 3 (fun _=>.int .i64 0)
 words:wr.rowIs (H+1) 155 2048 (fun i=>.bool (zgc ad (i:Int) k))
 lines:wr.rowIs (H+1+1) 156 256 (fun i=>.bool (zqc ad (8 * (i:Int)) k))
 sev:wr.rowIs (H+1+1+1) 3 1 (fun _=>.int .i64 (zAk ad k:Nat))
end Go.Proofs.YtpcajamacpbjcaaGreat
namespace Go.Proofs.YtpcajamacpbjcaaGreat
def zH2:List (List Int)→Int
 | []=>0
 | c :: cs=>if zzi c=0 then zH2 cs else zzi c
def tot (f:List Int→Int):List (List Int)→Int
 | []=>0
 | c :: cs=>f c+tot f cs
end Go.Proofs.YtpcajamacpbjcaaGreat
namespace Go.Proofs.YtpcajamacpbjcaaGreat
open Go.RowKit
structure SumRel (H:Nat) (L:List (List Int)) (k:Nat) (w wr:World):Prop where
 below:Below H w wr
 err:zH2 (L.take k)=0
 res:Bx wr H 61 #[.int .i64 0,.int .i64 0,.int .i64 0]
 out:Bx wr (H+1) 61 #[.int .i64 (tot ofS (L.take k)),.int .i64 (tot ofF (L.take k)),.int .i64 (tot ofN (L.take k))]
end Go.Proofs.YtpcajamacpbjcaaGreat
namespace Go.Proofs.YtpcajamacpbjcaaGreat
open Go.RowKit
end Go.Proofs.YtpcajamacpbjcaaGreat
