/- CompactDevice: the plain half. -/
import Derived.Test.YtpcajamacpbjcaaGreatZGE
import Derived.Test.YtpcajamacpbjcaaGreatZEfL
import Derived.Test.YtpcajamacpbjcaaGreatZKCo
set_option maxHeartbeats 16000000
set_option linter.all false
namespace Go.Proofs.YtpcajamacpbjcaaGreat
open Go.RowKit
theorem Fx:∀ {L:List (List En)} {n:Nat},n<=2048->(∀E∈L,Small n E)->dB (L.map av)=0/\(zE L:Int)=tot ofS (L.map av)+tot ofF (L.map av)+tot ofN (L.map av):=by
 intro L
 induction L with
 | nil=>intro n _ _;exact⟨rfl,rfl⟩
 | cons E L ih =>
  intro n b h;have a:=h E (by simp);obtain⟨i,i2⟩:=ih b λF g=>h F (by simp[g]);obtain⟨c,-⟩:=Dh a b;have h3:=at_ops a.ne a.le (λe f=>by have:=a.ins e f;omega) c;simp only[kxm,dB,tot];refine⟨by rw[if_pos c];exact i,?_⟩;have d:zE (E::L)=FE (atL E)+zE L:=by simp[zE]
  rw[d];omega
structure DeF (ws:List Nat) (s f k:Int):Prop where
 eff:sA ws=.tuple #[ke s f k,.int .i64 0]
 sum:(zE (coL ws):Int)=s+f+k
 pos:0<=s/\0<=f/\0<=k
 le:s<=20*((ws.length:Int)-128)+205/\f<=20*((ws.length:Int)-128)+204/\k<=20*((ws.length:Int)-128)+204
end Go.Proofs.YtpcajamacpbjcaaGreat
