/- CompactDevice: the plain half. -/
import Derived.Test.YtpcajamacpbjcaaGreatZGE
import Derived.Test.YtpcajamacpbjcaaGreatZEfL
import Derived.Test.YtpcajamacpbjcaaGreatZKCo
set_option maxHeartbeats 16000000
set_option linter.all false
namespace Go.Proofs.YtpcajamacpbjcaaGreat
open Go.RowKit
variable {ws:List Nat}{t:Nat}
theorem Dz:∀ {L:List (List En)} {n:Nat},n<=2048->(∀E∈L,Small n E)->dp (L.map au)=0/\(yR L:Int)=tot ofS (L.map au)+tot ofF (L.map au)+tot ofN (L.map au):=by
 intro L
 induction L with
 | nil=>intro n _ _;exact⟨rfl,rfl⟩
 | cons E L ih =>
  intro n c h;have a:=h E (by simp);obtain⟨d,i2⟩:=ih c λF i=>h F (by simp[i]);obtain⟨b,-⟩:=rv a c;have h3:=at_ops a.ne a.le (λe f=>by have:=a.ins e f;omega) b;simp only[kxj,dp,tot];refine⟨by rw[if_pos b];exact d,?_⟩;have g:yR (E::L)=Fs (atL E)+yR L:=by simp[yR]
  rw[g];omega
structure DeF (ws:List Nat) (s f k:Int):Prop where
 eff:ud ws=.tuple #[gy s f k,.int .i64 0]
 sum:(yR (coL ws):Int)=s+f+k
 pos:0<=s/\0<=f/\0<=k
 le:s<=20*((ws.length:Int)-128)+205/\f<=20*((ws.length:Int)-128)+204/\k<=20*((ws.length:Int)-128)+204
theorem deF(h:Lay ws t)(ho:∀v∈ws,v<18446744073709551616):∃s f k,DeF ws s f k:=by
 have o:=li h;have hb:=(aa _).1 h.size;have c:=h.all ho;have a:coL ws=[⟨16,1⟩]::(rsE (gA ws)).2.1:=by unfold coL;rw[if_pos o]
 have l:=jS (oI ho) c;have j:∀E∈coL ws,Small ws.length E:=by
  intro E d;rw[a] at d;rcases kqx.1 d with rfl|d
  .refine ⟨by decide,by decide,by simp,λe b=>?_,λe b=>?_⟩
   .rw[kq1] at b;subst b;dsimp only;omega
   rw[kq1] at b;subst b;decide
  obtain⟨i,w,rfl⟩:=kqz d;have:=l.2.2.2.2.2 i w;rw[gR] at this;exact this
 obtain⟨r,A⟩:=Dz (by omega) j;obtain⟨-,-,y,x,q⟩:=zV (oI ho) c;rw[gR] at y x q;have m:∀g:List Int->Int,tot g ((coL ws).map au)=g [16]+tot g ((rsE (gA ws)).2.1.map au):=λg=>by rw[a];rfl
 have n:ofS [16]=5/\ofF [16]=4/\ofN [16]=4:=by decide
 have p:=oP ofS 98 BI ((coL ws).map au);have z:=oP ofF 98 Ae ((coL ws).map au);have u:=oP ofN 98 zc ((coL ws).map au);refine⟨tot ofS ((coL ws).map au),tot ofF ((coL ws).map au),tot ofN ((coL ws).map au),?_,A,⟨p.1,z.1,u.1⟩,?_⟩
 .unfold ud;rw[if_pos o];exact sL r
 rw[m,m,m,n.1,n.2.1,n.2.2];omega
theorem mn(h:Lay ws t)(ho:∀v∈ws,v<18446744073709551616){left:Int}(hl:left = -1\/left=(yR (coL ws):Int))(hle:left<=1000000){x:Dv}{f:Int}(e:coR ⟨ws,[],left,false⟩=(x,f)):
 f=0/\x.dw=[]/\x.im.length=ws.length/\(left ≠ -1->x.left=0/\x.down=false)/\(∀j,j<32\/96<=j->wd x.im j=wd (cpZ ws) j):=by
 have m:=run_of h ho (by omega) hle;rw[e] at m;obtain⟨p,n,i,c,k⟩:=m;dsimp only at p n i c k;have l:x.down=false:=by
  rcases hl with rfl|rfl
  .exact (c.free rfl).2
  exact (c.few (by dsimp only;omega) (kks _)).2
 rcases k with⟨o,-,r,q,g⟩|⟨-,a,-⟩
 .refine ⟨o,r.dw,i,λs=>?_,λj d=>?_⟩
  .rcases hl with rfl|rfl
   .exact absurd rfl s
   have:=(c.few (by dsimp only;omega) (kks _)).1;dsimp only at this;exact⟨by omega,l⟩
  by_cases b:j=24
  .subst b;rw[g,(h.desc ho).1.low 24 (.inr ⟨by decide,by decide⟩),h.z16 24 (by decide) (by decide)]
  exact q.2 j b d
 rw[l] at a;cases a
end Go.Proofs.YtpcajamacpbjcaaGreat
