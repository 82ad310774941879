/- An image after replaying: what the program returns. -/
import Derived.Test.YtpcajamacpbjcaaGreatZCmR
import Derived.Test.YtpcajamacpbjcaaGreatZEnA
import Derived.Test.YtpcajamacpbjcaaGreatZKCo
set_option maxHeartbeats 16000000
set_option maxRecDepth 100000
set_option linter.all false
namespace Go.Proofs.YtpcajamacpbjcaaGreat
open Lib (hid)
open Go.RowKit
open Go.Proofs.Tryz
theorem AA(A:Option Addr)(ws:List Nat)(E:List En)(c n:Nat)(w:World)(hn:ws.length=n)(hs:ak (n:Int)=true)(hc:n<=c)(hC:Cmt ws E)(hr:RdW w w.heap.size A ws)(ho:∀x∈ws,x<18446744073709551616):
 Calls prog 60 #[.slice A n c] w λe w'=>Cn w (rJ ws E) e w':=by
 obtain⟨b1,b2,-⟩:=(ab _).1 hs;have HR:=hid hr;have R:=hid (λW (h:RdW W W.heap.size A ws)=>FR A ws E c n W hn hs hc hC h ho);have M:E.length<=32/\dL (av E) (n:Int)=0/\(∀e∈E,e.ok)/\∀e∈E,0<=e.a/\e.a<(n:Int):=by
  rcases hC with⟨rfl,-⟩|⟨h,-⟩
  .exact ⟨by simp,oy hs (by simp[av]) rfl,λe he=>absurd he (by simp),λe he=>absurd he (by simp)⟩
  rw[hn] at h;exact⟨h.le,h.ent hs,h.eok (by omega),h.in_⟩
 have s:=hid (λB d W (h:RdW W W.heap.size A ws) (h2:RdE W W.heap.size B E)=>DM A B ws E c d n E.length W hn rfl hs M.1 M.2.1 M.2.2.1 M.2.2.2 h h2);have r:(ai ws E).length=n:=by rw[au,hn]
 unfold fL at R;unfold Cn at s;rw[r] at s;have HPL:=hid r;have T:=hid (show (rJ ws E).length=n by rw[rH,hn]);obtain⟨S,V⟩:=xq ((ai ws E).flatMap ae);have C:S.length=n:=by rw[<-V,ki,r]
 have Le:Hid (∀u∈S,u.oneCell'=true):=hid (by rw[<-V];exact dy qs _);have Ll:Hid (S.set 24 (.int .u64 0)=(rJ ws E).flatMap ae):=hid (by rw[<-V];unfold rJ;rw[gC];rfl);rw[V] at s;have h24n:(24:Int)<(n:Int):=by omega
 have N:24<S.length:=by omega
 obtain⟨s24,t⟩:∃v,S[24]? = some v:=⟨_,kql N⟩;have Kz:=hid t;have i:=hid C;have Z:(prog.info? 53).map (·.size)=some 1:=by kernel_rfl
 have Ld:=hid Z;clear hr ho M hC hs hn hc r V C N t Z;go_enter func60,ntmps60;go_wp2_with fail;refine (R.out _ HR.out).mono ?_;rintro e w1 ⟨⟨A1,c1,rfl,o⟩,q⟩;have X:=hid q;have Lc:=hid (show RdE w1 w1.heap.size A1 E from Rd.of_own o);have Lg:=hid (HR.out.up q q.size);clear o q;go_wp2_with fail;refine (s.out _ _ _ Lg.out Lc.out).mono ?_;rintro e f ⟨g,c2,rfl,m,F⟩;have y:=hid (X.out.trans (F.mono X.out.size));have Kw:Rd f f.heap.size (some ⟨g,0,none⟩) S:=Rd.of_own m;obtain⟨gg,o0,ge,Lj,I⟩:=Kw (λh=>by have:=i.out;rw[h] at this;simp at this;omega);cases ge;have Lf:Hid (∀W,Below f.heap.size f W->∀j v,S[j]? = some v->W.cell? ((⟨g,0,none⟩:Addr).add j)=some v):=hid λW hb j v hv=>by
  obtain⟨hj,rfl⟩:=kza.1 hv;rw[gX];exact (hb.cell (p:=⟨g,0+j,none⟩) Lj).trans (I j hj)
 obtain⟨i0,hi,D,La,Q⟩:=kzr lq;obtain⟨W0,hmk,l,H⟩:=run_make_full (P:=prog) f f.heap.size 22 53 i0 (.int .u64 0) 1 underlying22 hi D La .i64 .i64 n (by rw[Q];omega) (by unfold maxLen;omega) (kqa _);have J:=(kqk f.heap.size f).grown H (kqa _) (λk hk=>by cases hk);obtain⟨O,Y,Eq,Lb,Kx,G,Li⟩:=n9 l;have Lk:=hid Y;have Ky:=hid G;have L:=hid J;have Lh:=hid Kx;clear m F Kw I hi D La Q l H J Y G Li Lb Kx;go_wp2_with ((with_reducible refine rf ?_);refine wpList_copy_splice rfl _ _ 22 22 rfl 53 underlying22 Ld.out _ _ _ _ _ _ rfl rfl f.heap.size 0 O 53 Lk.out S (by rw[i.out];exact (Nat.min_self _).symm) (λ_=>⟨rfl,_,rfl,Lf.out _ L.out⟩) (by rw[i.out,Ky.out];omega) Le.out f.heap.size f L.out Eq ?_;intro w3 z U;have Lm:=hid U;clear U;rw[show splice O 0 S=S from by unfold splice;rw[List.take_zero,kz2,i.out,kjg (by rw[Ky.out];omega),kzt]] at z;have b:w3.ownsRow f.heap.size 53 1 (.slice (some ⟨f.heap.size,0,none⟩) n n) n S:=⟨by rw[i.out,kxq],.inr ⟨f.heap.size,n,_,rfl,Eq,z,kqa _,Lh.out,by rw[kjx,i.out,kxq],by rw[kxq];exact kq8 (by rw[i.out];exact kqa _)⟩⟩;have c0:=(b.cellAt 24 (by omega)).trans Kz.out;have f0:=b.frozenAt 24;have K:=hid b;clear z b);go_ret2;have h9:=(K.out.stored 24 (.int .u64 0)).1;rw[Ll.out] at h9;refine⟨f.heap.size,n,by rw[T.out];rfl,by rw[T.out];exact am h9 y.out.size,y.out.trans ((Lm.out.setCell (p:=⟨f.heap.size,24,none⟩) (kqa _) _).mono y.out.size)⟩
end Go.Proofs.YtpcajamacpbjcaaGreat
