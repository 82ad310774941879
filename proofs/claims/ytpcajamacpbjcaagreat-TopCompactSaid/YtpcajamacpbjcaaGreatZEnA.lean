/- An image with the words of entries: what the program returns, for a right change. -/
import Derived.Test.YtpcajamacpbjcaaGreatZGA
import Derived.Test.YtpcajamacpbjcaaGreatZKStg1
set_option maxHeartbeats 16000000
set_option maxRecDepth 100000
set_option linter.all false
namespace Go.Proofs.YtpcajamacpbjcaaGreat
open Lib (hid)
open Go.RowKit
open Go.Proofs.Tryz
theorem DM(A B:Option Addr)(ws:List Nat)(E:List En)(c d n m:Nat)(w:World)(hn:ws.length=n)(hm:E.length=m)(hs:ak (n:Int)=true)(hm2:m<=32)(hen:dL (av E) (n:Int)=0)(hok:∀e∈E,e.ok)(hE:∀e∈E,0<=e.a/\e.a<(n:Int))(hr:RdW w w.heap.size A ws)(he:RdE w w.heap.size B E):
 Calls prog 108 #[.slice A n c,.slice B m d] w λe w'=>Cn w (ai ws E) e w':=by
 subst hm;obtain⟨b1,b2,-⟩:=(ab _).1 hs;have HI:=hid (aV hs);have y:=hid (mq B E d E.length n w rfl (by omega) he hok);rw[hen] at y;have HR:=hid hr;have HE:=hid he;have HN:=hid hn;have D:Hid (∀k,(ai ws (E.take k)).length=n):=hid λk=>by rw[au,hn]
 have U:Hid (∀k (h:k<E.length),0<=E[k].a/\E[k].a<(n:Int)):=hid λk h=>hE _ (kqn h);have M:Hid (∀k (h:k<E.length),ai ws (E.take (k+1))=(ai ws (E.take k)).set E[k].a.toNat E[k].v):=hid λk h=>by rw[oP h,hn,if_pos (hE _ (kqn h))]
 have r:=hid (λW (h:RdW W W.heap.size A ws)=>mC A ws c n W.heap.size W hn (by omega) (by omega) h (kqa _));unfold CM at r;rw[hn] at r;clear hr he hn hE hs hen hok;go_enter func108,ntmps108;go_wp2_with fail;refine (aB A n c w (by omega)).mono ?_;rintro e w1 ⟨rfl,rfl⟩;rw[HI.out];go_wp2_with fail;refine y.out.mono ?_;rintro e O ⟨rfl,j⟩;have R:=hid j;have K:=hid (HR.out.up j j.size);have I:=hid (HE.out.up j j.size);have s:=j.size;clear j;go_wp2_with fail;refine (r.out _ K.out).mono ?_;rintro e w2 ⟨g,c1,rfl,f,t⟩;have C:=hid f;have P:=hid t;clear f t;go_wp2_with fail;go_loopw [27] (λi wr=>∃k:Nat,k<=E.length/\i=.int .i64 k/\wr.ownsRow O.heap.size 53 1 (.slice (some ⟨g,0,none⟩) n c1) n ((ai ws (E.take k)).flatMap ae)/\Below O.heap.size O wr) (λi _=>E.length-(intOf i).toNat)
 case atStart=>exact⟨0,kqz _,rfl,C.out,P.out⟩
 obtain⟨k,hk,rfl,f,F⟩:=hrel;have hz:=F.size;have H:=ft f;by_cases q:k<E.length
 .obtain ⟨b,off,rfl,hb,p0,X⟩:=RdE.at_ (Rd.below I.out F) q;have z:=hid (M.out k q);obtain⟨L,Z⟩:=U.out k q;obtain⟨x,V⟩:=xq (E[k]);rw[V] at p0 X z L Z;obtain⟨xa,N⟩:=x;dsimp only at p0 X z L Z;obtain⟨a,rfl⟩:=kq1 L;rw[kqj] at z;have hk1:(k:Int)<(E.length:Int):=by omega
  have hk0:(0:Int)<=(k:Int):=by omega
  obtain⟨l,o⟩:=xq (ai ws (E.take k));have J:=D.out k;rw[o] at z f J;have T:=(f.cellAt a (by omega)).trans (iC l a (by omega));have f0:=f.frozenAt a;obtain⟨u,Y⟩:∃u,((l[a]'(by omega):Nat):Int)=u:=⟨_,rfl⟩;rw[Y] at T;have Q:g<wr.heap.size:=(f.lt g rfl).2;have c0':=(kze wr (.cells #[.int .i64 (a:Int),.int .u64 (N:Int)] 89) ⟨g,a,none⟩ Q).trans T;have HO:=hid (f.alloc (.cells #[.int .i64 (a:Int),.int .u64 (N:Int)] 89));have f0':=HO.out.frozenAt a;have S:=hid f;clear V Y f o T f0;go_wp2;go_roundw
  case rel =>
   refine⟨k+1,by omega,by go_num,?_,(F.setCell (p:=⟨g,a,none⟩) H _).alloc (by rw[kz6];exact hz) _⟩;rw[z.out,gC];exact (S.out.stored a (.int .u64 (N:Int))).1.alloc _
  case measure=>simp[intOf];omega
 rw[kq8 (by omega)] at f;have G:=D.out E.length;rw[kzf] at G;go_wp2;go_ret2;exact⟨g,c1,by rw[G];rfl,by rw[G];exact am f s,R.out.trans (F.mono s)⟩
end Go.Proofs.YtpcajamacpbjcaaGreat
