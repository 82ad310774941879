/- What is committed in an image: what the program returns. -/
import Derived.Test.YtpcajamacpbjcaaGreatZEnR
import Derived.Test.YtpcajamacpbjcaaGreatZGF
import Derived.Test.YtpcajamacpbjcaaGreatZTpP
import Derived.Test.YtpcajamacpbjcaaGreatZKHead
set_option maxHeartbeats 16000000
set_option maxRecDepth 100000
set_option linter.all false
namespace Go.Proofs.YtpcajamacpbjcaaGreat
open Lib (hid)
open Go.RowKit
open Go.Proofs.Tryz
theorem cnt_cm{E:List En}(h:1<=E.length)(h2:E.length<=32):cnE (cmW E)=0/\cnK (cmW E)=E.length:=by
 have e:cmW E%64=E.length:=by unfold cmW;omega
 have b:cmW E≠0:=by unfold cmW;omega
 have a:cnE (cmW E)=0:=by unfold cnE;rw[if_neg b,e,if_neg (by omega)]
 exact⟨a,by unfold cnK;rw[if_pos a,e]⟩
theorem FR(A:Option Addr)(ws:List Nat)(E:List En)(c n:Nat)(w:World)(hn:ws.length=n)(hs:ak (n:Int)=true)(hc:n<=c)(hC:Cmt ws E)(hr:RdW w w.heap.size A ws)(ho:∀x∈ws,x<18446744073709551616):
 Calls prog 107 #[.slice A n c] w λe w'=>fL w.heap.size 0 E e w'/\Below w.heap.size w w':=by
 obtain⟨b1,b2,-⟩:=(ab _).1 hs;have L:=hid (aV hs);obtain⟨b,D,rfl,hb,g⟩:=D6 hr (by omega);have q:=g 24 (by omega);have y:=fT ho 24;have h241:(24:Int)<(n:Int):=by omega
 rcases hC with⟨rfl,f⟩|⟨a,f,O⟩
 .rw[f] at q;have j:=hid (λW=>cnt_c 0 W (by omega));rw[show cnE 0=6 by rfl,show cnK 0=0 by rfl,show cnS 0=0 by rfl] at j;clear hr g hs hn ho f y;go_enter func107,ntmps107;go_wp2_with fail;refine (aB _ n c w (by omega)).mono ?_;rintro e P ⟨rfl,rfl⟩;rw[L.out];go_wp2_with fail;refine (j.out _).mono ?_;rintro e T ⟨rfl,rfl⟩;go_wp2;go_ret2;exact⟨bN rfl rfl,kqk _ _⟩
 have J:=a.pos;have v:=a.le;rw[hn] at a;have l:=a.ent hs;have o:=a.eok (by omega);obtain⟨G,I⟩:=cnt_cm J v;rw[f] at q y;have j:=hid (λW=>cnt_c (cmW E) W y);rw[G,I] at j;obtain⟨m,r⟩:=xq E.length;have p:=hid (λW (h:RdW W W.heap.size (some ⟨b,D,none⟩) ws)=>EM _ ws E c n m W hn hs r (by omega) (by omega) l o a.in_ (by rw[<-r];exact O) hc h);have t:=hid (λB d W (h:RdE W W.heap.size B E)=>vy B E d m n W r (by omega) (by omega) l h o);unfold fL at p;rw[r] at p j;obtain⟨x,F⟩:=xq (cmW E);obtain⟨s,u⟩:=xq (cnS x);rw[F] at j t q;rw[u] at j;have S:=hid hr;have M:=hid r;clear hr g hs hn ho f y O a l o G I r F u J v;go_enter func107,ntmps107;go_wp2_with fail;refine (aB _ n c w (by omega)).mono ?_;rintro e P ⟨rfl,rfl⟩;rw[L.out];go_wp2_with fail;refine (j.out _).mono ?_;rintro e T ⟨rfl,rfl⟩;go_wp2_with fail;refine (p.out _ S.out).mono ?_;rintro e w3 ⟨⟨Q,R,rfl,i⟩,K⟩;have H:=hid K;have N:=hid i;clear K i;go_wp2_with fail;refine (t.out _ _ _ (show RdE _ _ _ _ from Rd.of_own N.out)).mono ?_;rintro e w4 ⟨rfl,k⟩;have C:=hid (aa N.out k (kqa _));have z:=hid (H.out.trans (k.mono H.out.size));clear k;go_wp2;go_ret2;exact⟨⟨Q,R,by rw[M.out];rfl,by rw[M.out];exact C.out⟩,z.out⟩
end Go.Proofs.YtpcajamacpbjcaaGreat
