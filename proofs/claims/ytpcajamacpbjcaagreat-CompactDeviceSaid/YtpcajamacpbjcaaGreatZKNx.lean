/- Texts laid together: Fin RsN RsA. -/
import Derived.Test.YtpcajamacpbjcaaGreatZKRs
import Derived.Test.YtpcajamacpbjcaaGreatZKHeap
import Derived.Test.YtpcajamacpbjcaaGreatZKRch
import Derived.Laws.OwnMore
import Derived.Test.YtpcajamacpbjcaaGreatZKStg2
set_option maxHeartbeats 16000000
set_option maxRecDepth 100000
set_option linter.all false
namespace Go.Proofs.YtpcajamacpbjcaaGreat
open Lib (hid)
open Go.RowKit
variable {k:Nat}
open Go.Proofs.Tryz
theorem fEnd_c(A:Option Addr)(ws:List Nat)(c n:Nat)(w:World)(hn:ws.length=n)(hm:n<=9223372036854775807)(hc:n<=c)(F:RdW w w.heap.size A ws)(ho:∀x∈ws,x<18446744073709551616):
 Calls prog 104 #[.slice A n c] w λe w'=>e=.returned (.tuple #[.int .i64 (fo ws:Nat),.int .i64 (el ws)])/\Below w.heap.size w w':=by
 subst hn;have D:=hid F;have k:=hid (λW (h:RdW W W.heap.size A ws)=>nR A ws c ws.length W rfl hm hc h ho);have i:=hid (λW (h:RdW W W.heap.size A ws)=>uZ A ws c ws.length W rfl hm hc h ho);have o:=hid (λW (h:RdW W W.heap.size A ws)=>If A ws c ws.length W rfl hm hc h ho);clear F ho;by_cases p:az ws=0
 .have C:=kQ p;have H:lnV ws=phV (wd ws 16) (wd ws 17) (wd ws 18):=by simp[lnV,C]
  have j:=hid (λS V=>FI p S V);have s:=hid (λS=>Fg p S);have I:Hid (el ws=6->fo ws=0):=hid λh=>by simp[fo,h]
  rw[p] at k o;rw[C,H] at i;unfold phV at i;obtain⟨x,L⟩:=xq (wd ws 16);obtain⟨y,U⟩:=xq (wd ws 17);obtain⟨z,R⟩:=xq (wd ws 18);obtain⟨N,Q⟩:=xq (lfN ws);rw[L,U,R] at i;rw[L,Q] at j s;rw[R] at j;rw[Q] at o;have t:(x=4/\N=0)\/(x=4/\N≠0)\/x≠4:=by omega
  clear p C H L U R Q;rcases t with⟨G,J⟩|⟨G,J⟩|G
  .have q:=hid (j.out G J);subst G J;simp only[kq9] at i o;clear j s;go_enter func104,ntmps104;go_wp2_with fail;refine (k.out _ D.out).mono ?_;rintro e T ⟨rfl,a⟩;have d:=hid a;have B:=hid (D.out.up a a.size);clear a;go_wp2_with fail;refine (i.out _ B.out).mono ?_;rintro e P ⟨rfl,g⟩;have b:=hid ((d.out.trans (g.mono d.out.size)).alloc (by have:=g.size;have:=d.out.size;omega) (.cells #[.int .i64 4,.int .i64 (y:Int),.int .i64 (z:Int)] 107));have u:=hid (D.out.up b.out b.out.size);have m:=hid (Bx.new P 107 #[.int .i64 4,.int .i64 (y:Int),.int .i64 (z:Int)]);clear g;go_wp2_with fail;refine (o.out _ u.out).mono ?_;rintro e Y ⟨rfl,f⟩;have l:=m.out.up f m.out.lt;obtain⟨X,p1,Z,-⟩:=l.c3;have E:=hid (b.out.trans (f.mono b.out.size));clear f l;go_wp2;go_ret2;exact⟨by rw[q.out.1,q.out.2];rfl,E.out⟩
  all_goals
   have q:=hid (s.out (by omega));have v:=hid (I.out q.out);have M:(x=4/\((x:Int) != 4)=false/\(x != 4)=false/\decide ((0:Int)<(N:Int))=true/\decide (0<N)=true)\/((x:Int) != 4)=true/\(x != 4)=true:=by
    by_cases h:x=4
    .left;exact⟨h,by rw[kqr];omega,by rw[kqr];exact h,by rw[kqn];omega,by rw[kqn];omega⟩
    right;exact⟨by rw[kqv];omega,by rw[kqv];exact h⟩
   clear j s I;(try clear J);clear G;rcases M with⟨-,O,K,hx3,hx4⟩|⟨O,K⟩
   all_goals
    go_enter func104,ntmps104;go_wp2_with fail;refine (k.out _ D.out).mono ?_;rintro e T ⟨rfl,a⟩;have d:=hid a;have B:=hid (D.out.up a a.size);clear a;go_wp2_with fail;refine (i.out _ B.out).mono ?_;rintro e P ⟨rfl,g⟩;have b:=hid ((d.out.trans (g.mono d.out.size)).alloc (by have:=g.size;have:=d.out.size;omega) (.cells #[.int .i64 (x:Int),.int .i64 (y:Int),.int .i64 (z:Int)] 107));have u:=hid (D.out.up b.out b.out.size);have m:=hid (Bx.new P 107 #[.int .i64 (x:Int),.int .i64 (y:Int),.int .i64 (z:Int)]);clear g;go_wp2_with fail;refine (o.out _ u.out).mono ?_;rintro e Y ⟨rfl,f⟩;have l:=m.out.up f m.out.lt;obtain⟨X,p1,Z,-⟩:=l.c3;have E:=hid (b.out.trans (f.mono b.out.size));clear f l;go_wp2;go_ret2;exact⟨by rw[q.out,v.out];rfl,E.out⟩
 have q:=hid (D6 (ws:=ws) rfl p);have v:Hid (fo ws=0):=hid (by simp[fo,q.out,p]);obtain⟨r,F⟩:=xq (az ws);rw[F] at k p q;have hrn:(r != 0)=true:=by rw[kqv];exact p
 clear p F;go_enter func104,ntmps104;go_wp2_with fail;refine (k.out _ D.out).mono ?_;rintro e T ⟨rfl,a⟩;go_wp2;go_ret2;exact⟨by rw[q.out,v.out];rfl,a⟩
theorem Ch.atE{w:World}{B:Nat}{A:Option Addr}{l:List Ch}(h:Rd w B A (l.flatMap Ch.cells))(hk:k<l.length):∃b off,A=some ⟨b,off,none⟩/\b<B/\w.cell? ⟨b,off+k,none⟩=some (.slice l[k].A l[k].l.length l[k].c):=RdC.at_ h hk
def qU (l:List Ch):List En:=l.flatMap Ch.l
theorem Ek(A:Option Addr)(l:List Ch)(c n H:Nat)(w:World)(hn:l.length=n)(hlen:∀k,(qU (l.take k)).length<=1000)(d:∀x∈l,x.l.length<=1000)(hm:n<=1000)(hr:Rd w H A (l.flatMap Ch.cells))(he:∀x∈l,RdE w H x.A x.l/\(x.A=none->x.c=0))(hH:H<=w.heap.size):
 Calls prog 106 #[.slice A n c] w λe w'=>(∃v,e=.returned v/\w'.ownsRow w.heap.size 89 2 v (qU l).length ((qU l).flatMap En.cells))/\Below w.heap.size w w':=by
 subst hn;have T:=hid (hr.more hH);have D:Hid (∀k (h:k<l.length),RdE w w.heap.size l[k].A l[k].l/\(l[k].A=none->l[k].c=0)):=hid λk h=>⟨(he _ (kqq h)).1.more hH,(he _ (kqq h)).2⟩;have L:Hid (∀k (h:k<l.length),l[k].l.length<=1000):=hid λk h=>d _ (kqq h);have z:=hid hlen;have J:Hid (∀k (h:k<l.length),qU (l.take (k+1))=qU (l.take k)++l[k].l):=hid λk h=>by unfold qU;rw[kqp h,kxk];simp
 clear hr he hH hlen d;obtain⟨U,O,q,s,t⟩:=kzw dC;have S:=hid O;have I:=hid q;have F:=hid s;have B:=hid t;clear O q s t;go_enter func106,ntmps106;go_wp2_with fail;go_loopw [3,8] (λv i wr=>∃k:Nat,k<=l.length/\i=.int .i64 k/\wr.ownsRow w.heap.size 89 2 v (qU (l.take k)).length ((qU (l.take k)).flatMap En.cells)/\Below w.heap.size w wr) (λ_ i _=>l.length-(intOf i).toNat)
 case atStart=>exact⟨0,kqy _,rfl,kza _ _ _ _,kqk _ _⟩
 obtain⟨k,hk,rfl,a,u⟩:=hrel;have Q:=u.size;by_cases g:k<l.length
 .obtain ⟨b,off,rfl,hb,P⟩:=Ch.atE (Rd.below T.out u) g;obtain⟨f,p⟩:=D.out k g;have d:=L.out k g;have y:=z.out k;have j:=hid (J.out k g);obtain⟨x,N⟩:=xq (l[k]);rw[N] at P f p d j;obtain⟨R,xc,K⟩:=x;dsimp only at P f p d j;obtain⟨m,r⟩:=xq (qU (l.take k));rw[r] at a j y;have hk1:(k:Int)<(l.length:Int):=by omega
  have hk0:(0:Int)<=(k:Int):=by omega
  have E:=hid (Rd.below f u);have M:=hid (cw En.cells 2 En.len K);clear N r f p;go_wp2_with (at_builtin;refine bJ _ (by rfl) _ _ 26 rfl w.heap.size 89 U _ 2 16 underlying26 S.out I.out F.out B.out rfl (by decide) _ _ _ (by rfl) a w.heap.size R K.length _ (K.flatMap En.cells) (by rfl) M.out E.out (dP En.one _) (by unfold maxLen;omega) (by omega) Q ?_;intro v1 wa o G;have C:=cB u Q a G);go_roundw
  case rel=>exact⟨k+1,by omega,by go_num,by rw[j.out,kqu,kxk];exact o,C⟩
  case measure=>simp[intOf];omega
 rw[kq5 (by omega)] at a;go_wp2;go_ret;exact⟨⟨_,rfl,a⟩,u⟩
def lnE (k:Nat):List En:=(List.range 3).map λi=>(⟨if i<k then ((16+i:Nat):Int) else 0,0⟩:En)
theorem Jp(k:Nat):(lnE k).length=3:=by simp[lnE]
theorem Ee(hk:k<3):lnE (k+1)=(lnE k).set k ⟨16+(k:Int),0⟩:=by
 match k,hk with
 | 0,_=>rfl
 | 1,_=>rfl
 | 2,_=>rfl
theorem Ig(hk:k<3):(lnE k)[k]? = some ⟨0,0⟩:=by
 match k,hk with
 | 0,_=>rfl
 | 1,_=>rfl
 | 2,_=>rfl
theorem IU(l:List En)(k:Nat)(x:En)(a:Int)(hk:l[k]? = some x):(l.set k ⟨a,x.v⟩).flatMap En.cells=(l.flatMap En.cells).set (k*2) (.int .i64 a):=
 eI En.cells 2 En.len l k 0 (by omega) ⟨a,x.v⟩ (.int .i64 a) (λy b=>by rw[hk] at b;cases b;rfl)
theorem Dx:(madeCells #[Value.int .i64 0,.int .u64 0] (3*2)).toList=(lnE 0).flatMap En.cells:=by kernel_rfl
theorem yA(A:Option Addr)(ws:List Nat)(c n:Nat)(w:World)(hn:ws.length=n)(hm:n<=9223372036854775807)(hc:n<=c)(M:RdW w w.heap.size A ws)(Y:∀x∈ws,x<18446744073709551616):
 Calls prog 57 #[.slice A n c] w λe w'=>iu w.heap.size (el ws) (dl ws) e w'/\Below w.heap.size w w':=by
 subst hn;have L:=hid (fEnd_c A ws c ws.length w rfl hm hc M Y);clear M Y;by_cases q:el ws=0
 .obtain ⟨hs,-,-,-,h5,h6,-,h8⟩:=gO q;have hb:=(aa _).1 hs;have hi:=(aL _).1 h5;rw[<-h8] at hi h6;have I:=hid (λh=>th q h);have HE:=hid q;have d:Hid (dl ws=phE 0 0 0++(if fo ws=ws.length then [] else [⟨(fo ws:Int),cV (ep (ws.length-fo ws))⟩,⟨((fo ws+1:Nat):Int),0⟩])):=hid (by simp[dl,q]);rw[q] at L;obtain⟨t,V⟩:=xq (fo ws);rw[V] at L I d hi h6;have hlen:ws.length<=2048:=by omega
  have ht1:t<=2048:=hi.2.1;obtain⟨i0,T,U,X,Ke⟩:=kzw dC;have B:=hid (And.intro T (And.intro U (And.intro X Ke)));clear V q h8 h5 hs hb hi T U X Ke;go_enter func57,ntmps57;go_wp2_with fail;refine L.out.mono ?_;rintro e b ⟨rfl,y⟩;obtain⟨W0,Kb,m,N⟩:=run_make_full (P:=prog) b b.heap.size 26 89 i0 (.agg #[.int .i64 0,.int .u64 0]) 2 underlying26 B.out.1 B.out.2.1 B.out.2.2.1 .i64 .i64 3 (by rw[B.out.2.2.2];omega) (by unfold maxLen;omega) (kqa _);have o:W0.ownsRow b.heap.size 89 2 (.slice (some ⟨b.heap.size,0,none⟩) 3 3) 3 ((lnE 0).flatMap En.cells):=by rw[<-Dx];exact m
  have Km:=hid o;have l:=hid y;have Kh:=hid ((kqk b.heap.size b).grown N (kqa _) (λk hk=>by cases hk));simp only[kq9] at Kb;clear m N o y;go_wp2_with fail;clear Kb;go_loopw [19] (λi wr=>∃k:Nat,k<=3/\i=.int .i64 k/\wr.ownsRow b.heap.size 89 2 (.slice (some ⟨b.heap.size,0,none⟩) 3 3) 3 ((lnE k).flatMap En.cells)/\Below b.heap.size b wr) (λi _=>3-(intOf i).toNat)
  case atStart=>exact⟨0,kqy _,rfl,Km.out,Kh.out⟩
  obtain⟨k,hk,rfl,a,hB⟩:=hrel;have hz:=hB.size;by_cases O:k<3
  .have HS:=hid (show (lnE (k+1)).flatMap En.cells=((lnE k).flatMap En.cells).set (k*2) (.int .i64 (16+(k:Int))) by
    rw[Ee O];exact IU _ _ ⟨0,0⟩ _ (Ig O))
   obtain⟨u0,Kd⟩:∃u0,((lnE k).flatMap En.cells)[k*2]? = some u0:=⟨_,kql (by rw[cw En.cells 2 En.len,Jp];omega)⟩;have d0:=(a.cellAt (k*2) (by omega)).trans Kd;have e0:=a.frozenAt (k*2);have j:=hid a;have hk1:(k:Int)<3:=by omega
   have hk0:(0:Int)<=(k:Int):=by omega
   clear Kd a;go_wp2;go_roundw
   case rel=>exact⟨k+1,by omega,by go_num,by rw[HS.out];exact (j.out.stored (k*2) _).1,hB.setCell (p:=⟨b.heap.size,k*2,none⟩) (kqa _) _⟩
   case measure=>simp[intOf];omega
  obtain rfl:k=3:=by omega
  rw[show lnE 3=phE 0 0 0 from rfl] at a;have j:=hid a;clear a;by_cases g:t=ws.length
  .have Ki:((t:Int)==(ws.length:Int))=true:=by rw[kqw];omega
   have Kf:(t==ws.length)=true:=by rw[kqw];exact g
   have C:=hid (show dl ws=phE 0 0 0 by rw[d.out,if_pos g,kzs]);clear g d;go_wp2;go_ret2;exact⟨⟨some ⟨b.heap.size,0,none⟩,3,by rw[C.out,HE.out];rfl,by rw[C.out];exact ao j.out l.out.size⟩,l.out.trans (hB.mono l.out.size)⟩
  have Ki:((t:Int)==(ws.length:Int))=false:=by rw[kqi];omega
  have Kf:(t==ws.length)=false:=by rw[kqi];exact g
  have C:=hid (show dl ws=phE 0 0 0++[⟨(t:Int),cV (ep (ws.length-t))⟩,⟨((t+1:Nat):Int),0⟩] by rw[d.out,if_neg g]);have D:=I.out g;have z:=hid (λW=>qE (ep (ws.length-t)) W);rw[show jg (ep (ws.length-t))=cV (ep (ws.length-t)) by simp[jg,D],iV D] at z;rw[show (ep (ws.length-t)).val=.agg #[.int .i64 0,.int .i64 ((ws.length-t:Nat):Int),.int .i64 2,.int .i64 0,.bool false,.int .u64 0] from rfl] at z;have hws:IntKind.i64.wrap ((ws.length:Int)-(t:Int))=((ws.length-t:Nat):Int):=by rw[kqs _ (by omega)];omega
  have hwt:IntKind.i64.wrap ((t:Int)+1)=(t:Int)+1:=kqs _ (by omega);obtain⟨u,Q⟩:=xq (cV (ep (ws.length-t)));rw[Q] at z C;have S:=hid (l.out.trans (hB.mono l.out.size));clear g d I D Q;go_wp2_with fail;refine (z.out _).mono ?_;rintro e s ⟨rfl,H⟩;have G:=hid (S.out.trans (H.mono S.out.size));have Kl:=hid (ai j.out H (kqa _));clear H;go_wp2_with fail;have K:=Bx.new s 89 #[.int .i64 (t:Int),.int .u64 (u:Int),.int .i64 ((t:Int)+1),.int .u64 0];have x1:=Bx.new (s.alloc (.cells #[.int .i64 (t:Int),.int .u64 (u:Int),.int .i64 ((t:Int)+1),.int .u64 0] 89)) 26 #[.slice (some ⟨b.heap.size,0,none⟩) 3 3,.slice (some ⟨s.heap.size,0,none⟩) 2 2];simp only[kqm] at x1;have F:=(G.out.alloc G.out.size (.cells #[.int .i64 (t:Int),.int .u64 (u:Int),.int .i64 ((t:Int)+1),.int .u64 0] 89)).alloc (aS G.out.size) (.cells #[.slice (some ⟨b.heap.size,0,none⟩) 3 3,.slice (some ⟨s.heap.size,0,none⟩) 2 2] 26);have J:=(Kl.out.alloc (.cells #[.int .i64 (t:Int),.int .u64 (u:Int),.int .i64 ((t:Int)+1),.int .u64 0] 89)).alloc (.cells #[.slice (some ⟨b.heap.size,0,none⟩) 3 3,.slice (some ⟨s.heap.size,0,none⟩) 2 2] 26);replace K:=K.alloc (.cells #[.slice (some ⟨b.heap.size,0,none⟩) 3 3,.slice (some ⟨s.heap.size,0,none⟩) 2 2] 26)
  obtain⟨Z,hZ⟩:∃Z,(s.alloc (.cells #[.int .i64 (t:Int),.int .u64 (u:Int),.int .i64 ((t:Int)+1),.int .u64 0] 89)).alloc (.cells #[.slice (some ⟨b.heap.size,0,none⟩) 3 3,.slice (some ⟨s.heap.size,0,none⟩) 2 2] 26)=Z:=⟨_,rfl⟩;rw[hZ] at K x1 F J |-;clear hZ;have Eq:=kjn t 1;have HJ:=Ek (some ⟨s.heap.size+1,0,none⟩) [⟨some ⟨b.heap.size,0,none⟩,3,phE 0 0 0⟩,⟨some ⟨s.heap.size,0,none⟩,2,[⟨(t:Int),u⟩,⟨((t+1:Nat):Int),0⟩]⟩] 2 2 Z.heap.size Z rfl (λk=>by
   match k with
   | 0=>show (0:Nat)<=1000;omega
   | 1=>show (3:Nat)<=1000;omega
   | k+2=>rw[kq5 (by simp)];show (5:Nat)<=1000;omega) (λx hx=>by
   simp only[kqx,kzf,or_false] at hx;rcases hx with rfl|rfl
   .show (3:Nat)<=1000;omega
   .show (2:Nat)<=1000;omega) (by omega) (show Rd Z _ _ _ from Rd.of_box x1 x1.lt) (λx hx=>by
   simp only[kqx,kzf,or_false] at hx;rcases hx with rfl|rfl
   .exact ⟨Rd.of_own J,λh=>by cases h⟩
   refine⟨?_,λh=>by cases h⟩;have:=Rd.of_box K K.lt;show Rd Z _ _ [.int .i64 (t:Int),.int .u64 (u:Int),.int .i64 ((t+1:Nat):Int),.int .u64 ((0:Nat):Int)];rw[Eq];exact this) (kqa _)
  have Kg:=hid HJ;have E:=hid F;clear HJ K x1 F J Eq;refine Kg.out.mono ?_;rintro e w5 ⟨⟨v,rfl,f⟩,R⟩;obtain⟨A5,c5,rfl,Ka,Kc⟩:=kJ f;have Kk:=hid (ao f E.out.size);have Kj:=hid (E.out.trans (R.mono E.out.size));clear f Kc Ka R;go_wp2;go_ret2;exact⟨⟨A5,c5,by rw[C.out,HE.out];rfl,by rw[C.out];exact Kk.out⟩,Kj.out⟩
 have Y:dl ws=[]:=by simp[dl,q]
 have C:=hid Y;obtain⟨r,M⟩:=xq (el ws);have HE:=hid M;rw[M] at L q;have hrn:(r != 0)=true:=by rw[kqv];exact q
 obtain⟨t,V⟩:=xq (fo ws);rw[V] at L;clear q M V Y;go_enter func57,ntmps57;go_wp2_with fail;refine L.out.mono ?_;rintro e b ⟨rfl,y⟩;go_wp2;go_ret2;exact⟨bQ HE.out C.out,y⟩
def Jw (H:Nat) (r:Int) (d:Bool) (E:List En) (e:Ending) (w':World):Prop:=∃A c,e=.returned (.tuple #[.slice A E.length c,.bool d,.int .i64 r])/\w'.ownsRow H 89 2 (.slice A E.length c) E.length (E.flatMap En.cells)
theorem Au(A:Option Addr)(ws:List Nat)(c n:Nat)(w:World)(hn:ws.length=n)(hm:n<=9223372036854775807)(hc:n<=c)(hr:RdW w w.heap.size A ws)(ho:∀x∈ws,x<18446744073709551616):
 Calls prog 54 #[.slice A n c] w λe w'=>Jw w.heap.size (cJ ws).1 (cJ ws).2.1 (cJ ws).2.2 e w'/\Below w.heap.size w w':=by
 subst hn;have O:=hid hr;have d:=hid (Iv A ws c ws.length w rfl hm hc hr ho);have b:=hid (λW (h:RdW W W.heap.size A ws)=>uZ A ws c ws.length W rfl hm hc h ho);have o:=hid (λW (h:RdW W W.heap.size A ws)=>yA A ws c ws.length W rfl hm hc h ho);unfold iu at d o;by_cases i:(ae ws).1=6
 .have q:=Gc i;obtain⟨B,N,J,-⟩:=cg q;have S:=(aa _).1 N;obtain⟨⟨C,K,D⟩,-⟩:=(bo ws).1 J;have p:=kQ q;have v:lnV ws=phV (wd ws 16) (wd ws 17) (wd ws 18):=by simp[lnV,p]
  rw[v,p] at b;unfold phV at b;rw[i] at d;obtain⟨E,G⟩:=xq ((ae ws).2);rw[G] at d;by_cases t:wd ws 16=0
  .have f:=hid (show cJ ws=(0,true,[]) by unfold cJ;rw[if_pos i,if_pos t]);rw[t] at b;generalize wd ws 17=F at b;generalize wd ws 18=T at b;clear hr ho i t q B N J p v G S C K D;go_enter func54,ntmps54;go_wp2_with fail;refine d.out.mono ?_;rintro e U ⟨⟨I,M,rfl,-⟩,a⟩;have g:=hid a;have u:=hid (O.out.up a a.size);clear a;go_wp2_with fail;refine (b.out _ u.out).mono ?_;rintro e Y ⟨rfl,l⟩;have z:=hid (g.out.trans (l.mono g.out.size));clear l;go_wp2;go_ret3;exact⟨⟨none,0,by rw[f.out];rfl,by rw[f.out];exact kza _ _ _ _⟩,z.out.alloc z.out.size _⟩
  have f:=hid (show cJ ws=(el ws,false,dl ws) by unfold cJ;rw[if_pos i,if_neg t]);generalize wd ws 17=F at b K;generalize wd ws 18=T at b D;generalize el ws=r at o f;generalize dl ws=Z at o f;generalize wd ws 16=P at b t C;have p1:((P:Int)==0)=false:=by rw[kqi];omega
  have p2:(P==0)=false:=by rw[kqi];exact t
  have p3:decide (P=0)=false:=by rw[kqc];exact t
  clear hr ho i q B N J p v G S C K D;go_enter func54,ntmps54;go_wp2_with fail;refine d.out.mono ?_;rintro e U ⟨⟨I,M,rfl,-⟩,a⟩;have g:=hid a;have u:=hid (O.out.up a a.size);clear a;go_wp2_with fail;refine (b.out _ u.out).mono ?_;rintro e Y ⟨rfl,l⟩;have s:=g.out.trans (l.mono g.out.size);have j:=hid (s.alloc s.size (.cells #[.int .i64 (P:Int),.int .i64 (F:Int),.int .i64 (T:Int)] 107));have Q:=hid (O.out.up j.out j.out.size);clear l s;go_wp2_with fail;refine (o.out _ Q.out).mono ?_;rintro e w3 ⟨⟨V,X,rfl,m⟩,y⟩;have R:=hid (j.out.trans (y.mono j.out.size));have L:=hid (ao m j.out.size);clear y m;go_wp2;go_ret3;exact⟨⟨V,X,by rw[f.out];rfl,by rw[f.out];exact L.out⟩,R.out⟩
 have f:=hid (show cJ ws=((ae ws).1,false,(ae ws).2) by unfold cJ;rw[if_neg i]);generalize (ae ws).2=E at d f;generalize (ae ws).1=r at d f i;have p1:((r:Int)==6)=false:=by rw[kqi];exact i
 have p2:((r:Int) != 6)=true:=by rw[kqv];exact i
 clear hr ho i;go_enter func54,ntmps54;go_wp2_with fail;refine d.out.mono ?_;rintro e U ⟨⟨I,M,rfl,k⟩,a⟩;have H:=hid k;clear k;go_wp2;go_ret3;exact⟨⟨I,M,by rw[f.out];rfl,by rw[f.out];exact H.out⟩,a⟩
def GI (ws:List Nat) (H:Nat) (e:Ending) (w':World):Prop:=∃(L:List Ch) (B:Option Addr) (d:Nat) (vx:Value),e=.returned (.tuple #[.slice B L.length d,vx,.int .i64 (gU ws).1])/\L.map Ch.l=(gU ws).2.1/\OwnC w' H B d L /\
 ((gU ws).1=0->∃g c,vx=.slice (some ⟨g,0,none⟩) ws.length c/\(gU ws).2.2.length=ws.length/\w'.ownsRow H 53 1 (.slice (some ⟨g,0,none⟩) ws.length c) ws.length ((gU ws).2.2.flatMap ag))/\((gU ws).1≠0->vx=.slice none 0 0)
theorem vt{ws:List Nat}{H:Nat}{r:Int}{w':World}(h:gU ws=(r,[],[]))(h0:r≠0):GI ws H (.returned (.tuple #[.slice none 0 0,.slice none 0 0,.int .i64 r])) w':=by refine⟨[],none,0,.slice none 0 0,by rw[h];rfl,by rw[h];rfl,⟨kza _ _ _ _,λx b=>by simp at b⟩,λa=>?_,λ_=>rfl⟩;rw[h] at a;exact absurd a h0
theorem rAll_c(A:Option Addr)(ws:List Nat)(c n:Nat)(w:World)(hn:ws.length=n)(hm:n<=9223372036854775807)(hc:n<=c)(T:RdW w w.heap.size A ws)(ho:∀x∈ws,x<18446744073709551616):
 Calls prog 18 #[.slice A n c] w λe w'=>GI ws w.heap.size e w'/\Below w.heap.size w w':=by
 subst hn;have HR:=hid T;have J:=hid (nR A ws c ws.length w rfl hm hc T ho);by_cases R:az ws=0
 .obtain ⟨-,hs,-,-⟩:=cg R;have hb:=(aa _).1 hs;have m:=hid (show gU ws=rsE ws by unfold gU;rw[if_pos R]);rw[R] at J;have V:=hid (λW (h:RdW W W.heap.size A ws)=>Bg A none ws [] c 0 ws.length 0 W.heap.size W rfl rfl hs (by omega) (λe he=>absurd he (by simp)) h Rd.nil_ (kqa _));unfold OwnV at V;simp only[ak] at V;have Kq:=hid (λZ B x E c d W (hx:x.length=ws.length) (hE:Small ws.length E) (h:RdW W W.heap.size Z x) (h2:RdE W W.heap.size B E)=>Bg Z B x E c d ws.length E.length W.heap.size W hx rfl hs hE.le (λe he=>by have:=hE.ins e he;omega) h h2 (kqa _));unfold OwnV at Kq;have Kk:=hid (λZ x c2 W (hx:x.length=ws.length) (hc2:ws.length<=c2) (hox:∀v∈x,v<18446744073709551616) (h:RdW W W.heap.size Z x)=>Au Z x c2 ws.length W hx hm hc2 h hox);unfold Jw at Kk;have k:=hid (i9 ho);have HO:=hid ho;have hlen:ws.length<=2048:=by omega
  have h16:16<ws.length:=by omega
  have hmz:rzM ws<=3000:=by have:=Ga hs;omega
  obtain⟨i0,hi,Km,Ks,Kv⟩:=kzw B8;have HI:=hid hi;have Ls:=hid Km;have Lg:=hid Ks;have La:=hid Kv;clear hi Km Ks Kv;clear R hs hb T ho;go_enter func18,ntmps18;go_wp2_with fail;refine J.out.mono ?_;rintro e w1 ⟨rfl,j⟩;have U:=hid j;have Lc:=hid (HR.out.up j j.size);clear j;go_wp2_with fail;refine (V.out _ Lc.out).mono ?_;rintro e w2 ⟨g2,c2,rfl,u,Kt⟩;have Lr:=hid (U.out.trans (Kt.mono U.out.size));have Le:=hid (ao u U.out.size);clear u Kt;go_wp2_with fail;go_loopg [6,8] (rzM ws+1) (λgk vx vo wr=>∃(x:List Nat) (L:List Ch) (g cx:Nat),vx=.slice (some ⟨g,0,none⟩) ws.length cx/\x.length=ws.length/\Hid (∀v∈x,v<18446744073709551616)/\Hid (rzM x<gk)/\Hid (lI ws (L.map Ch.l) x)/\L.length+gk<=rzM ws+1/\wr.ownsRow w.heap.size 53 1 (.slice (some ⟨g,0,none⟩) ws.length cx) ws.length (x.flatMap ag)/\wr.ownsRow w.heap.size 26 1 vo L.length (L.flatMap Ch.cells)/\Hid (∀y∈L,wr.ownsRow w.heap.size 89 2 (.slice y.A y.l.length y.c) y.l.length (y.l.flatMap En.cells))/\Below w.heap.size w wr)
  case atStart=>exact⟨ws,[],g2,c2,rfl,rfl,HO.out,kjz _,k.out,by simp,Le.out,kza _ _ _ _,λy i=>absurd i (by simp),Lr.out⟩
  obtain⟨x,L,g,cx,rfl,Ka,Kg,Lj,Kf,hLg,b,F,Kn,hB⟩:=hrel;have hz:=hB.size;have D:=cH b;have S:=hid b;have Kw:=hid F;have HB:=hid hB;have M:=hid Ka;have HCP:=hid D;have Lb:=hid hz;have O:=hid (Kk.out (some ⟨g,0,none⟩) x cx wr Ka D Kg.out (Rd.of_own b));have k:=hid (λh hd=>wl Kf.out Kg.out h hd);have Y:=hid (λh hd=>Am Kf.out h hd);have Ki:=hid (λh=>CC Kf.out h);have K:=hid (λh hd=>si Kg.out h hd);obtain⟨r,T⟩:=xq ((cJ x).1);obtain⟨dn,Ke⟩:=xq ((cJ x).2.1);obtain⟨E,hE⟩:=xq ((cJ x).2.2);rw[T,Ke,hE] at O;rw[T] at Y Ki k K;rw[Ke] at Y k K;rw[hE] at k K;clear T hE Ke b F hB Ka D hz;by_cases s:r=0
  .subst s;cases dn with
   | true =>have H:=hid (Y.out rfl rfl);go_wp2_with fail;refine O.out.mono ?_;rintro e w3 ⟨⟨A3,c3,rfl,-⟩,a⟩;have o:=hid (HB.out.trans (a.mono HB.out.size));have I:=hid (ai S.out a (kqa _));have f:=hid (ai Kw.out a (kqa _));have N:=hid (λy i=>ai (Kn.out y i) a (kqa _));clear a;obtain⟨Bv,dv,rfl⟩:=aO f.out;go_wp2;go_ret3;exact⟨⟨L,Bv,dv,_,by rw[m.out,H.out];rfl,by rw[m.out,H.out],⟨f.out,N.out⟩,λ_=>⟨g,cx,rfl,by rw[m.out,H.out];exact M.out,by rw[m.out,H.out];exact I.out⟩,λh=>absurd (by rw[m.out,H.out]) h⟩,o.out⟩
   | false =>
    have Eq:=k.out rfl rfl;obtain⟨Q,X,Kd⟩:=K.out rfl rfl;rw[M.out] at Q;have Kc:=hid (λZ B c d W h h2=>Kq.out Z B x E c d W M.out Q h h2);have P:(ak x E).length=ws.length:=by rw[ax];exact M.out
    rw[P] at Kc;obtain⟨y,i⟩:=xq (ak x E);rw[i] at Eq X Kd Kc P;have Kh:=hid Eq;have Kx:=hid X;have Ko:=hid Kd;have Lq:=hid P;have hEl:E.length<=32:=Q.le;clear Eq Q X Kd P i;go_wp2_with fail;refine O.out.mono ?_;rintro e w3 ⟨⟨A3,c3,rfl,C⟩,a⟩;have o:=hid (HB.out.trans (a.mono HB.out.size));have I:=hid (ai S.out a (kqa _));have f:=hid (ai Kw.out a (kqa _));have N:=hid (λy i=>ai (Kn.out y i) a (kqa _));have Kl:=hid (ao C Lb.out);have Ll:=o.out.size;clear a C;go_wp2_with (at_builtin;refine kze _ rfl _ _ 34 rfl w.heap.size 26 i0 _ 1 24 underlying34 HI.out Ls.out Lg.out La.out rfl (by decide) _ _ _ rfl (f.out.alloc _) ⟨_,0,none⟩ 1 1 [.slice A3 E.length c3] rfl rfl (cI _ _ _) (by simp[Value.oneCell']) (by unfold maxLen;omega) (by omega) (by simp;omega) ?_;intro v1 w4 G p _;have Kp:=aE o.out Ll f.out p;have Lh:=hid (bC (I.out.alloc _) p (fO I.out f.out (by decide)));have Kr:=hid (bC (Kl.out.alloc _) p (fO Kl.out f.out (by decide)));have Ld:=hid (λy i=>bC ((N.out y i).alloc _) p (fO (N.out y i) f.out (by decide)));have Kb:=hid Kp;have Lo:=hid G;clear Kp G p)
    refine (Kc.out _ _ _ _ _ (Rd.of_own Lh.out) (Rd.of_own Kr.out)).mono ?_;rintro e w5 ⟨g5,c5,rfl,t,q⟩;have Li:=hid (Kb.out.trans (q.mono Kb.out.size));have Lm:=hid (ao t Kb.out.size);have Lk:=hid (ai Lo.out q (kqa _));have Ln:=hid (ai Kr.out q (kqa _));have Lf:=hid (λy i=>ai (Ld.out y i) q (kqa _));clear t q;go_wp2_with fail;have Kz:=Lj.out;go_roundg (rzM x)
    case rel =>
     refine⟨y,L++[⟨A3,c3,E⟩],g5,c5,rfl,Lq.out,Kx.out,Ko.out,?_,?_,Lm.out,?_,?_,Li.out⟩
     .rw[kjo];exact Kh.out
     .rw[kqu];show L.length+1+_<=_;omega
     .have h5:=Lk.out;rw[kqu,kxk];exact h5
     intro z hz;rcases kz0.1 hz with h6|h6
     .exact Lf.out z h6
     rw[kq1] at h6;subst h6;exact Ln.out
    case measure=>exact Kz
  have H:=hid (Ki.out s);have Ku:(r != 0)=true:=by rw[kqv];exact s
  have Lp:=hid s;clear s;go_wp2_with fail;refine O.out.mono ?_;rintro e w3 ⟨⟨A3,c3,rfl,-⟩,a⟩;have o:=hid (HB.out.trans (a.mono HB.out.size));clear a;go_wp2;go_ret3;exact⟨vt (by rw[m.out,H.out]) Lp.out,o.out⟩
 have H:=hid (show gU ws=(az ws,[],[]) by unfold gU;rw[if_neg R]);have Ku:(az ws != 0)=true:=by rw[kqv];exact R
 have Ky:=hid R;obtain⟨r,Kj⟩:=xq (az ws);rw[Kj] at J H Ku Ky;clear T ho R Kj;go_enter func18,ntmps18;go_wp2_with fail;refine J.out.mono ?_;rintro e w1 ⟨rfl,j⟩;go_wp2;go_ret3;exact⟨vt H.out Ky.out,j⟩
end Go.Proofs.YtpcajamacpbjcaaGreat
