/- Texts laid together: Fin RsN RsA. -/
import Derived.Test.YtpcajamacpbjcaaGreatZKRs
import Derived.Test.YtpcajamacpbjcaaGreatZKHeap
import Derived.Test.YtpcajamacpbjcaaGreatZKRch
import Derived.Laws.OwnMore
import Derived.Test.YtpcajamacpbjcaaGreatZKStg2
set_option maxHeartbeats 16000000
set_option maxRecDepth 100000
set_option linter.all false
namespace Go.Proofs.YtpcajamacpbjcaaGreat
open Lib (hid)
open Go.RowKit
variable {k:Nat}
open Go.Proofs.Tryz
theorem fEnd_c(A:Option Addr)(ws:List Nat)(c n:Nat)(w:World)(hn:ws.length=n)(hm:n<=9223372036854775807)(hc:n<=c)(G:RdW w w.heap.size A ws)(ho:∀x∈ws,x<18446744073709551616):
 Calls prog 104 #[.slice A n c] w λe w'=>e=.returned (.tuple #[.int .i64 (fk ws:Nat),.int .i64 (dX ws)])/\Below w.heap.size w w':=by
 subst hn;have B:=hid G;have k:=hid (λW (h:RdW W W.heap.size A ws)=>ng A ws c ws.length W rfl hm hc h ho);have i:=hid (λW (h:RdW W W.heap.size A ws)=>ui A ws c ws.length W rfl hm hc h ho);have j:=hid (λW (h:RdW W W.heap.size A ws)=>EZ A ws c ws.length W rfl hm hc h ho);clear G ho;by_cases p:aw ws=0
 .have C:=iX p;have H:lnV ws=phV (wd ws 16) (wd ws 17) (wd ws 18):=by simp[lnV,C]
  have m:=hid (λO h3=>CK p O h3);have q:=hid (λO=>Cp p O);have F:Hid (dX ws=6->fk ws=0):=hid λh=>by simp[fk,h]
  rw[p] at k j;rw[C,H] at i;unfold phV at i;obtain⟨x,K⟩:=xq (wd ws 16);obtain⟨y,T⟩:=xq (wd ws 17);obtain⟨z,Q⟩:=xq (wd ws 18);obtain⟨N,S⟩:=xq (lfN ws);rw[K,T,Q] at i;rw[K,S] at m q;rw[Q] at m;rw[S] at j;have E:(x=4/\N=0)\/(x=4/\N≠0)\/x≠4:=by omega
  clear p C H K T Q S;rcases E with⟨I,J⟩|⟨I,J⟩|I
  .have s:=hid (m.out I J);subst I J;simp only[kqy] at i j;clear m q;go_enter func104,ntmps104;go_wp2_with fail;refine (k.out _ B.out).mono ?_;rintro e U ⟨rfl,a⟩;have g:=hid a;have u:=hid (B.out.up a a.size);clear a;go_wp2_with fail;refine (i.out _ u.out).mono ?_;rintro e M ⟨rfl,d⟩;have b:=hid ((g.out.trans (d.mono g.out.size)).alloc (by have:=d.size;have:=g.out.size;omega) (.cells #[.int .i64 4,.int .i64 (y:Int),.int .i64 (z:Int)] 107));have D:=hid (B.out.up b.out b.out.size);have l:=hid (Bx.new M 107 #[.int .i64 4,.int .i64 (y:Int),.int .i64 (z:Int)]);clear d;go_wp2_with fail;refine (j.out _ D.out).mono ?_;rintro e X ⟨rfl,f⟩;have o:=l.out.up f l.out.lt;obtain⟨Z,Y,V,-⟩:=o.c3;have t:=hid (b.out.trans (f.mono b.out.size));clear f o;go_wp2;go_ret2;exact⟨by rw[s.out.1,s.out.2];rfl,t.out⟩
  all_goals
   have s:=hid (q.out (by omega));have v:=hid (F.out s.out);have R:(x=4/\((x:Int) != 4)=false/\(x != 4)=false/\decide ((0:Int)<(N:Int))=true/\decide (0<N)=true)\/((x:Int) != 4)=true/\(x != 4)=true:=by
    by_cases h:x=4
    .left;exact⟨h,by rw[kqp];omega,by rw[kqp];exact h,by rw[kql];omega,by rw[kql];omega⟩
    right;exact⟨by rw[kqt];omega,by rw[kqt];exact h⟩
   clear m q F;(try clear J);clear I;rcases R with⟨-,L,P,hx3,hx4⟩|⟨L,P⟩
   all_goals
    go_enter func104,ntmps104;go_wp2_with fail;refine (k.out _ B.out).mono ?_;rintro e U ⟨rfl,a⟩;have g:=hid a;have u:=hid (B.out.up a a.size);clear a;go_wp2_with fail;refine (i.out _ u.out).mono ?_;rintro e M ⟨rfl,d⟩;have b:=hid ((g.out.trans (d.mono g.out.size)).alloc (by have:=d.size;have:=g.out.size;omega) (.cells #[.int .i64 (x:Int),.int .i64 (y:Int),.int .i64 (z:Int)] 107));have D:=hid (B.out.up b.out b.out.size);have l:=hid (Bx.new M 107 #[.int .i64 (x:Int),.int .i64 (y:Int),.int .i64 (z:Int)]);clear d;go_wp2_with fail;refine (j.out _ D.out).mono ?_;rintro e X ⟨rfl,f⟩;have o:=l.out.up f l.out.lt;obtain⟨Z,Y,V,-⟩:=o.c3;have t:=hid (b.out.trans (f.mono b.out.size));clear f o;go_wp2;go_ret2;exact⟨by rw[s.out,v.out];rfl,t.out⟩
 have s:=hid (Ao (ws:=ws) rfl p);have v:Hid (fk ws=0):=hid (by simp[fk,s.out,p]);obtain⟨r,G⟩:=xq (aw ws);rw[G] at k p s;have hrn:(r != 0)=true:=by rw[kqt];exact p
 clear p G;go_enter func104,ntmps104;go_wp2_with fail;refine (k.out _ B.out).mono ?_;rintro e U ⟨rfl,a⟩;go_wp2;go_ret2;exact⟨by rw[s.out,v.out];rfl,a⟩
theorem Ch.atE{w:World}{B:Nat}{A:Option Addr}{l:List Ch}(h:Rd w B A (l.flatMap Ch.cells))(hk:k<l.length):∃b off,A=some ⟨b,off,none⟩/\b<B/\w.cell? ⟨b,off+k,none⟩=some (.slice l[k].A l[k].l.length l[k].c):=RdC.at_ h hk
def pk (l:List Ch):List En:=l.flatMap Ch.l
theorem BS(A:Option Addr)(l:List Ch)(c n H:Nat)(w:World)(hn:l.length=n)(hlen:∀k,(pk (l.take k)).length<=1000)(d:∀x∈l,x.l.length<=1000)(hm:n<=1000)(hr:Rd w H A (l.flatMap Ch.cells))(he:∀x∈l,RdE w H x.A x.l/\(x.A=none->x.c=0))(hH:H<=w.heap.size):
 Calls prog 106 #[.slice A n c] w λe w'=>(∃v,e=.returned v/\w'.ownsRow w.heap.size 89 2 v (pk l).length ((pk l).flatMap En.cells))/\Below w.heap.size w w':=by
 subst hn;have U:=hid (hr.more hH);have L:Hid (∀k (h:k<l.length),RdE w w.heap.size l[k].A l[k].l/\(l[k].A=none->l[k].c=0)):=hid λk h=>⟨(he _ (kqs h)).1.more hH,(he _ (kqs h)).2⟩;have B:Hid (∀k (h:k<l.length),l[k].l.length<=1000):=hid λk h=>d _ (kqs h);have K:=hid hlen;have D:Hid (∀k (h:k<l.length),pk (l.take (k+1))=pk (l.take k)++l[k].l):=hid λk h=>by unfold pk;rw[kqq h,kz0];simp
 clear hr he hH hlen d;obtain⟨R,P,q,s,r⟩:=kze bB;have T:=hid P;have F:=hid q;have J:=hid s;have z:=hid r;clear P q s r;go_enter func106,ntmps106;go_wp2_with fail;go_loopw [3,8] (λv i wr=>∃k:Nat,k<=l.length/\i=.int .i64 k/\wr.ownsRow w.heap.size 89 2 v (pk (l.take k)).length ((pk (l.take k)).flatMap En.cells)/\Below w.heap.size w wr) (λ_ i _=>l.length-(intOf i).toNat)
 case atStart=>exact⟨0,kqx _,rfl,kq1 _ _ _ _,kqk _ _⟩
 obtain⟨k,hk,rfl,a,u⟩:=hrel;have O:=u.size;by_cases f:k<l.length
 .obtain ⟨b,off,rfl,hb,Q⟩:=Ch.atE (Rd.below U.out u) f;obtain⟨g,o⟩:=L.out k f;have d:=B.out k f;have I:=K.out k;have j:=hid (D.out k f);obtain⟨x,N⟩:=xq (l[k]);rw[N] at Q g o d j;obtain⟨S,xc,E⟩:=x;dsimp only at Q g o d j;obtain⟨m,t⟩:=xq (pk (l.take k));rw[t] at a j I;have hk1:(k:Int)<(l.length:Int):=by omega
  have hk0:(0:Int)<=(k:Int):=by omega
  have C:=hid (Rd.below g u);have G:=hid (bY En.cells 2 En.len E);clear N t g o;go_wp2_with (at_builtin;refine aI _ (by rfl) _ _ 26 rfl w.heap.size 89 R _ 2 16 underlying26 T.out F.out J.out z.out rfl (by decide) _ _ _ (by rfl) a w.heap.size S E.length _ (E.flatMap En.cells) (by rfl) G.out C.out (cn En.one _) (by unfold maxLen;omega) (by omega) O ?_;intro v1 wa p y;have M:=aM u O a y);go_roundw
  case rel=>exact⟨k+1,by omega,by go_num,by rw[j.out,kqz,kz0];exact p,M⟩
  case measure=>simp[intOf];omega
 rw[kzb (by omega)] at a;go_wp2;go_ret;exact⟨⟨_,rfl,a⟩,u⟩
def lnE (k:Nat):List En:=(List.range 3).map λi=>(⟨if i<k then ((16+i:Nat):Int) else 0,0⟩:En)
theorem Ep(k:Nat):(lnE k).length=3:=by simp[lnE]
theorem BB(hk:k<3):lnE (k+1)=(lnE k).set k ⟨16+(k:Int),0⟩:=by
 match k,hk with
 | 0,_=>rfl
 | 1,_=>rfl
 | 2,_=>rfl
theorem EU(hk:k<3):(lnE k)[k]? = some ⟨0,0⟩:=by
 match k,hk with
 | 0,_=>rfl
 | 1,_=>rfl
 | 2,_=>rfl
theorem Du(l:List En)(k:Nat)(x:En)(a:Int)(hk:l[k]? = some x):(l.set k ⟨a,x.v⟩).flatMap En.cells=(l.flatMap En.cells).set (k*2) (.int .i64 a):=
 fi En.cells 2 En.len l k 0 (by omega) ⟨a,x.v⟩ (.int .i64 a) (λy b=>by rw[hk] at b;cases b;rfl)
theorem BV:(madeCells #[Value.int .i64 0,.int .u64 0] (3*2)).toList=(lnE 0).flatMap En.cells:=by kernel_rfl
theorem u9(A:Option Addr)(ws:List Nat)(c n:Nat)(w:World)(hn:ws.length=n)(hm:n<=9223372036854775807)(hc:n<=c)(K:RdW w w.heap.size A ws)(R:∀x∈ws,x<18446744073709551616):
 Calls prog 57 #[.slice A n c] w λe w'=>dx w.heap.size (dX ws) (dj ws) e w'/\Below w.heap.size w w':=by
 subst hn;have L:=hid (fEnd_c A ws c ws.length w rfl hm hc K R);clear K R;by_cases q:dX ws=0
 .obtain ⟨hs,-,-,-,h5,h6,-,h8⟩:=fj q;have hb:=(af _).1 hs;have hi:=(aQ _).1 h5;rw[<-h8] at hi h6;have D:=hid (λh=>rJ q h);have HE:=hid q;have d:Hid (dj ws=phE 0 0 0++(if fk ws=ws.length then [] else [⟨(fk ws:Int),cC (dV (ws.length-fk ws))⟩,⟨((fk ws+1:Nat):Int),0⟩])):=hid (by simp[dj,q]);rw[q] at L;obtain⟨t,ht⟩:=xq (fk ws);rw[ht] at L D d hi h6;have hlen:ws.length<=2048:=by omega
  have ht1:t<=2048:=hi.2.1;obtain⟨i0,Y,S,Fr,O⟩:=kze bB;have z:=hid (And.intro Y (And.intro S (And.intro Fr O)));clear ht q h8 h5 hs hb hi Y S Fr O;go_enter func57,ntmps57;go_wp2_with fail;refine L.out.mono ?_;rintro e b ⟨rfl,B⟩;obtain⟨W0,N,m,Fs⟩:=run_make_full (P:=prog) b b.heap.size 26 89 i0 (.agg #[.int .i64 0,.int .u64 0]) 2 underlying26 z.out.1 z.out.2.1 z.out.2.2.1 .i64 .i64 3 (by rw[z.out.2.2.2];omega) (by unfold maxLen;omega) (kqb _);have l:W0.ownsRow b.heap.size 89 2 (.slice (some ⟨b.heap.size,0,none⟩) 3 3) 3 ((lnE 0).flatMap En.cells):=by rw[<-BV];exact m
  have Fy:=hid l;have o:=hid B;have Fu:=hid ((kqk b.heap.size b).grown Fs (kqb _) (λk hk=>by cases hk));simp only[kqy] at N;clear m Fs l B;go_wp2_with fail;clear N;go_loopw [19] (λi wr=>∃k:Nat,k<=3/\i=.int .i64 k/\wr.ownsRow b.heap.size 89 2 (.slice (some ⟨b.heap.size,0,none⟩) 3 3) 3 ((lnE k).flatMap En.cells)/\Below b.heap.size b wr) (λi _=>3-(intOf i).toNat)
  case atStart=>exact⟨0,kqx _,rfl,Fy.out,Fu.out⟩
  obtain⟨k,hk,rfl,a,hB⟩:=hrel;have hz:=hB.size;by_cases T:k<3
  .have HS:=hid (show (lnE (k+1)).flatMap En.cells=((lnE k).flatMap En.cells).set (k*2) (.int .i64 (16+(k:Int))) by
    rw[BB T];exact Du _ _ ⟨0,0⟩ _ (EU T))
   obtain⟨u0,Ft⟩:∃u0,((lnE k).flatMap En.cells)[k*2]? = some u0:=⟨_,kqm (by rw[bY En.cells 2 En.len,Ep];omega)⟩;have d0:=(a.cellAt (k*2) (by omega)).trans Ft;have e0:=a.frozenAt (k*2);have j:=hid a;have hk1:(k:Int)<3:=by omega
   have hk0:(0:Int)<=(k:Int):=by omega
   clear Ft a;go_wp2;go_roundw
   case rel=>exact⟨k+1,by omega,by go_num,by rw[HS.out];exact (j.out.stored (k*2) _).1,hB.setCell (p:=⟨b.heap.size,k*2,none⟩) (kqb _) _⟩
   case measure=>simp[intOf];omega
  obtain rfl:k=3:=by omega
  rw[show lnE 3=phE 0 0 0 from rfl] at a;have j:=hid a;clear a;by_cases f:t=ws.length
  .have Fv:((t:Int)==(ws.length:Int))=true:=by rw[kqu];omega
   have Fq:(t==ws.length)=true:=by rw[kqu];exact f
   have C:=hid (show dj ws=phE 0 0 0 by rw[d.out,if_pos f,kzm]);clear f d;go_wp2;go_ret2;exact⟨⟨some ⟨b.heap.size,0,none⟩,3,by rw[C.out,HE.out];rfl,by rw[C.out];exact ar j.out o.out.size⟩,o.out.trans (hB.mono o.out.size)⟩
  have Fv:((t:Int)==(ws.length:Int))=false:=by rw[kqi];omega
  have Fq:(t==ws.length)=false:=by rw[kqi];exact f
  have C:=hid (show dj ws=phE 0 0 0++[⟨(t:Int),cC (dV (ws.length-t))⟩,⟨((t+1:Nat):Int),0⟩] by rw[d.out,if_neg f]);have J:=D.out f;have y:=hid (λW=>pO (dV (ws.length-t)) W);rw[show iJ (dV (ws.length-t))=cC (dV (ws.length-t)) by simp[iJ,J],iB J] at y;rw[show (dV (ws.length-t)).val=.agg #[.int .i64 0,.int .i64 ((ws.length-t:Nat):Int),.int .i64 2,.int .i64 0,.bool false,.int .u64 0] from rfl] at y;have hws:IntKind.i64.wrap ((ws.length:Int)-(t:Int))=((ws.length-t:Nat):Int):=by rw[kqo _ (by omega)];omega
  have hwt:IntKind.i64.wrap ((t:Int)+1)=(t:Int)+1:=kqo _ (by omega);obtain⟨u,Eq⟩:=xq (cC (dV (ws.length-t)));rw[Eq] at y C;have Q:=hid (o.out.trans (hB.mono o.out.size));clear f d D J Eq;go_wp2_with fail;refine (y.out _).mono ?_;rintro e s ⟨rfl,I⟩;have F:=hid (Q.out.trans (I.mono Q.out.size));have Ga:=hid (ae j.out I (kqb _));clear I;go_wp2_with fail;have M:=Bx.new s 89 #[.int .i64 (t:Int),.int .u64 (u:Int),.int .i64 ((t:Int)+1),.int .u64 0];have X:=Bx.new (s.alloc (.cells #[.int .i64 (t:Int),.int .u64 (u:Int),.int .i64 ((t:Int)+1),.int .u64 0] 89)) 26 #[.slice (some ⟨b.heap.size,0,none⟩) 3 3,.slice (some ⟨s.heap.size,0,none⟩) 2 2];simp only[kqn] at X;have H:=(F.out.alloc F.out.size (.cells #[.int .i64 (t:Int),.int .u64 (u:Int),.int .i64 ((t:Int)+1),.int .u64 0] 89)).alloc (aH F.out.size) (.cells #[.slice (some ⟨b.heap.size,0,none⟩) 3 3,.slice (some ⟨s.heap.size,0,none⟩) 2 2] 26);have E:=(Ga.out.alloc (.cells #[.int .i64 (t:Int),.int .u64 (u:Int),.int .i64 ((t:Int)+1),.int .u64 0] 89)).alloc (.cells #[.slice (some ⟨b.heap.size,0,none⟩) 3 3,.slice (some ⟨s.heap.size,0,none⟩) 2 2] 26);replace M:=M.alloc (.cells #[.slice (some ⟨b.heap.size,0,none⟩) 3 3,.slice (some ⟨s.heap.size,0,none⟩) 2 2] 26)
  obtain⟨Z,hZ⟩:∃Z,(s.alloc (.cells #[.int .i64 (t:Int),.int .u64 (u:Int),.int .i64 ((t:Int)+1),.int .u64 0] 89)).alloc (.cells #[.slice (some ⟨b.heap.size,0,none⟩) 3 3,.slice (some ⟨s.heap.size,0,none⟩) 2 2] 26)=Z:=⟨_,rfl⟩;rw[hZ] at M X H E |-;clear hZ;have V:=kx1 t 1;have HJ:=BS (some ⟨s.heap.size+1,0,none⟩) [⟨some ⟨b.heap.size,0,none⟩,3,phE 0 0 0⟩,⟨some ⟨s.heap.size,0,none⟩,2,[⟨(t:Int),u⟩,⟨((t+1:Nat):Int),0⟩]⟩] 2 2 Z.heap.size Z rfl (λk=>by
   match k with
   | 0=>show (0:Nat)<=1000;omega
   | 1=>show (3:Nat)<=1000;omega
   | k+2=>rw[kzb (by simp)];show (5:Nat)<=1000;omega) (λx hx=>by
   simp only[kq0,kzs,or_false] at hx;rcases hx with rfl|rfl
   .show (3:Nat)<=1000;omega
   .show (2:Nat)<=1000;omega) (by omega) (show Rd Z _ _ _ from Rd.of_box X X.lt) (λx hx=>by
   simp only[kq0,kzs,or_false] at hx;rcases hx with rfl|rfl
   .exact ⟨Rd.of_own E,λh=>by cases h⟩
   refine⟨?_,λh=>by cases h⟩;have:=Rd.of_box M M.lt;show Rd Z _ _ [.int .i64 (t:Int),.int .u64 (u:Int),.int .i64 ((t+1:Nat):Int),.int .u64 ((0:Nat):Int)];rw[V];exact this) (kqb _)
  have Fx:=hid HJ;have G:=hid H;clear HJ M X H E V;refine Fx.out.mono ?_;rintro e w5 ⟨⟨v,rfl,g⟩,U⟩;obtain⟨A5,c5,rfl,Fp,Fo⟩:=kI g;have Fz:=hid (ar g G.out.size);have Fw:=hid (G.out.trans (U.mono G.out.size));clear g Fo Fp U;go_wp2;go_ret2;exact⟨⟨A5,c5,by rw[C.out,HE.out];rfl,by rw[C.out];exact Fz.out⟩,Fw.out⟩
 have R:dj ws=[]:=by simp[dj,q]
 have C:=hid R;obtain⟨r,K⟩:=xq (dX ws);have HE:=hid K;rw[K] at L q;have hrn:(r != 0)=true:=by rw[kqt];exact q
 obtain⟨t,ht⟩:=xq (fk ws);rw[ht] at L;clear q K ht R;go_enter func57,ntmps57;go_wp2_with fail;refine L.out.mono ?_;rintro e b ⟨rfl,B⟩;go_wp2;go_ret2;exact⟨bH HE.out C.out,B⟩
def rT (H:Nat) (r:Int) (d:Bool) (E:List En) (e:Ending) (w':World):Prop:=∃A c,e=.returned (.tuple #[.slice A E.length c,.bool d,.int .i64 r])/\w'.ownsRow H 89 2 (.slice A E.length c) E.length (E.flatMap En.cells)
theorem E0(A:Option Addr)(ws:List Nat)(c n:Nat)(w:World)(hn:ws.length=n)(hm:n<=9223372036854775807)(hc:n<=c)(hr:RdW w w.heap.size A ws)(ho:∀x∈ws,x<18446744073709551616):
 Calls prog 54 #[.slice A n c] w λe w'=>rT w.heap.size (cJ ws).1 (cJ ws).2.1 (cJ ws).2.2 e w'/\Below w.heap.size w w':=by
 subst hn;have L:=hid hr;have d:=hid (DP A ws c ws.length w rfl hm hc hr ho);have b:=hid (λW (h:RdW W W.heap.size A ws)=>ui A ws c ws.length W rfl hm hc h ho);have o:=hid (λW (h:RdW W W.heap.size A ws)=>u9 A ws c ws.length W rfl hm hc h ho);unfold dx at d o;by_cases l:(ac ws).1=6
 .have q:=yJ l;obtain⟨y,I,Q,-⟩:=ch q;have S:=(af _).1 I;obtain⟨⟨M,O,G⟩,-⟩:=(aY ws).1 Q;have p:=iX q;have u:lnV ws=phV (wd ws 16) (wd ws 17) (wd ws 18):=by simp[lnV,p]
  rw[u,p] at b;unfold phV at b;rw[l] at d;obtain⟨E,R⟩:=xq ((ac ws).2);rw[R] at d;by_cases v:wd ws 16=0
  .have f:=hid (show cJ ws=(0,true,[]) by unfold cJ;rw[if_pos l,if_pos v]);rw[v] at b;generalize wd ws 17=F at b;generalize wd ws 18=T at b;clear hr ho l v q y I Q p u R S M O G;go_enter func54,ntmps54;go_wp2_with fail;refine d.out.mono ?_;rintro e U ⟨⟨N,C,rfl,-⟩,a⟩;have m:=hid a;have s:=hid (L.out.up a a.size);clear a;go_wp2_with fail;refine (b.out _ s.out).mono ?_;rintro e Y ⟨rfl,k⟩;have z:=hid (m.out.trans (k.mono m.out.size));clear k;go_wp2;go_ret3;exact⟨⟨none,0,by rw[f.out];rfl,by rw[f.out];exact kq1 _ _ _ _⟩,z.out.alloc z.out.size _⟩
  have f:=hid (show cJ ws=(dX ws,false,dj ws) by unfold cJ;rw[if_pos l,if_neg v]);generalize wd ws 17=F at b O;generalize wd ws 18=T at b G;generalize dX ws=r at o f;generalize dj ws=Z at o f;generalize wd ws 16=P at b v M;have p1:((P:Int)==0)=false:=by rw[kqi];omega
  have X:(P==0)=false:=by rw[kqi];exact v
  have p3:decide (P=0)=false:=by rw[kqc];exact v
  clear hr ho l q y I Q p u R S M O G;go_enter func54,ntmps54;go_wp2_with fail;refine d.out.mono ?_;rintro e U ⟨⟨N,C,rfl,-⟩,a⟩;have m:=hid a;have s:=hid (L.out.up a a.size);clear a;go_wp2_with fail;refine (b.out _ s.out).mono ?_;rintro e Y ⟨rfl,k⟩;have t:=m.out.trans (k.mono m.out.size);have i:=hid (t.alloc t.size (.cells #[.int .i64 (P:Int),.int .i64 (F:Int),.int .i64 (T:Int)] 107));have K:=hid (L.out.up i.out i.out.size);clear k t;go_wp2_with fail;refine (o.out _ K.out).mono ?_;rintro e w3 ⟨⟨A3,V,rfl,g⟩,B⟩;have D:=hid (i.out.trans (B.mono i.out.size));have J:=hid (ar g i.out.size);clear B g;go_wp2;go_ret3;exact⟨⟨A3,V,by rw[f.out];rfl,by rw[f.out];exact J.out⟩,D.out⟩
 have f:=hid (show cJ ws=((ac ws).1,false,(ac ws).2) by unfold cJ;rw[if_neg l]);generalize (ac ws).2=E at d f;generalize (ac ws).1=r at d f l;have p1:((r:Int)==6)=false:=by rw[kqi];exact l
 have X:((r:Int) != 6)=true:=by rw[kqt];exact l
 clear hr ho l;go_enter func54,ntmps54;go_wp2_with fail;refine d.out.mono ?_;rintro e U ⟨⟨N,C,rfl,j⟩,a⟩;have H:=hid j;clear j;go_wp2;go_ret3;exact⟨⟨N,C,by rw[f.out];rfl,by rw[f.out];exact H.out⟩,a⟩
def EN (ws:List Nat) (H:Nat) (e:Ending) (w':World):Prop:=∃(L:List Ch) (B:Option Addr) (d:Nat) (vx:Value),e=.returned (.tuple #[.slice B L.length d,vx,.int .i64 (fH ws).1])/\L.map Ch.l=(fH ws).2.1/\OwnC w' H B d L /\
 ((fH ws).1=0->∃g c,vx=.slice (some ⟨g,0,none⟩) ws.length c/\(fH ws).2.2.length=ws.length/\w'.ownsRow H 53 1 (.slice (some ⟨g,0,none⟩) ws.length c) ws.length ((fH ws).2.2.flatMap au))/\((fH ws).1≠0->vx=.slice none 0 0)
theorem tq{ws:List Nat}{H:Nat}{r:Int}{w':World}(h:fH ws=(r,[],[]))(h0:r≠0):EN ws H (.returned (.tuple #[.slice none 0 0,.slice none 0 0,.int .i64 r])) w':=by refine⟨[],none,0,.slice none 0 0,by rw[h];rfl,by rw[h];rfl,⟨kq1 _ _ _ _,λx b=>by simp at b⟩,λa=>?_,λ_=>rfl⟩;rw[h] at a;exact absurd a h0
theorem rAll_c(A:Option Addr)(ws:List Nat)(c n:Nat)(w:World)(hn:ws.length=n)(hm:n<=9223372036854775807)(hc:n<=c)(R:RdW w w.heap.size A ws)(ho:∀x∈ws,x<18446744073709551616):
 Calls prog 18 #[.slice A n c] w λe w'=>EN ws w.heap.size e w'/\Below w.heap.size w w':=by
 subst hn;have HR:=hid R;have K:=hid (ng A ws c ws.length w rfl hm hc R ho);by_cases T:aw ws=0
 .obtain ⟨-,hs,-,-⟩:=ch T;have hb:=(af _).1 hs;have i:=hid (show fH ws=rsE ws by unfold fH;rw[if_pos T]);rw[T] at K;have Fp:=hid (λW (h:RdW W W.heap.size A ws)=>xK A none ws [] c 0 ws.length 0 W.heap.size W rfl rfl hs (by omega) (λe he=>absurd he (by simp)) h Rd.nil_ (kqb _));unfold OwnV at Fp;simp only[aj] at Fp;have Ga:=hid (λX B x E c d W (hx:x.length=ws.length) (hE:Small ws.length E) (h:RdW W W.heap.size X x) (h2:RdE W W.heap.size B E)=>xK X B x E c d ws.length E.length W.heap.size W hx rfl hs hE.le (λe he=>by have:=hE.ins e he;omega) h h2 (kqb _));unfold OwnV at Ga;have Fy:=hid (λX x c2 W (hx:x.length=ws.length) (hc2:ws.length<=c2) (hox:∀v∈x,v<18446744073709551616) (h:RdW W W.heap.size X x)=>E0 X x c2 ws.length W hx hm hc2 h hox);unfold rT at Fy;have o:=hid (f8 ho);have HO:=hid ho;have hlen:ws.length<=2048:=by omega
  have h16:16<ws.length:=by omega
  have hmz:rzM ws<=3000:=by have:=y7 hs;omega
  obtain⟨i0,hi,Ge,Gl,Fv⟩:=kze pq;have HI:=hid hi;have Gt:=hid Ge;have Gq:=hid Gl;have Gw:=hid Fv;clear hi Ge Gl Fv;clear T hs hb R ho;go_enter func18,ntmps18;go_wp2_with fail;refine K.out.mono ?_;rintro e w1 ⟨rfl,k⟩;have Fo:=hid k;have Gp:=hid (HR.out.up k k.size);clear k;go_wp2_with fail;refine (Fp.out _ Gp.out).mono ?_;rintro e w2 ⟨g2,c2,rfl,s,Gg⟩;have Ja:=hid (Fo.out.trans (Gg.mono Fo.out.size));have Gr:=hid (ar s Fo.out.size);clear s Gg;go_wp2_with fail;go_loopg [6,8] (rzM ws+1) (λgk vx vo wr=>∃(x:List Nat) (L:List Ch) (g cx:Nat),vx=.slice (some ⟨g,0,none⟩) ws.length cx/\x.length=ws.length/\Hid (∀v∈x,v<18446744073709551616)/\Hid (rzM x<gk)/\Hid (kL ws (L.map Ch.l) x)/\L.length+gk<=rzM ws+1/\wr.ownsRow w.heap.size 53 1 (.slice (some ⟨g,0,none⟩) ws.length cx) ws.length (x.flatMap au)/\wr.ownsRow w.heap.size 26 1 vo L.length (L.flatMap Ch.cells)/\Hid (∀y∈L,wr.ownsRow w.heap.size 89 2 (.slice y.A y.l.length y.c) y.l.length (y.l.flatMap En.cells))/\Below w.heap.size w wr)
  case atStart=>exact⟨ws,[],g2,c2,rfl,rfl,HO.out,kj5 _,o.out,by simp,Gr.out,kq1 _ _ _ _,λy j=>absurd j (by simp),Ja.out⟩
  obtain⟨x,L,g,cx,rfl,Eq,Ft,Jf,U,hLg,b,F,Fx,hB⟩:=hrel;have hz:=hB.size;have u:=jt b;have S:=hid b;have Fw:=hid F;have HB:=hid hB;have N:=hid Eq;have HCP:=hid u;have Gv:=hid hz;have Q:=hid (Fy.out (some ⟨g,0,none⟩) x cx wr Eq u Ft.out (Rd.of_own b));have o:=hid (λh hd=>ot U.out Ft.out h hd);have Fq:=hid (λh hd=>qn U.out h hd);have Gn:=hid (λh=>qY U.out h);have I:=hid (λh hd=>v9 Ft.out h hd);obtain⟨r,R⟩:=xq ((cJ x).1);obtain⟨dn,Fr⟩:=xq ((cJ x).2.1);obtain⟨E,hE⟩:=xq ((cJ x).2.2);rw[R,Fr,hE] at Q;rw[R] at Fq Gn o I;rw[Fr] at Fq o I;rw[hE] at o I;clear R hE Fr b F hB Eq u hz;by_cases G:r=0
  .subst G;cases dn with
   | true =>have H:=hid (Fq.out rfl rfl);go_wp2_with fail;refine Q.out.mono ?_;rintro e w3 ⟨⟨A3,c3,rfl,-⟩,a⟩;have m:=hid (HB.out.trans (a.mono HB.out.size));have O:=hid (ae S.out a (kqb _));have f:=hid (ae Fw.out a (kqb _));have M:=hid (λy j=>ae (Fx.out y j) a (kqb _));clear a;obtain⟨Bv,dv,rfl⟩:=ap f.out;go_wp2;go_ret3;exact⟨⟨L,Bv,dv,_,by rw[i.out,H.out];rfl,by rw[i.out,H.out],⟨f.out,M.out⟩,λ_=>⟨g,cx,rfl,by rw[i.out,H.out];exact N.out,by rw[i.out,H.out];exact O.out⟩,λh=>absurd (by rw[i.out,H.out]) h⟩,m.out⟩
   | false =>
    have Fu:=o.out rfl rfl;obtain⟨J,Y,Z⟩:=I.out rfl rfl;rw[N.out] at J;have Fs:=hid (λX B c d W h h2=>Ga.out X B x E c d W N.out J h h2);have P:(aj x E).length=ws.length:=by rw[aE];exact N.out
    rw[P] at Fs;obtain⟨y,j⟩:=xq (aj x E);rw[j] at Fu Y Z Fs P;have Gc:=hid Fu;have Fz:=hid Y;have Gd:=hid Z;have Gu:=hid P;have hEl:E.length<=32:=J.le;clear Fu J Y Z P j;go_wp2_with fail;refine Q.out.mono ?_;rintro e w3 ⟨⟨A3,c3,rfl,t⟩,a⟩;have m:=hid (HB.out.trans (a.mono HB.out.size));have O:=hid (ae S.out a (kqb _));have f:=hid (ae Fw.out a (kqb _));have M:=hid (λy j=>ae (Fx.out y j) a (kqb _));have Gh:=hid (ar t Gv.out);have Gz:=m.out.size;clear a t;go_wp2_with (at_builtin;refine kq9 _ rfl _ _ 34 rfl w.heap.size 26 i0 _ 1 24 underlying34 HI.out Gt.out Gq.out Gw.out rfl (by decide) _ _ _ rfl (f.out.alloc _) ⟨_,0,none⟩ 1 1 [.slice A3 E.length c3] rfl rfl (bn _ _ _) (by simp[Value.oneCell']) (by unfold maxLen;omega) (by omega) (by simp;omega) ?_;intro v1 w4 q p _;have Gj:=am m.out Gz f.out p;have Jb:=hid (cB (O.out.alloc _) p (gK O.out f.out (by decide)));have Gb:=hid (cB (Gh.out.alloc _) p (gK Gh.out f.out (by decide)));have Jc:=hid (λy j=>cB ((M.out y j).alloc _) p (gK (M.out y j) f.out (by decide)));have V:=hid Gj;have Jg:=hid q;clear Gj q p)
    refine (Fs.out _ _ _ _ _ (Rd.of_own Jb.out) (Rd.of_own Gb.out)).mono ?_;rintro e w5 ⟨g5,c5,rfl,D,C⟩;have Jd:=hid (V.out.trans (C.mono V.out.size));have Gx:=hid (ar D V.out.size);have Gy:=hid (ae Jg.out C (kqb _));have Gs:=hid (ae Gb.out C (kqb _));have Je:=hid (λy j=>ae (Jc.out y j) C (kqb _));clear D C;go_wp2_with fail;have Gm:=Jf.out;go_roundg (rzM x)
    case rel =>
     refine⟨y,L++[⟨A3,c3,E⟩],g5,c5,rfl,Gu.out,Fz.out,Gd.out,?_,?_,Gx.out,?_,?_,Jd.out⟩
     .rw[kxu];exact Gc.out
     .rw[kqz];show L.length+1+_<=_;omega
     .have h5:=Gy.out;rw[kqz,kz0];exact h5
     intro z hz;rcases kzt.1 hz with h6|h6
     .exact Je.out z h6
     rw[kq7] at h6;subst h6;exact Gs.out
    case measure=>exact Gm
  have H:=hid (Gn.out G);have Gf:(r != 0)=true:=by rw[kqt];exact G
  have Jh:=hid G;clear G;go_wp2_with fail;refine Q.out.mono ?_;rintro e w3 ⟨⟨A3,c3,rfl,-⟩,a⟩;have m:=hid (HB.out.trans (a.mono HB.out.size));clear a;go_wp2;go_ret3;exact⟨tq (by rw[i.out,H.out]) Jh.out,m.out⟩
 have H:=hid (show fH ws=(aw ws,[],[]) by unfold fH;rw[if_neg T]);have Gf:(aw ws != 0)=true:=by rw[kqt];exact T
 have Gi:=hid T;obtain⟨r,Gk⟩:=xq (aw ws);rw[Gk] at K H Gf Gi;clear R ho T Gk;go_enter func18,ntmps18;go_wp2_with fail;refine K.out.mono ?_;rintro e w1 ⟨rfl,k⟩;go_wp2;go_ret3;exact⟨tq H.out Gi.out,k⟩
end Go.Proofs.YtpcajamacpbjcaaGreat
