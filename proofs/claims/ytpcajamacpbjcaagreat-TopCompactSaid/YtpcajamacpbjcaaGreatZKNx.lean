/- Texts laid together: Fin RsN RsA. -/
import Derived.Test.YtpcajamacpbjcaaGreatZKRs
import Derived.Test.YtpcajamacpbjcaaGreatZKHeap
import Derived.Test.YtpcajamacpbjcaaGreatZKRch
import Derived.Laws.OwnMore
import Derived.Test.YtpcajamacpbjcaaGreatZKStg2
set_option maxHeartbeats 16000000
set_option maxRecDepth 100000
set_option linter.all false
namespace Go.Proofs.YtpcajamacpbjcaaGreat
open Lib (hid)
open Go.RowKit
variable {k:Nat}
open Go.Proofs.Tryz
theorem GM(A:Option Addr)(ws:List Nat)(c n:Nat)(w:World)(hn:ws.length=n)(hm:n<=9223372036854775807)(hc:n<=c)(H:RdW w w.heap.size A ws)(ho:∀x∈ws,x<18446744073709551616):
 Calls prog 104 #[.slice A n c] w λe w'=>e=.returned (.tuple #[.int .i64 (fp ws:Nat),.int .i64 (dK ws)])/\Below w.heap.size w w':=by
 subst hn;have B:=hid H;have k:=hid (λW (h:RdW W W.heap.size A ws)=>kh A ws c ws.length W rfl hm hc h ho);have i:=hid (λW (h:RdW W W.heap.size A ws)=>tM A ws c ws.length W rfl hm hc h ho);have o:=hid (λW (h:RdW W W.heap.size A ws)=>J0 A ws c ws.length W rfl hm hc h ho);clear H ho;by_cases p:ax ws=0
 .have u:=jz p;have F:lnV ws=phV (wd ws 16) (wd ws 17) (wd ws 18):=by simp[lnV,u]
  have j:=hid (λM V=>F0 p M V);have q:=hid (λM=>Fa p M);have G:Hid (dK ws=6->fp ws=0):=hid λh=>by simp[fp,h]
  rw[p] at k o;rw[u,F] at i;unfold phV at i;obtain⟨x,L⟩:=xq (wd ws 16);obtain⟨y,U⟩:=xq (wd ws 17);obtain⟨z,K⟩:=xq (wd ws 18);obtain⟨N,R⟩:=xq (lfN ws);rw[L,U,K] at i;rw[L,R] at j q;rw[K] at j;rw[R] at o;have D:(x=4/\N=0)\/(x=4/\N≠0)\/x≠4:=by omega
  clear p u F L U K R;rcases D with⟨I,J⟩|⟨I,J⟩|I
  .have s:=hid (j.out I J);subst I J;simp only[kzb] at i o;clear j q;go_enter func104,ntmps104;go_wp2_with fail;refine (k.out _ B.out).mono ?_;rintro e T ⟨rfl,a⟩;have f:=hid a;have t:=hid (B.out.up a a.size);clear a;go_wp2_with fail;refine (i.out _ t.out).mono ?_;rintro e Q ⟨rfl,d⟩;have b:=hid ((f.out.trans (d.mono f.out.size)).alloc (by have:=d.size;have:=f.out.size;omega) (.cells #[.int .i64 4,.int .i64 (y:Int),.int .i64 (z:Int)] 107));have C:=hid (B.out.up b.out b.out.size);have l:=hid (Bx.new Q 107 #[.int .i64 4,.int .i64 (y:Int),.int .i64 (z:Int)]);clear d;go_wp2_with fail;refine (o.out _ C.out).mono ?_;rintro e X ⟨rfl,g⟩;have m:=l.out.up g l.out.lt;obtain⟨p0,Y,Z,-⟩:=m.c3;have E:=hid (b.out.trans (g.mono b.out.size));clear g m;go_wp2;go_ret2;exact⟨by rw[s.out.1,s.out.2];rfl,E.out⟩
  all_goals
   have s:=hid (q.out (by omega));have v:=hid (G.out s.out);have O:(x=4/\((x:Int) != 4)=false/\(x != 4)=false/\decide ((0:Int)<(N:Int))=true/\decide (0<N)=true)\/((x:Int) != 4)=true/\(x != 4)=true:=by
    by_cases h:x=4
    .left;exact⟨h,by rw[kqr];omega,by rw[kqr];exact h,by rw[kqo];omega,by rw[kqo];omega⟩
    right;exact⟨by rw[kqv];omega,by rw[kqv];exact h⟩
   clear j q G;(try clear J);clear I;rcases O with⟨-,P,S,hx3,hx4⟩|⟨P,S⟩
   all_goals
    go_enter func104,ntmps104;go_wp2_with fail;refine (k.out _ B.out).mono ?_;rintro e T ⟨rfl,a⟩;have f:=hid a;have t:=hid (B.out.up a a.size);clear a;go_wp2_with fail;refine (i.out _ t.out).mono ?_;rintro e Q ⟨rfl,d⟩;have b:=hid ((f.out.trans (d.mono f.out.size)).alloc (by have:=d.size;have:=f.out.size;omega) (.cells #[.int .i64 (x:Int),.int .i64 (y:Int),.int .i64 (z:Int)] 107));have C:=hid (B.out.up b.out b.out.size);have l:=hid (Bx.new Q 107 #[.int .i64 (x:Int),.int .i64 (y:Int),.int .i64 (z:Int)]);clear d;go_wp2_with fail;refine (o.out _ C.out).mono ?_;rintro e X ⟨rfl,g⟩;have m:=l.out.up g l.out.lt;obtain⟨p0,Y,Z,-⟩:=m.c3;have E:=hid (b.out.trans (g.mono b.out.size));clear g m;go_wp2;go_ret2;exact⟨by rw[s.out,v.out];rfl,E.out⟩
 have s:=hid (Ge (ws:=ws) rfl p);have v:Hid (fp ws=0):=hid (by simp[fp,s.out,p]);obtain⟨r,H⟩:=xq (ax ws);rw[H] at k p s;have hrn:(r != 0)=true:=by rw[kqv];exact p
 clear p H;go_enter func104,ntmps104;go_wp2_with fail;refine (k.out _ B.out).mono ?_;rintro e T ⟨rfl,a⟩;go_wp2;go_ret2;exact⟨by rw[s.out,v.out];rfl,a⟩
theorem I4(A:Option Addr)(ws:List Nat)(c n:Nat)(w:World)(hn:ws.length=n)(hm:n<=9223372036854775807)(hc:n<=c)(f:RdW w w.heap.size A ws)(ho:∀x∈ws,x<18446744073709551616):
 Calls prog 56 #[.slice A n c] w λe w'=>e=.returned (.tuple #[.int .i64 (frN ws:Nat),.int .i64 (dK ws)])/\Below w.heap.size w w':=by
 subst hn;have d:=hid (GM A ws c ws.length w rfl hm hc f ho);clear f ho;by_cases a:dK ws=0
 .obtain ⟨-,-,-,-,-,j,-,k⟩:=gn a;have h:Hid (frN ws=ws.length-fp ws):=hid (by simp[frN,a]);have i:=hid a;rw[<-k] at j;rw[a] at d;obtain⟨t,g⟩:=xq (fp ws);rw[g] at d h j;have hw:IntKind.i64.wrap ((ws.length:Int)-(t:Int))=((ws.length-t:Nat):Int):=by rw[kqt _ (by omega)];omega
  clear g a k;go_enter func56,ntmps56;go_wp2_with fail;refine d.out.mono ?_;rintro e l ⟨rfl,b⟩;go_wp2;go_ret2;exact⟨by rw[h.out,i.out];rfl,b⟩
 have h:Hid (frN ws=0):=hid (by simp[frN,a]);obtain⟨r,f⟩:=xq (dK ws);have i:=hid f;rw[f] at d a;have hrn:(r != 0)=true:=by rw[kqv];exact a
 obtain⟨t,g⟩:=xq (fp ws);rw[g] at d;clear a f g;go_enter func56,ntmps56;go_wp2_with fail;refine d.out.mono ?_;rintro e l ⟨rfl,b⟩;go_wp2;go_ret2;exact⟨by rw[h.out,i.out];rfl,b⟩
theorem Ch.atE{w:World}{B:Nat}{A:Option Addr}{l:List Ch}(h:Rd w B A (l.flatMap Ch.cells))(hk:k<l.length):∃b off,A=some ⟨b,off,none⟩/\b<B/\w.cell? ⟨b,off+k,none⟩=some (.slice l[k].A l[k].l.length l[k].c):=RdC.at_ h hk
def rv (l:List Ch):List En:=l.flatMap Ch.l
theorem Fj(A:Option Addr)(l:List Ch)(c n H:Nat)(w:World)(hn:l.length=n)(hlen:∀k,(rv (l.take k)).length<=1000)(d:∀x∈l,x.l.length<=1000)(hm:n<=1000)(hr:Rd w H A (l.flatMap Ch.cells))(he:∀x∈l,RdE w H x.A x.l/\(x.A=none->x.c=0))(hH:H<=w.heap.size):
 Calls prog 106 #[.slice A n c] w λe w'=>(∃v,e=.returned v/\w'.ownsRow w.heap.size 89 2 v (rv l).length ((rv l).flatMap En.cells))/\Below w.heap.size w w':=by
 subst hn;have S:=hid (hr.more hH);have B:Hid (∀k (h:k<l.length),RdE w w.heap.size l[k].A l[k].l/\(l[k].A=none->l[k].c=0)):=hid λk h=>⟨(he _ (kqn h)).1.more hH,(he _ (kqn h)).2⟩;have M:Hid (∀k (h:k<l.length),l[k].l.length<=1000):=hid λk h=>d _ (kqn h);have C:=hid hlen;have L:Hid (∀k (h:k<l.length),rv (l.take (k+1))=rv (l.take k)++l[k].l):=hid λk h=>by unfold rv;rw[kqp h,kxc];simp
 clear hr he hH hlen d;obtain⟨U,P,q,s,t⟩:=kzr dD;have R:=hid P;have y:=hid q;have G:=hid s;have D:=hid t;clear P q s t;go_enter func106,ntmps106;go_wp2_with fail;go_loopw [3,8] (λv i wr=>∃k:Nat,k<=l.length/\i=.int .i64 k/\wr.ownsRow w.heap.size 89 2 v (rv (l.take k)).length ((rv (l.take k)).flatMap En.cells)/\Below w.heap.size w wr) (λ_ i _=>l.length-(intOf i).toNat)
 case atStart=>exact⟨0,kqz _,rfl,kq6 _ _ _ _,kqk _ _⟩
 obtain⟨k,hk,rfl,a,r⟩:=hrel;have O:=r.size;by_cases g:k<l.length
 .obtain ⟨b,off,rfl,hb,Q⟩:=Ch.atE (Rd.below S.out r) g;obtain⟨f,o⟩:=B.out k g;have d:=M.out k g;have J:=C.out k;have j:=hid (L.out k g);obtain⟨x,N⟩:=xq (l[k]);rw[N] at Q f o d j;obtain⟨T,xc,I⟩:=x;dsimp only at Q f o d j;obtain⟨m,u⟩:=xq (rv (l.take k));rw[u] at a j J;have hk1:(k:Int)<(l.length:Int):=by omega
  have hk0:(0:Int)<=(k:Int):=by omega
  have z:=hid (Rd.below f r);have E:=hid (cm En.cells 2 En.len I);clear N u f o;go_wp2_with (at_builtin;refine aX _ (by rfl) _ _ 26 rfl w.heap.size 89 U _ 2 16 underlying26 R.out y.out G.out D.out rfl (by decide) _ _ _ (by rfl) a w.heap.size T I.length _ (I.flatMap En.cells) (by rfl) E.out z.out (dy En.one _) (by unfold maxLen;omega) (by omega) O ?_;intro v1 wa p F;have K:=bu r O a F);go_roundw
  case rel=>exact⟨k+1,by omega,by go_num,by rw[j.out,kqs,kxc];exact p,K⟩
  case measure=>simp[intOf];omega
 rw[kq8 (by omega)] at a;go_wp2;go_ret;exact⟨⟨_,rfl,a⟩,r⟩
def lnE (k:Nat):List En:=(List.range 3).map λi=>(⟨if i<k then ((16+i:Nat):Int) else 0,0⟩:En)
theorem IL(k:Nat):(lnE k).length=3:=by simp[lnE]
theorem Fm(hk:k<3):lnE (k+1)=(lnE k).set k ⟨16+(k:Int),0⟩:=by
 match k,hk with
 | 0,_=>rfl
 | 1,_=>rfl
 | 2,_=>rfl
theorem J7(hk:k<3):(lnE k)[k]? = some ⟨0,0⟩:=by
 match k,hk with
 | 0,_=>rfl
 | 1,_=>rfl
 | 2,_=>rfl
theorem I5(l:List En)(k:Nat)(x:En)(a:Int)(hk:l[k]? = some x):(l.set k ⟨a,x.v⟩).flatMap En.cells=(l.flatMap En.cells).set (k*2) (.int .i64 a):=
 eO En.cells 2 En.len l k 0 (by omega) ⟨a,x.v⟩ (.int .i64 a) (λy b=>by rw[hk] at b;cases b;rfl)
theorem Ew:(madeCells #[Value.int .i64 0,.int .u64 0] (3*2)).toList=(lnE 0).flatMap En.cells:=by kernel_rfl
theorem pX(A:Option Addr)(ws:List Nat)(c n:Nat)(w:World)(hn:ws.length=n)(hm:n<=9223372036854775807)(hc:n<=c)(L:RdW w w.heap.size A ws)(ho:∀x∈ws,x<18446744073709551616):
 Calls prog 57 #[.slice A n c] w λe w'=>fL w.heap.size (dK ws) (dp ws) e w'/\Below w.heap.size w w':=by
 subst hn;have M:=hid (GM A ws c ws.length w rfl hm hc L ho);clear L ho;by_cases q:dK ws=0
 .obtain ⟨hs,-,-,-,h5,h6,-,h8⟩:=gn q;have hb:=(ab _).1 hs;have hi:=(a9 _).1 h5;rw[<-h8] at hi h6;have J:=hid (λh=>uu q h);have HE:=hid q;have d:Hid (dp ws=phE 0 0 0++(if fp ws=ws.length then [] else [⟨(fp ws:Int),cS (du (ws.length-fp ws))⟩,⟨((fp ws+1:Nat):Int),0⟩])):=hid (by simp[dp,q]);rw[q] at M;obtain⟨t,ht⟩:=xq (fp ws);rw[ht] at M J d hi h6;have hlen:ws.length<=2048:=by omega
  have ht1:t<=2048:=hi.2.1;obtain⟨i0,R,N,Kx,V⟩:=kzr dD;have u:=hid (And.intro R (And.intro N (And.intro Kx V)));clear ht q h8 h5 hs hb hi R N Kx V;go_enter func57,ntmps57;go_wp2_with fail;refine M.out.mono ?_;rintro e b ⟨rfl,y⟩;obtain⟨W0,Ky,l,Q⟩:=run_make_full (P:=prog) b b.heap.size 26 89 i0 (.agg #[.int .i64 0,.int .u64 0]) 2 underlying26 u.out.1 u.out.2.1 u.out.2.2.1 .i64 .i64 3 (by rw[u.out.2.2.2];omega) (by unfold maxLen;omega) (kqa _);have m:W0.ownsRow b.heap.size 89 2 (.slice (some ⟨b.heap.size,0,none⟩) 3 3) 3 ((lnE 0).flatMap En.cells):=by rw[<-Ew];exact l
  have La:=hid m;have o:=hid y;have Ld:=hid ((kqk b.heap.size b).grown Q (kqa _) (λk hk=>by cases hk));simp only[kzb] at Ky;clear l Q m y;go_wp2_with fail;clear Ky;go_loopw [19] (λi wr=>∃k:Nat,k<=3/\i=.int .i64 k/\wr.ownsRow b.heap.size 89 2 (.slice (some ⟨b.heap.size,0,none⟩) 3 3) 3 ((lnE k).flatMap En.cells)/\Below b.heap.size b wr) (λi _=>3-(intOf i).toNat)
  case atStart=>exact⟨0,kqz _,rfl,La.out,Ld.out⟩
  obtain⟨k,hk,rfl,a,hB⟩:=hrel;have hz:=hB.size;by_cases S:k<3
  .have HS:=hid (show (lnE (k+1)).flatMap En.cells=((lnE k).flatMap En.cells).set (k*2) (.int .i64 (16+(k:Int))) by
    rw[Fm S];exact I5 _ _ ⟨0,0⟩ _ (J7 S))
   obtain⟨u0,U⟩:∃u0,((lnE k).flatMap En.cells)[k*2]? = some u0:=⟨_,kql (by rw[cm En.cells 2 En.len,IL];omega)⟩;have d0:=(a.cellAt (k*2) (by omega)).trans U;have e0:=a.frozenAt (k*2);have j:=hid a;have hk1:(k:Int)<3:=by omega
   have hk0:(0:Int)<=(k:Int):=by omega
   clear U a;go_wp2;go_roundw
   case rel=>exact⟨k+1,by omega,by go_num,by rw[HS.out];exact (j.out.stored (k*2) _).1,hB.setCell (p:=⟨b.heap.size,k*2,none⟩) (kqa _) _⟩
   case measure=>simp[intOf];omega
  obtain rfl:k=3:=by omega
  rw[show lnE 3=phE 0 0 0 from rfl] at a;have j:=hid a;clear a;by_cases g:t=ws.length
  .have Le:((t:Int)==(ws.length:Int))=true:=by rw[kqx];omega
   have Eq:(t==ws.length)=true:=by rw[kqx];exact g
   have C:=hid (show dp ws=phE 0 0 0 by rw[d.out,if_pos g,kzt]);clear g d;go_wp2;go_ret2;exact⟨⟨some ⟨b.heap.size,0,none⟩,3,by rw[C.out,HE.out];rfl,by rw[C.out];exact am j.out o.out.size⟩,o.out.trans (hB.mono o.out.size)⟩
  have Le:((t:Int)==(ws.length:Int))=false:=by rw[kqi];omega
  have Eq:(t==ws.length)=false:=by rw[kqi];exact g
  have C:=hid (show dp ws=phE 0 0 0++[⟨(t:Int),cS (du (ws.length-t))⟩,⟨((t+1:Nat):Int),0⟩] by rw[d.out,if_neg g]);have E:=J.out g;have B:=hid (λW=>qw (du (ws.length-t)) W);rw[show jH (du (ws.length-t))=cS (du (ws.length-t)) by simp[jH,E],js E] at B;rw[show (du (ws.length-t)).val=.agg #[.int .i64 0,.int .i64 ((ws.length-t:Nat):Int),.int .i64 2,.int .i64 0,.bool false,.int .u64 0] from rfl] at B;have hws:IntKind.i64.wrap ((ws.length:Int)-(t:Int))=((ws.length-t:Nat):Int):=by rw[kqt _ (by omega)];omega
  have hwt:IntKind.i64.wrap ((t:Int)+1)=(t:Int)+1:=kqt _ (by omega);obtain⟨z,Kw⟩:=xq (cS (du (ws.length-t)));rw[Kw] at B C;have T:=hid (o.out.trans (hB.mono o.out.size));clear g d J E Kw;go_wp2_with fail;refine (B.out _).mono ?_;rintro e s ⟨rfl,D⟩;have G:=hid (T.out.trans (D.mono T.out.size));have Lf:=hid (aa j.out D (kqa _));clear D;go_wp2_with fail;have K:=Bx.new s 89 #[.int .i64 (t:Int),.int .u64 (z:Int),.int .i64 ((t:Int)+1),.int .u64 0];have x1:=Bx.new (s.alloc (.cells #[.int .i64 (t:Int),.int .u64 (z:Int),.int .i64 ((t:Int)+1),.int .u64 0] 89)) 26 #[.slice (some ⟨b.heap.size,0,none⟩) 3 3,.slice (some ⟨s.heap.size,0,none⟩) 2 2];simp only[kqm] at x1;have H:=(G.out.alloc G.out.size (.cells #[.int .i64 (t:Int),.int .u64 (z:Int),.int .i64 ((t:Int)+1),.int .u64 0] 89)).alloc (aS G.out.size) (.cells #[.slice (some ⟨b.heap.size,0,none⟩) 3 3,.slice (some ⟨s.heap.size,0,none⟩) 2 2] 26);have I:=(Lf.out.alloc (.cells #[.int .i64 (t:Int),.int .u64 (z:Int),.int .i64 ((t:Int)+1),.int .u64 0] 89)).alloc (.cells #[.slice (some ⟨b.heap.size,0,none⟩) 3 3,.slice (some ⟨s.heap.size,0,none⟩) 2 2] 26);replace K:=K.alloc (.cells #[.slice (some ⟨b.heap.size,0,none⟩) 3 3,.slice (some ⟨s.heap.size,0,none⟩) 2 2] 26)
  obtain⟨Z,hZ⟩:∃Z,(s.alloc (.cells #[.int .i64 (t:Int),.int .u64 (z:Int),.int .i64 ((t:Int)+1),.int .u64 0] 89)).alloc (.cells #[.slice (some ⟨b.heap.size,0,none⟩) 3 3,.slice (some ⟨s.heap.size,0,none⟩) 2 2] 26)=Z:=⟨_,rfl⟩;rw[hZ] at K x1 H I |-;clear hZ;have O:=kjn t 1;have HJ:=Fj (some ⟨s.heap.size+1,0,none⟩) [⟨some ⟨b.heap.size,0,none⟩,3,phE 0 0 0⟩,⟨some ⟨s.heap.size,0,none⟩,2,[⟨(t:Int),z⟩,⟨((t+1:Nat):Int),0⟩]⟩] 2 2 Z.heap.size Z rfl (λk=>by
   match k with
   | 0=>show (0:Nat)<=1000;omega
   | 1=>show (3:Nat)<=1000;omega
   | k+2=>rw[kq8 (by simp)];show (5:Nat)<=1000;omega) (λx hx=>by
   simp only[kqw,kzk,or_false] at hx;rcases hx with rfl|rfl
   .show (3:Nat)<=1000;omega
   .show (2:Nat)<=1000;omega) (by omega) (show Rd Z _ _ _ from Rd.of_box x1 x1.lt) (λx hx=>by
   simp only[kqw,kzk,or_false] at hx;rcases hx with rfl|rfl
   .exact ⟨Rd.of_own I,λh=>by cases h⟩
   refine⟨?_,λh=>by cases h⟩;have:=Rd.of_box K K.lt;show Rd Z _ _ [.int .i64 (t:Int),.int .u64 (z:Int),.int .i64 ((t+1:Nat):Int),.int .u64 ((0:Nat):Int)];rw[O];exact this) (kqa _)
  have Lg:=hid HJ;have F:=hid H;clear HJ K x1 H I O;refine Lg.out.mono ?_;rintro e w5 ⟨⟨v,rfl,f⟩,Y⟩;obtain⟨A5,c5,rfl,Kz,X⟩:=kr f;have Lc:=hid (am f F.out.size);have Lb:=hid (F.out.trans (Y.mono F.out.size));clear f X Kz Y;go_wp2;go_ret2;exact⟨⟨A5,c5,by rw[C.out,HE.out];rfl,by rw[C.out];exact Lc.out⟩,Lb.out⟩
 have ho:dp ws=[]:=by simp[dp,q]
 have C:=hid ho;obtain⟨r,L⟩:=xq (dK ws);have HE:=hid L;rw[L] at M q;have hrn:(r != 0)=true:=by rw[kqv];exact q
 obtain⟨t,ht⟩:=xq (fp ws);rw[ht] at M;clear q L ht ho;go_enter func57,ntmps57;go_wp2_with fail;refine M.out.mono ?_;rintro e b ⟨rfl,y⟩;go_wp2;go_ret2;exact⟨bN HE.out C.out,y⟩
def IB (H:Nat) (r:Int) (d:Bool) (E:List En) (e:Ending) (w':World):Prop:=∃A c,e=.returned (.tuple #[.slice A E.length c,.bool d,.int .i64 r])/\w'.ownsRow H 89 2 (.slice A E.length c) E.length (E.flatMap En.cells)
theorem DJ(A:Option Addr)(ws:List Nat)(c n:Nat)(w:World)(hn:ws.length=n)(hm:n<=9223372036854775807)(hc:n<=c)(hr:RdW w w.heap.size A ws)(ho:∀x∈ws,x<18446744073709551616):
 Calls prog 54 #[.slice A n c] w λe w'=>IB w.heap.size (de ws).1 (de ws).2.1 (de ws).2.2 e w'/\Below w.heap.size w w':=by
 subst hn;have K:=hid hr;have d:=hid (CE A ws c ws.length w rfl hm hc hr ho);have b:=hid (λW (h:RdW W W.heap.size A ws)=>tM A ws c ws.length W rfl hm hc h ho);have p:=hid (λW (h:RdW W W.heap.size A ws)=>pX A ws c ws.length W rfl hm hc h ho);unfold fL at d p;by_cases l:(ag ws).1=6
 .have q:=Hf l;obtain⟨y,L,C,-⟩:=cQ q;have U:=(ab _).1 L;obtain⟨⟨G,Q,I⟩,-⟩:=(bE ws).1 C;have o:=jz q;have s:lnV ws=phV (wd ws 16) (wd ws 17) (wd ws 18):=by simp[lnV,o]
  rw[s,o] at b;unfold phV at b;rw[l] at d;obtain⟨E,M⟩:=xq ((ag ws).2);rw[M] at d;by_cases v:wd ws 16=0
  .have f:=hid (show de ws=(0,true,[]) by unfold de;rw[if_pos l,if_pos v]);rw[v] at b;generalize wd ws 17=F at b;generalize wd ws 18=T at b;clear hr ho l v q y L C o s M U G Q I;go_enter func54,ntmps54;go_wp2_with fail;refine d.out.mono ?_;rintro e S ⟨⟨D,N,rfl,-⟩,a⟩;have j:=hid a;have t:=hid (K.out.up a a.size);clear a;go_wp2_with fail;refine (b.out _ t.out).mono ?_;rintro e w2 ⟨rfl,i⟩;have z:=hid (j.out.trans (i.mono j.out.size));clear i;go_wp2;go_ret3;exact⟨⟨none,0,by rw[f.out];rfl,by rw[f.out];exact kq6 _ _ _ _⟩,z.out.alloc z.out.size _⟩
  have f:=hid (show de ws=(dK ws,false,dp ws) by unfold de;rw[if_pos l,if_neg v]);generalize wd ws 17=F at b Q;generalize wd ws 18=T at b I;generalize dK ws=r at p f;generalize dp ws=Z at p f;generalize wd ws 16=P at b v G;have X:((P:Int)==0)=false:=by rw[kqi];omega
  have p2:(P==0)=false:=by rw[kqi];exact v
  have p3:decide (P=0)=false:=by rw[kqh];exact v
  clear hr ho l q y L C o s M U G Q I;go_enter func54,ntmps54;go_wp2_with fail;refine d.out.mono ?_;rintro e S ⟨⟨D,N,rfl,-⟩,a⟩;have j:=hid a;have t:=hid (K.out.up a a.size);clear a;go_wp2_with fail;refine (b.out _ t.out).mono ?_;rintro e w2 ⟨rfl,i⟩;have u:=j.out.trans (i.mono j.out.size);have k:=hid (u.alloc u.size (.cells #[.int .i64 (P:Int),.int .i64 (F:Int),.int .i64 (T:Int)] 107));have J:=hid (K.out.up k.out k.out.size);clear i u;go_wp2_with fail;refine (p.out _ J.out).mono ?_;rintro e w3 ⟨⟨V,Y,rfl,g⟩,B⟩;have O:=hid (k.out.trans (B.mono k.out.size));have H:=hid (am g k.out.size);clear B g;go_wp2;go_ret3;exact⟨⟨V,Y,by rw[f.out];rfl,by rw[f.out];exact H.out⟩,O.out⟩
 have f:=hid (show de ws=((ag ws).1,false,(ag ws).2) by unfold de;rw[if_neg l]);generalize (ag ws).2=E at d f;generalize (ag ws).1=r at d f l;have X:((r:Int)==6)=false:=by rw[kqi];exact l
 have p2:((r:Int) != 6)=true:=by rw[kqv];exact l
 clear hr ho l;go_enter func54,ntmps54;go_wp2_with fail;refine d.out.mono ?_;rintro e S ⟨⟨D,N,rfl,m⟩,a⟩;have R:=hid m;clear m;go_wp2;go_ret3;exact⟨⟨D,N,by rw[f.out];rfl,by rw[f.out];exact R.out⟩,a⟩
def AU (ws:List Nat) (H:Nat) (e:Ending) (w':World):Prop:=∃(L:List Ch) (B:Option Addr) (d:Nat) (vx:Value),e=.returned (.tuple #[.slice B L.length d,vx,.int .i64 (f9 ws).1])/\L.map Ch.l=(f9 ws).2.1/\OwnC w' H B d L /\
 ((f9 ws).1=0->∃g c,vx=.slice (some ⟨g,0,none⟩) ws.length c/\(f9 ws).2.2.length=ws.length/\w'.ownsRow H 53 1 (.slice (some ⟨g,0,none⟩) ws.length c) ws.length ((f9 ws).2.2.flatMap ae))/\((f9 ws).1≠0->vx=.slice none 0 0)
theorem vI{ws:List Nat}{H:Nat}{r:Int}{w':World}(h:f9 ws=(r,[],[]))(h0:r≠0):AU ws H (.returned (.tuple #[.slice none 0 0,.slice none 0 0,.int .i64 r])) w':=by refine⟨[],none,0,.slice none 0 0,by rw[h];rfl,by rw[h];rfl,⟨kq6 _ _ _ _,λx b=>by simp at b⟩,λa=>?_,λ_=>rfl⟩;rw[h] at a;exact absurd a h0
theorem D5(A:Option Addr)(ws:List Nat)(c n:Nat)(w:World)(hn:ws.length=n)(hm:n<=9223372036854775807)(hc:n<=c)(S:RdW w w.heap.size A ws)(ho:∀x∈ws,x<18446744073709551616):
 Calls prog 18 #[.slice A n c] w λe w'=>AU ws w.heap.size e w'/\Below w.heap.size w w':=by
 subst hn;have HR:=hid S;have I:=hid (kh A ws c ws.length w rfl hm hc S ho);by_cases T:ax ws=0
 .obtain ⟨-,hs,-,-⟩:=cQ T;have hb:=(ab _).1 hs;have j:=hid (show f9 ws=rsE ws by unfold f9;rw[if_pos T]);rw[T] at I;have X:=hid (λW (h:RdW W W.heap.size A ws)=>pO A none ws [] c 0 ws.length 0 W.heap.size W rfl rfl hs (by omega) (λe he=>absurd he (by simp)) h Rd.nil_ (kqa _));unfold Cn at X;simp only[ai] at X;have Lt:=hid (λA2 B x E c d W (hx:x.length=ws.length) (hE:Small ws.length E) (h:RdW W W.heap.size A2 x) (h2:RdE W W.heap.size B E)=>pO A2 B x E c d ws.length E.length W.heap.size W hx rfl hs hE.le (λe he=>by have:=hE.ins e he;omega) h h2 (kqa _));unfold Cn at Lt;have Lr:=hid (λA2 x c2 W (hx:x.length=ws.length) (hc2:ws.length<=c2) (hox:∀v∈x,v<18446744073709551616) (h:RdW W W.heap.size A2 x)=>DJ A2 x c2 ws.length W hx hm hc2 h hox);unfold IB at Lr;have k:=hid (jd ho);have HO:=hid ho;have hlen:ws.length<=2048:=by omega
  have h16:16<ws.length:=by omega
  have hmz:rzM ws<=3000:=by have:=Hu hs;omega
  obtain⟨i0,hi,Lc,Ls,Lk⟩:=kzr oE;have HI:=hid hi;have Mm:=hid Lc;have Ml:=hid Ls;have Mb:=hid Lk;clear hi Lc Ls Lk;clear T hs hb S ho;go_enter func18,ntmps18;go_wp2_with fail;refine I.out.mono ?_;rintro e w1 ⟨rfl,i⟩;have Kx:=hid i;have Mh:=hid (HR.out.up i i.size);clear i;go_wp2_with fail;refine (X.out _ Mh.out).mono ?_;rintro e w2 ⟨g2,c2,rfl,s,Le⟩;have Mo:=hid (Kx.out.trans (Le.mono Kx.out.size));have Lz:=hid (am s Kx.out.size);clear s Le;go_wp2_with fail;go_loopg [6,8] (rzM ws+1) (λgk vx vo wr=>∃(x:List Nat) (L:List Ch) (g cx:Nat),vx=.slice (some ⟨g,0,none⟩) ws.length cx/\x.length=ws.length/\Hid (∀v∈x,v<18446744073709551616)/\Hid (rzM x<gk)/\Hid (mj ws (L.map Ch.l) x)/\L.length+gk<=rzM ws+1/\wr.ownsRow w.heap.size 53 1 (.slice (some ⟨g,0,none⟩) ws.length cx) ws.length (x.flatMap ae)/\wr.ownsRow w.heap.size 26 1 vo L.length (L.flatMap Ch.cells)/\Hid (∀y∈L,wr.ownsRow w.heap.size 89 2 (.slice y.A y.l.length y.c) y.l.length (y.l.flatMap En.cells))/\Below w.heap.size w wr)
  case atStart=>exact⟨ws,[],g2,c2,rfl,rfl,HO.out,kjs _,k.out,by simp,Lz.out,kq6 _ _ _ _,λy m=>absurd m (by simp),Mo.out⟩
  obtain⟨x,L,g,cx,rfl,La,Ky,Me,Lb,hLg,b,G,Lo,hB⟩:=hrel;have hz:=hB.size;have D:=cK b;have R:=hid b;have Lg:=hid G;have HB:=hid hB;have Q:=hid La;have HCP:=hid D;have Md:=hid hz;have O:=hid (Lr.out (some ⟨g,0,none⟩) x cx wr La D Ky.out (Rd.of_own b));have k:=hid (λh hd=>xW Lb.out Ky.out h hd);have Kz:=hid (λh hd=>AJ Lb.out h hd);have Lp:=hid (λh=>CX Lb.out h);have M:=hid (λh hd=>rY Ky.out h hd);obtain⟨r,S⟩:=xq ((de x).1);obtain⟨dn,V⟩:=xq ((de x).2.1);obtain⟨E,hE⟩:=xq ((de x).2.2);rw[S,V,hE] at O;rw[S] at Kz Lp k M;rw[V] at Kz k M;rw[hE] at k M;clear S hE V b G hB La D hz;by_cases p:r=0
  .subst p;cases dn with
   | true =>have H:=hid (Kz.out rfl rfl);go_wp2_with fail;refine O.out.mono ?_;rintro e w3 ⟨⟨A3,c3,rfl,-⟩,a⟩;have o:=hid (HB.out.trans (a.mono HB.out.size));have P:=hid (aa R.out a (kqa _));have f:=hid (aa Lg.out a (kqa _));have N:=hid (λy m=>aa (Lo.out y m) a (kqa _));clear a;obtain⟨Bv,dv,rfl⟩:=aE f.out;go_wp2;go_ret3;exact⟨⟨L,Bv,dv,_,by rw[j.out,H.out];rfl,by rw[j.out,H.out],⟨f.out,N.out⟩,λ_=>⟨g,cx,rfl,by rw[j.out,H.out];exact Q.out,by rw[j.out,H.out];exact P.out⟩,λh=>absurd (by rw[j.out,H.out]) h⟩,o.out⟩
   | false =>
    have Kw:=k.out rfl rfl;obtain⟨K,Y,U⟩:=M.out rfl rfl;rw[Q.out] at K;have Z:=hid (λA2 B c d W h h2=>Lt.out A2 B x E c d W Q.out K h h2);have J:(ai x E).length=ws.length:=by rw[au];exact Q.out
    rw[J] at Z;obtain⟨y,m⟩:=xq (ai x E);rw[m] at Kw Y U Z J;have Lh:=hid Kw;have Ln:=hid Y;have Ld:=hid U;have Ly:=hid J;have hEl:E.length<=32:=K.le;clear Kw K Y U J m;go_wp2_with fail;refine O.out.mono ?_;rintro e w3 ⟨⟨A3,c3,rfl,q⟩,a⟩;have o:=hid (HB.out.trans (a.mono HB.out.size));have P:=hid (aa R.out a (kqa _));have f:=hid (aa Lg.out a (kqa _));have N:=hid (λy m=>aa (Lo.out y m) a (kqa _));have Lf:=hid (am q Md.out);have Ma:=o.out.size;clear a q;go_wp2_with (at_builtin;refine kzh _ rfl _ _ 34 rfl w.heap.size 26 i0 _ 1 24 underlying34 HI.out Mm.out Ml.out Mb.out rfl (by decide) _ _ _ rfl (f.out.alloc _) ⟨_,0,none⟩ 1 1 [.slice A3 E.length c3] rfl rfl (cI _ _ _) (by simp[Value.oneCell']) (by unfold maxLen;omega) (by omega) (by simp;omega) ?_;intro v1 w4 t F _;have Li:=aF o.out Ma f.out F;have Mi:=hid (aN (P.out.alloc _) F (dg P.out f.out (by decide)));have Lu:=hid (aN (Lf.out.alloc _) F (dg Lf.out f.out (by decide)));have Lx:=hid (λy m=>aN ((N.out y m).alloc _) F (dg (N.out y m) f.out (by decide)));have Eq:=hid Li;have Mn:=hid t;clear Li t F)
    refine (Z.out _ _ _ _ _ (Rd.of_own Mi.out) (Rd.of_own Lu.out)).mono ?_;rintro e w5 ⟨g5,c5,rfl,u,C⟩;have Lw:=hid (Eq.out.trans (C.mono Eq.out.size));have Lv:=hid (am u Eq.out.size);have Mj:=hid (aa Mn.out C (kqa _));have Mg:=hid (aa Lu.out C (kqa _));have Mf:=hid (λy m=>aa (Lx.out y m) C (kqa _));clear u C;go_wp2_with fail;have Lm:=Me.out;go_roundg (rzM x)
    case rel =>
     refine⟨y,L++[⟨A3,c3,E⟩],g5,c5,rfl,Ly.out,Ln.out,Ld.out,?_,?_,Lv.out,?_,?_,Lw.out⟩
     .rw[kxu];exact Lh.out
     .rw[kqs];show L.length+1+_<=_;omega
     .have h5:=Mj.out;rw[kqs,kxc];exact h5
     intro z hz;rcases kzo.1 hz with h6|h6
     .exact Mf.out z h6
     rw[kqy] at h6;subst h6;exact Mg.out
    case measure=>exact Lm
  have H:=hid (Lp.out p);have Lq:(r != 0)=true:=by rw[kqv];exact p
  have Mc:=hid p;clear p;go_wp2_with fail;refine O.out.mono ?_;rintro e w3 ⟨⟨A3,c3,rfl,-⟩,a⟩;have o:=hid (HB.out.trans (a.mono HB.out.size));clear a;go_wp2;go_ret3;exact⟨vI (by rw[j.out,H.out]) Mc.out,o.out⟩
 have H:=hid (show f9 ws=(ax ws,[],[]) by unfold f9;rw[if_neg T]);have Lq:(ax ws != 0)=true:=by rw[kqv];exact T
 have Lj:=hid T;obtain⟨r,Ll⟩:=xq (ax ws);rw[Ll] at I H Lq Lj;clear S ho T Ll;go_enter func18,ntmps18;go_wp2_with fail;refine I.out.mono ?_;rintro e w1 ⟨rfl,i⟩;go_wp2;go_ret3;exact⟨vI H.out Lj.out,i⟩
end Go.Proofs.YtpcajamacpbjcaaGreat
