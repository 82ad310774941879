/- Texts laid together: Fin RsN RsA. -/
import Derived.Test.YtpcajamacpbjcaaGreatZKRs
import Derived.Test.YtpcajamacpbjcaaGreatZKHeap
import Derived.Test.YtpcajamacpbjcaaGreatZKRch
import Derived.Laws.OwnMore
import Derived.Test.YtpcajamacpbjcaaGreatZKStg2
set_option maxHeartbeats 16000000
set_option maxRecDepth 100000
set_option linter.all false
namespace Go.Proofs.YtpcajamacpbjcaaGreat
open Lib (hid)
open Go.RowKit
variable {k:Nat}
open Go.Proofs.Tryz
theorem fEnd_c(A:Option Addr)(ws:List Nat)(c n:Nat)(w:World)(hn:ws.length=n)(hm:n<=9223372036854775807)(hc:n<=c)(I:RdW w w.heap.size A ws)(ho:∀x∈ws,x<18446744073709551616):
 Calls prog 104 #[.slice A n c] w λe w'=>e=.returned (.tuple #[.int .i64 (fj ws:Nat),.int .i64 (el ws)])/\Below w.heap.size w w':=by
 subst hn;have B:=hid I;have o:=hid (λW (h:RdW W W.heap.size A ws)=>mG A ws c ws.length W rfl hm hc h ho);have i:=hid (λW (h:RdW W W.heap.size A ws)=>tP A ws c ws.length W rfl hm hc h ho);have k:=hid (λW (h:RdW W W.heap.size A ws)=>Il A ws c ws.length W rfl hm hc h ho);clear I ho;by_cases p:aw ws=0
 .have v:=ky p;have G:lnV ws=phV (wd ws 16) (wd ws 17) (wd ws 18):=by simp[lnV,v]
  have m:=hid (λQ h3=>Dk p Q h3);have s:=hid (λQ=>Dt p Q);have H:Hid (el ws=6->fj ws=0):=hid λh=>by simp[fj,h]
  rw[p] at o k;rw[v,G] at i;unfold phV at i;obtain⟨x,S⟩:=xq (wd ws 16);obtain⟨y,T⟩:=xq (wd ws 17);obtain⟨z,R⟩:=xq (wd ws 18);obtain⟨N,L⟩:=xq (lfN ws);rw[S,T,R] at i;rw[S,L] at m s;rw[R] at m;rw[L] at k;have C:(x=4/\N=0)\/(x=4/\N≠0)\/x≠4:=by omega
  clear p v G S T R L;rcases C with⟨F,J⟩|⟨F,J⟩|F
  .have q:=hid (m.out F J);subst F J;simp only[kq7] at i k;clear m s;go_enter func104,ntmps104;go_wp2_with fail;refine (o.out _ B.out).mono ?_;rintro e U ⟨rfl,a⟩;have f:=hid a;have E:=hid (B.out.up a a.size);clear a;go_wp2_with fail;refine (i.out _ E.out).mono ?_;rintro e M ⟨rfl,g⟩;have b:=hid ((f.out.trans (g.mono f.out.size)).alloc (by have:=g.size;have:=f.out.size;omega) (.cells #[.int .i64 4,.int .i64 (y:Int),.int .i64 (z:Int)] 107));have u:=hid (B.out.up b.out b.out.size);have j:=hid (Bx.new M 107 #[.int .i64 4,.int .i64 (y:Int),.int .i64 (z:Int)]);clear g;go_wp2_with fail;refine (k.out _ u.out).mono ?_;rintro e X ⟨rfl,d⟩;have l:=j.out.up d j.out.lt;obtain⟨Z,Y,V,-⟩:=l.c3;have D:=hid (b.out.trans (d.mono b.out.size));clear d l;go_wp2;go_ret2;exact⟨by rw[q.out.1,q.out.2];rfl,D.out⟩
  all_goals
   have q:=hid (s.out (by omega));have t:=hid (H.out q.out);have P:(x=4/\((x:Int) != 4)=false/\(x != 4)=false/\decide ((0:Int)<(N:Int))=true/\decide (0<N)=true)\/((x:Int) != 4)=true/\(x != 4)=true:=by
    by_cases h:x=4
    .left;exact⟨h,by rw[kqq];omega,by rw[kqq];exact h,by rw[kqn];omega,by rw[kqn];omega⟩
    right;exact⟨by rw[kqv];omega,by rw[kqv];exact h⟩
   clear m s H;(try clear J);clear F;rcases P with⟨-,O,K,hx3,hx4⟩|⟨O,K⟩
   all_goals
    go_enter func104,ntmps104;go_wp2_with fail;refine (o.out _ B.out).mono ?_;rintro e U ⟨rfl,a⟩;have f:=hid a;have E:=hid (B.out.up a a.size);clear a;go_wp2_with fail;refine (i.out _ E.out).mono ?_;rintro e M ⟨rfl,g⟩;have b:=hid ((f.out.trans (g.mono f.out.size)).alloc (by have:=g.size;have:=f.out.size;omega) (.cells #[.int .i64 (x:Int),.int .i64 (y:Int),.int .i64 (z:Int)] 107));have u:=hid (B.out.up b.out b.out.size);have j:=hid (Bx.new M 107 #[.int .i64 (x:Int),.int .i64 (y:Int),.int .i64 (z:Int)]);clear g;go_wp2_with fail;refine (k.out _ u.out).mono ?_;rintro e X ⟨rfl,d⟩;have l:=j.out.up d j.out.lt;obtain⟨Z,Y,V,-⟩:=l.c3;have D:=hid (b.out.trans (d.mono b.out.size));clear d l;go_wp2;go_ret2;exact⟨by rw[q.out,t.out];rfl,D.out⟩
 have q:=hid (Ef (ws:=ws) rfl p);have t:Hid (fj ws=0):=hid (by simp[fj,q.out,p]);obtain⟨r,I⟩:=xq (aw ws);rw[I] at o p q;have hrn:(r != 0)=true:=by rw[kqv];exact p
 clear p I;go_enter func104,ntmps104;go_wp2_with fail;refine (o.out _ B.out).mono ?_;rintro e U ⟨rfl,a⟩;go_wp2;go_ret2;exact⟨by rw[q.out,t.out];rfl,a⟩
theorem Ch.atE{w:World}{B:Nat}{A:Option Addr}{l:List Ch}(h:Rd w B A (l.flatMap Ch.cells))(hk:k<l.length):∃b off,A=some ⟨b,off,none⟩/\b<B/\w.cell? ⟨b,off+k,none⟩=some (.slice l[k].A l[k].l.length l[k].c):=RdC.at_ h hk
def pV (l:List Ch):List En:=l.flatMap Ch.l
theorem DQ(A:Option Addr)(l:List Ch)(c n H:Nat)(w:World)(hn:l.length=n)(hlen:∀k,(pV (l.take k)).length<=1000)(d:∀x∈l,x.l.length<=1000)(hm:n<=1000)(hr:Rd w H A (l.flatMap Ch.cells))(he:∀x∈l,RdE w H x.A x.l/\(x.A=none->x.c=0))(hH:H<=w.heap.size):
 Calls prog 106 #[.slice A n c] w λe w'=>(∃v,e=.returned v/\w'.ownsRow w.heap.size 89 2 v (pV l).length ((pV l).flatMap En.cells))/\Below w.heap.size w w':=by
 subst hn;have U:=hid (hr.more hH);have E:Hid (∀k (h:k<l.length),RdE w w.heap.size l[k].A l[k].l/\(l[k].A=none->l[k].c=0)):=hid λk h=>⟨(he _ (kqp h)).1.more hH,(he _ (kqp h)).2⟩;have C:Hid (∀k (h:k<l.length),l[k].l.length<=1000):=hid λk h=>d _ (kqp h);have z:=hid hlen;have I:Hid (∀k (h:k<l.length),pV (l.take (k+1))=pV (l.take k)++l[k].l):=hid λk h=>by unfold pV;rw[kqo h,kxi];simp
 clear hr he hH hlen d;obtain⟨T,O,r,s,u⟩:=kzv dm;have R:=hid O;have B:=hid r;have F:=hid s;have D:=hid u;clear O r s u;go_enter func106,ntmps106;go_wp2_with fail;go_loopw [3,8] (λv i wr=>∃k:Nat,k<=l.length/\i=.int .i64 k/\wr.ownsRow w.heap.size 89 2 v (pV (l.take k)).length ((pV (l.take k)).flatMap En.cells)/\Below w.heap.size w wr) (λ_ i _=>l.length-(intOf i).toNat)
 case atStart=>exact⟨0,kqy _,rfl,kq8 _ _ _ _,kql _ _⟩
 obtain⟨k,hk,rfl,a,q⟩:=hrel;have Q:=q.size;by_cases g:k<l.length
 .obtain ⟨b,off,rfl,hb,N⟩:=Ch.atE (Rd.below U.out q) g;obtain⟨j,p⟩:=E.out k g;have d:=C.out k g;have L:=z.out k;have f:=hid (I.out k g);obtain⟨x,P⟩:=xq (l[k]);rw[P] at N j p d f;obtain⟨S,xc,M⟩:=x;dsimp only at N j p d f;obtain⟨m,t⟩:=xq (pV (l.take k));rw[t] at a f L;have hk1:(k:Int)<(l.length:Int):=by omega
  have hk0:(0:Int)<=(k:Int):=by omega
  have y:=hid (Rd.below j q);have K:=hid (cj En.cells 2 En.len M);clear P t j p;go_wp2_with (at_builtin;refine bC _ (by rfl) _ _ 26 rfl w.heap.size 89 T _ 2 16 underlying26 R.out B.out F.out D.out rfl (by decide) _ _ _ (by rfl) a w.heap.size S M.length _ (M.flatMap En.cells) (by rfl) K.out y.out (dF En.one _) (by unfold maxLen;omega) (by omega) Q ?_;intro v1 wa o G;have J:=co q Q a G);go_roundw
  case rel=>exact⟨k+1,by omega,by go_num,by rw[f.out,kqu,kxi];exact o,J⟩
  case measure=>simp[intOf];omega
 rw[kq5 (by omega)] at a;go_wp2;go_ret;exact⟨⟨_,rfl,a⟩,q⟩
def lnE (k:Nat):List En:=(List.range 3).map λi=>(⟨if i<k then ((16+i:Nat):Int) else 0,0⟩:En)
theorem Fx(k:Nat):(lnE k).length=3:=by simp[lnE]
theorem Ek(hk:k<3):lnE (k+1)=(lnE k).set k ⟨16+(k:Int),0⟩:=by
 match k,hk with
 | 0,_=>rfl
 | 1,_=>rfl
 | 2,_=>rfl
theorem G9(hk:k<3):(lnE k)[k]? = some ⟨0,0⟩:=by
 match k,hk with
 | 0,_=>rfl
 | 1,_=>rfl
 | 2,_=>rfl
theorem GM(l:List En)(k:Nat)(x:En)(a:Int)(hk:l[k]? = some x):(l.set k ⟨a,x.v⟩).flatMap En.cells=(l.flatMap En.cells).set (k*2) (.int .i64 a):=
 eF En.cells 2 En.len l k 0 (by omega) ⟨a,x.v⟩ (.int .i64 a) (λy b=>by rw[hk] at b;cases b;rfl)
theorem Dj:(madeCells #[Value.int .i64 0,.int .u64 0] (3*2)).toList=(lnE 0).flatMap En.cells:=by kernel_rfl
theorem vP(A:Option Addr)(ws:List Nat)(c n:Nat)(w:World)(hn:ws.length=n)(hm:n<=9223372036854775807)(hc:n<=c)(K:RdW w w.heap.size A ws)(ho:∀x∈ws,x<18446744073709551616):
 Calls prog 57 #[.slice A n c] w λe w'=>ii w.heap.size (el ws) (dx ws) e w'/\Below w.heap.size w w':=by
 subst hn;have M:=hid (fEnd_c A ws c ws.length w rfl hm hc K ho);clear K ho;by_cases q:el ws=0
 .obtain ⟨hs,-,-,-,h5,h6,-,h8⟩:=iT q;have hb:=(aa _).1 hs;have hi:=(aT _).1 h5;rw[<-h8] at hi h6;have H:=hid (λh=>tr q h);have HE:=hid q;have d:Hid (dx ws=phE 0 0 0++(if fj ws=ws.length then [] else [⟨(fj ws:Int),cR (ei (ws.length-fj ws))⟩,⟨((fj ws+1:Nat):Int),0⟩])):=hid (by simp[dx,q]);rw[q] at M;obtain⟨t,U⟩:=xq (fj ws);rw[U] at M H d hi h6;have hlen:ws.length<=2048:=by omega
  have ht1:t<=2048:=hi.2.1;obtain⟨i0,Jf,Eq,S,Jb⟩:=kzv dm;have B:=hid (And.intro Jf (And.intro Eq (And.intro S Jb)));clear U q h8 h5 hs hb hi Jf Eq S Jb;go_enter func57,ntmps57;go_wp2_with fail;refine M.out.mono ?_;rintro e b ⟨rfl,u⟩;obtain⟨W0,V,l,Jg⟩:=run_make_full (P:=prog) b b.heap.size 26 89 i0 (.agg #[.int .i64 0,.int .u64 0]) 2 underlying26 B.out.1 B.out.2.1 B.out.2.2.1 .i64 .i64 3 (by rw[B.out.2.2.2];omega) (by unfold maxLen;omega) (kqd _);have m:W0.ownsRow b.heap.size 89 2 (.slice (some ⟨b.heap.size,0,none⟩) 3 3) 3 ((lnE 0).flatMap En.cells):=by rw[<-Dj];exact l
  have Jm:=hid m;have o:=hid u;have Jj:=hid ((kql b.heap.size b).grown Jg (kqd _) (λk hk=>by cases hk));simp only[kq7] at V;clear l Jg m u;go_wp2_with fail;clear V;go_loopw [19] (λi wr=>∃k:Nat,k<=3/\i=.int .i64 k/\wr.ownsRow b.heap.size 89 2 (.slice (some ⟨b.heap.size,0,none⟩) 3 3) 3 ((lnE k).flatMap En.cells)/\Below b.heap.size b wr) (λi _=>3-(intOf i).toNat)
  case atStart=>exact⟨0,kqy _,rfl,Jm.out,Jj.out⟩
  obtain⟨k,hk,rfl,a,hB⟩:=hrel;have hz:=hB.size;by_cases Q:k<3
  .have HS:=hid (show (lnE (k+1)).flatMap En.cells=((lnE k).flatMap En.cells).set (k*2) (.int .i64 (16+(k:Int))) by
    rw[Ek Q];exact GM _ _ ⟨0,0⟩ _ (G9 Q))
   obtain⟨u0,Y⟩:∃u0,((lnE k).flatMap En.cells)[k*2]? = some u0:=⟨_,kqk (by rw[cj En.cells 2 En.len,Fx];omega)⟩;have d0:=(a.cellAt (k*2) (by omega)).trans Y;have e0:=a.frozenAt (k*2);have j:=hid a;have hk1:(k:Int)<3:=by omega
   have hk0:(0:Int)<=(k:Int):=by omega
   clear Y a;go_wp2;go_roundw
   case rel=>exact⟨k+1,by omega,by go_num,by rw[HS.out];exact (j.out.stored (k*2) _).1,hB.setCell (p:=⟨b.heap.size,k*2,none⟩) (kqd _) _⟩
   case measure=>simp[intOf];omega
  obtain rfl:k=3:=by omega
  rw[show lnE 3=phE 0 0 0 from rfl] at a;have j:=hid a;clear a;by_cases f:t=ws.length
  .have Ji:((t:Int)==(ws.length:Int))=true:=by rw[kqw];omega
   have Je:(t==ws.length)=true:=by rw[kqw];exact f
   have C:=hid (show dx ws=phE 0 0 0 by rw[d.out,if_pos f,kzs]);clear f d;go_wp2;go_ret2;exact⟨⟨some ⟨b.heap.size,0,none⟩,3,by rw[C.out,HE.out];rfl,by rw[C.out];exact ao j.out o.out.size⟩,o.out.trans (hB.mono o.out.size)⟩
  have Ji:((t:Int)==(ws.length:Int))=false:=by rw[kqi];omega
  have Je:(t==ws.length)=false:=by rw[kqi];exact f
  have C:=hid (show dx ws=phE 0 0 0++[⟨(t:Int),cR (ei (ws.length-t))⟩,⟨((t+1:Nat):Int),0⟩] by rw[d.out,if_neg f]);have E:=H.out f;have z:=hid (λW=>pm (ei (ws.length-t)) W);rw[show jy (ei (ws.length-t))=cR (ei (ws.length-t)) by simp[jy,E],iR E] at z;rw[show (ei (ws.length-t)).val=.agg #[.int .i64 0,.int .i64 ((ws.length-t:Nat):Int),.int .i64 2,.int .i64 0,.bool false,.int .u64 0] from rfl] at z;have hws:IntKind.i64.wrap ((ws.length:Int)-(t:Int))=((ws.length-t:Nat):Int):=by rw[kqs _ (by omega)];omega
  have hwt:IntKind.i64.wrap ((t:Int)+1)=(t:Int)+1:=kqs _ (by omega);obtain⟨y,R⟩:=xq (cR (ei (ws.length-t)));rw[R] at z C;have X:=hid (o.out.trans (hB.mono o.out.size));clear f d H E R;go_wp2_with fail;refine (z.out _).mono ?_;rintro e s ⟨rfl,D⟩;have F:=hid (X.out.trans (D.mono X.out.size));have Jk:=hid (ai j.out D (kqd _));clear D;go_wp2_with fail;have L:=Bx.new s 89 #[.int .i64 (t:Int),.int .u64 (y:Int),.int .i64 ((t:Int)+1),.int .u64 0];have N:=Bx.new (s.alloc (.cells #[.int .i64 (t:Int),.int .u64 (y:Int),.int .i64 ((t:Int)+1),.int .u64 0] 89)) 26 #[.slice (some ⟨b.heap.size,0,none⟩) 3 3,.slice (some ⟨s.heap.size,0,none⟩) 2 2];simp only[kqm] at N;have J:=(F.out.alloc F.out.size (.cells #[.int .i64 (t:Int),.int .u64 (y:Int),.int .i64 ((t:Int)+1),.int .u64 0] 89)).alloc (cB F.out.size) (.cells #[.slice (some ⟨b.heap.size,0,none⟩) 3 3,.slice (some ⟨s.heap.size,0,none⟩) 2 2] 26);have I:=(Jk.out.alloc (.cells #[.int .i64 (t:Int),.int .u64 (y:Int),.int .i64 ((t:Int)+1),.int .u64 0] 89)).alloc (.cells #[.slice (some ⟨b.heap.size,0,none⟩) 3 3,.slice (some ⟨s.heap.size,0,none⟩) 2 2] 26);replace L:=L.alloc (.cells #[.slice (some ⟨b.heap.size,0,none⟩) 3 3,.slice (some ⟨s.heap.size,0,none⟩) 2 2] 26)
  obtain⟨Z,hZ⟩:∃Z,(s.alloc (.cells #[.int .i64 (t:Int),.int .u64 (y:Int),.int .i64 ((t:Int)+1),.int .u64 0] 89)).alloc (.cells #[.slice (some ⟨b.heap.size,0,none⟩) 3 3,.slice (some ⟨s.heap.size,0,none⟩) 2 2] 26)=Z:=⟨_,rfl⟩;rw[hZ] at L N J I |-;clear hZ;have Ja:=kjs t 1;have HJ:=DQ (some ⟨s.heap.size+1,0,none⟩) [⟨some ⟨b.heap.size,0,none⟩,3,phE 0 0 0⟩,⟨some ⟨s.heap.size,0,none⟩,2,[⟨(t:Int),y⟩,⟨((t+1:Nat):Int),0⟩]⟩] 2 2 Z.heap.size Z rfl (λk=>by
   match k with
   | 0=>show (0:Nat)<=1000;omega
   | 1=>show (3:Nat)<=1000;omega
   | k+2=>rw[kq5 (by simp)];show (5:Nat)<=1000;omega) (λx T=>by
   simp only[kqx,kzf,or_false] at T;rcases T with rfl|rfl
   .show (3:Nat)<=1000;omega
   .show (2:Nat)<=1000;omega) (by omega) (show Rd Z _ _ _ from Rd.of_box N N.lt) (λx T=>by
   simp only[kqx,kzf,or_false] at T;rcases T with rfl|rfl
   .exact ⟨Rd.of_own I,λh=>by cases h⟩
   refine⟨?_,λh=>by cases h⟩;have:=Rd.of_box L L.lt;show Rd Z _ _ [.int .i64 (t:Int),.int .u64 (y:Int),.int .i64 ((t+1:Nat):Int),.int .u64 ((0:Nat):Int)];rw[Ja];exact this) (kqd _)
  have Jl:=hid HJ;have G:=hid J;clear HJ L N J I Ja;refine Jl.out.mono ?_;rintro e w5 ⟨⟨v,rfl,g⟩,O⟩;obtain⟨A5,c5,rfl,Jd,Jc⟩:=kC g;have Jh:=hid (ao g G.out.size);have Jo:=hid (G.out.trans (O.mono G.out.size));clear g Jc Jd O;go_wp2;go_ret2;exact⟨⟨A5,c5,by rw[C.out,HE.out];rfl,by rw[C.out];exact Jh.out⟩,Jo.out⟩
 have ho:dx ws=[]:=by simp[dx,q]
 have C:=hid ho;obtain⟨r,K⟩:=xq (el ws);have HE:=hid K;rw[K] at M q;have hrn:(r != 0)=true:=by rw[kqv];exact q
 obtain⟨t,U⟩:=xq (fj ws);rw[U] at M;clear q K U ho;go_enter func57,ntmps57;go_wp2_with fail;refine M.out.mono ?_;rintro e b ⟨rfl,u⟩;go_wp2;go_ret2;exact⟨bL HE.out C.out,u⟩
def GY (H:Nat) (r:Int) (d:Bool) (E:List En) (e:Ending) (w':World):Prop:=∃A c,e=.returned (.tuple #[.slice A E.length c,.bool d,.int .i64 r])/\w'.ownsRow H 89 2 (.slice A E.length c) E.length (E.flatMap En.cells)
theorem yp(A:Option Addr)(ws:List Nat)(c n:Nat)(w:World)(hn:ws.length=n)(hm:n<=9223372036854775807)(hc:n<=c)(hr:RdW w w.heap.size A ws)(ho:∀x∈ws,x<18446744073709551616):
 Calls prog 54 #[.slice A n c] w λe w'=>GY w.heap.size (cO ws).1 (cO ws).2.1 (cO ws).2.2 e w'/\Below w.heap.size w w':=by
 subst hn;have N:=hid hr;have d:=hid (FG A ws c ws.length w rfl hm hc hr ho);have b:=hid (λW (h:RdW W W.heap.size A ws)=>tP A ws c ws.length W rfl hm hc h ho);have q:=hid (λW (h:RdW W W.heap.size A ws)=>vP A ws c ws.length W rfl hm hc h ho);unfold ii at d q;by_cases i:(af ws).1=6
 .have p:=Fb i;obtain⟨z,I,G,-⟩:=cP p;have S:=(aa _).1 I;obtain⟨⟨R,J,C⟩,-⟩:=(bt ws).1 G;have o:=ky p;have s:lnV ws=phV (wd ws 16) (wd ws 17) (wd ws 18):=by simp[lnV,o]
  rw[s,o] at b;unfold phV at b;rw[i] at d;obtain⟨E,H⟩:=xq ((af ws).2);rw[H] at d;by_cases t:wd ws 16=0
  .have f:=hid (show cO ws=(0,true,[]) by unfold cO;rw[if_pos i,if_pos t]);rw[t] at b;generalize wd ws 17=F at b;generalize wd ws 18=T at b;clear hr ho i t p z I G o s H S R J C;go_enter func54,ntmps54;go_wp2_with fail;refine d.out.mono ?_;rintro e U ⟨⟨M,L,rfl,-⟩,a⟩;have l:=hid a;have v:=hid (N.out.up a a.size);clear a;go_wp2_with fail;refine (b.out _ v.out).mono ?_;rintro e X ⟨rfl,m⟩;have B:=hid (l.out.trans (m.mono l.out.size));clear m;go_wp2;go_ret3;exact⟨⟨none,0,by rw[f.out];rfl,by rw[f.out];exact kq8 _ _ _ _⟩,B.out.alloc B.out.size _⟩
  have f:=hid (show cO ws=(el ws,false,dx ws) by unfold cO;rw[if_pos i,if_neg t]);generalize wd ws 17=F at b J;generalize wd ws 18=T at b C;generalize el ws=r at q f;generalize dx ws=Z at q f;generalize wd ws 16=P at b t R;have Y:((P:Int)==0)=false:=by rw[kqi];omega
  have V:(P==0)=false:=by rw[kqi];exact t
  have p3:decide (P=0)=false:=by rw[kqh];exact t
  clear hr ho i p z I G o s H S R J C;go_enter func54,ntmps54;go_wp2_with fail;refine d.out.mono ?_;rintro e U ⟨⟨M,L,rfl,-⟩,a⟩;have l:=hid a;have v:=hid (N.out.up a a.size);clear a;go_wp2_with fail;refine (b.out _ v.out).mono ?_;rintro e X ⟨rfl,m⟩;have u:=l.out.trans (m.mono l.out.size);have k:=hid (u.alloc u.size (.cells #[.int .i64 (P:Int),.int .i64 (F:Int),.int .i64 (T:Int)] 107));have Q:=hid (N.out.up k.out k.out.size);clear m u;go_wp2_with fail;refine (q.out _ Q.out).mono ?_;rintro e w3 ⟨⟨A3,c3,rfl,j⟩,y⟩;have O:=hid (k.out.trans (y.mono k.out.size));have D:=hid (ao j k.out.size);clear y j;go_wp2;go_ret3;exact⟨⟨A3,c3,by rw[f.out];rfl,by rw[f.out];exact D.out⟩,O.out⟩
 have f:=hid (show cO ws=((af ws).1,false,(af ws).2) by unfold cO;rw[if_neg i]);generalize (af ws).2=E at d f;generalize (af ws).1=r at d f i;have Y:((r:Int)==6)=false:=by rw[kqi];exact i
 have V:((r:Int) != 6)=true:=by rw[kqv];exact i
 clear hr ho i;go_enter func54,ntmps54;go_wp2_with fail;refine d.out.mono ?_;rintro e U ⟨⟨M,L,rfl,g⟩,a⟩;have K:=hid g;clear g;go_wp2;go_ret3;exact⟨⟨M,L,by rw[f.out];rfl,by rw[f.out];exact K.out⟩,a⟩
def Ei (ws:List Nat) (H:Nat) (e:Ending) (w':World):Prop:=∃(L:List Ch) (B:Option Addr) (d:Nat) (vx:Value),e=.returned (.tuple #[.slice B L.length d,vx,.int .i64 (fR ws).1])/\L.map Ch.l=(fR ws).2.1/\OwnC w' H B d L /\
 ((fR ws).1=0->∃g c,vx=.slice (some ⟨g,0,none⟩) ws.length c/\(fR ws).2.2.length=ws.length/\w'.ownsRow H 53 1 (.slice (some ⟨g,0,none⟩) ws.length c) ws.length ((fR ws).2.2.flatMap ab))/\((fR ws).1≠0->vx=.slice none 0 0)
theorem uT{ws:List Nat}{H:Nat}{r:Int}{w':World}(h:fR ws=(r,[],[]))(h0:r≠0):Ei ws H (.returned (.tuple #[.slice none 0 0,.slice none 0 0,.int .i64 r])) w':=by refine⟨[],none,0,.slice none 0 0,by rw[h];rfl,by rw[h];rfl,⟨kq8 _ _ _ _,λx b=>by simp at b⟩,λa=>?_,λ_=>rfl⟩;rw[h] at a;exact absurd a h0
theorem Fk(A:Option Addr)(ws:List Nat)(c n:Nat)(w:World)(hn:ws.length=n)(hm:n<=9223372036854775807)(hc:n<=c)(R:RdW w w.heap.size A ws)(ho:∀x∈ws,x<18446744073709551616):
 Calls prog 18 #[.slice A n c] w λe w'=>Ei ws w.heap.size e w'/\Below w.heap.size w w':=by
 subst hn;have HR:=hid R;have K:=hid (mG A ws c ws.length w rfl hm hc R ho);by_cases S:aw ws=0
 .obtain ⟨-,hs,-,-⟩:=cP S;have hb:=(aa _).1 hs;have o:=hid (show fR ws=rsE ws by unfold fR;rw[if_pos S]);rw[S] at K;have Jf:=hid (λW (h:RdW W W.heap.size A ws)=>Al A none ws [] c 0 ws.length 0 W.heap.size W rfl rfl hs (by omega) (λe he=>absurd he (by simp)) h Rd.nil_ (kqd _));unfold OwnV at Jf;simp only[am] at Jf;have Jm:=hid (λA2 B x E c d W (hx:x.length=ws.length) (hE:Small ws.length E) (h:RdW W W.heap.size A2 x) (h2:RdE W W.heap.size B E)=>Al A2 B x E c d ws.length E.length W.heap.size W hx rfl hs hE.le (λe he=>by have:=hE.ins e he;omega) h h2 (kqd _));unfold OwnV at Jm;have Jr:=hid (λA2 x c2 W (hx:x.length=ws.length) (hc2:ws.length<=c2) (hox:∀v∈x,v<18446744073709551616) (h:RdW W W.heap.size A2 x)=>yp A2 x c2 ws.length W hx hm hc2 h hox);unfold GY at Jr;have j:=hid (iL ho);have HO:=hid ho;have hlen:ws.length<=2048:=by omega
  have h16:16<ws.length:=by omega
  have hmz:rzM ws<=3000:=by have:=EV hs;omega
  obtain⟨i0,hi,Js,Jk,Jw⟩:=kzv zU;have HI:=hid hi;have Kg:=hid Js;have Ks:=hid Jk;have Kh:=hid Jw;clear hi Js Jk Jw;clear S hs hb R ho;go_enter func18,ntmps18;go_wp2_with fail;refine K.out.mono ?_;rintro e w1 ⟨rfl,i⟩;have Jb:=hid i;have Ke:=hid (HR.out.up i i.size);clear i;go_wp2_with fail;refine (Jf.out _ Ke.out).mono ?_;rintro e w2 ⟨g2,c2,rfl,u,Ka⟩;have Kj:=hid (Jb.out.trans (Ka.mono Jb.out.size));have Kk:=hid (ao u Jb.out.size);clear u Ka;go_wp2_with fail;go_loopg [6,8] (rzM ws+1) (λgk vx vo wr=>∃(x:List Nat) (L:List Ch) (g cx:Nat),vx=.slice (some ⟨g,0,none⟩) ws.length cx/\x.length=ws.length/\Hid (∀v∈x,v<18446744073709551616)/\Hid (rzM x<gk)/\Hid (lC ws (L.map Ch.l) x)/\L.length+gk<=rzM ws+1/\wr.ownsRow w.heap.size 53 1 (.slice (some ⟨g,0,none⟩) ws.length cx) ws.length (x.flatMap ab)/\wr.ownsRow w.heap.size 26 1 vo L.length (L.flatMap Ch.cells)/\Hid (∀y∈L,wr.ownsRow w.heap.size 89 2 (.slice y.A y.l.length y.c) y.l.length (y.l.flatMap En.cells))/\Below w.heap.size w wr)
  case atStart=>exact⟨ws,[],g2,c2,rfl,rfl,HO.out,kjw _,j.out,by simp,Kk.out,kq8 _ _ _ _,λy k=>absurd k (by simp),Kj.out⟩
  obtain⟨x,L,g,cx,rfl,Je,Ja,Kc,Jd,hLg,b,F,Jp,hB⟩:=hrel;have hz:=hB.size;have q:=aZ b;have T:=hid b;have Jz:=hid F;have HB:=hid hB;have O:=hid Je;have HCP:=hid q;have Kp:=hid hz;have I:=hid (Jr.out (some ⟨g,0,none⟩) x cx wr Je q Ja.out (Rd.of_own b));have j:=hid (λh hd=>wm Jd.out Ja.out h hd);have Jc:=hid (λh hd=>Bw Jd.out h hd);have Ji:=hid (λh=>zG Jd.out h);have Q:=hid (λh hd=>qn Ja.out h hd);obtain⟨r,R⟩:=xq ((cO x).1);obtain⟨dn,X⟩:=xq ((cO x).2.1);obtain⟨E,hE⟩:=xq ((cO x).2.2);rw[R,X,hE] at I;rw[R] at Jc Ji j Q;rw[X] at Jc j Q;rw[hE] at j Q;clear R hE X b F hB Je q hz;by_cases D:r=0
  .subst D;cases dn with
   | true =>have H:=hid (Jc.out rfl rfl);go_wp2_with fail;refine I.out.mono ?_;rintro e w3 ⟨⟨A3,c3,rfl,-⟩,a⟩;have m:=hid (HB.out.trans (a.mono HB.out.size));have J:=hid (ai T.out a (kqd _));have f:=hid (ai Jz.out a (kqd _));have N:=hid (λy k=>ai (Jp.out y k) a (kqd _));clear a;obtain⟨Bv,dv,rfl⟩:=aJ f.out;go_wp2;go_ret3;exact⟨⟨L,Bv,dv,_,by rw[o.out,H.out];rfl,by rw[o.out,H.out],⟨f.out,N.out⟩,λ_=>⟨g,cx,rfl,by rw[o.out,H.out];exact O.out,by rw[o.out,H.out];exact J.out⟩,λh=>absurd (by rw[o.out,H.out]) h⟩,m.out⟩
   | false =>
    have Y:=j.out rfl rfl;obtain⟨M,V,Eq⟩:=Q.out rfl rfl;rw[O.out] at M;have U:=hid (λA2 B c d W h h2=>Jm.out A2 B x E c d W O.out M h h2);have P:(am x E).length=ws.length:=by rw[ax];exact O.out
    rw[P] at U;obtain⟨y,k⟩:=xq (am x E);rw[k] at Y V Eq U P;have Jh:=hid Y;have Jl:=hid V;have Jo:=hid Eq;have Kn:=hid P;have hEl:E.length<=32:=M.le;clear Y M V Eq P k;go_wp2_with fail;refine I.out.mono ?_;rintro e w3 ⟨⟨A3,c3,rfl,C⟩,a⟩;have m:=hid (HB.out.trans (a.mono HB.out.size));have J:=hid (ai T.out a (kqd _));have f:=hid (ai Jz.out a (kqd _));have N:=hid (λy k=>ai (Jp.out y k) a (kqd _));have Ju:=hid (ao C Kp.out);have Kq:=m.out.size;clear a C;go_wp2_with (at_builtin;refine kzd _ rfl _ _ 34 rfl w.heap.size 26 i0 _ 1 24 underlying34 HI.out Kg.out Ks.out Kh.out rfl (by decide) _ _ _ rfl (f.out.alloc _) ⟨_,0,none⟩ 1 1 [.slice A3 E.length c3] rfl rfl (cC _ _ _) (by simp[Value.oneCell']) (by unfold maxLen;omega) (by omega) (by simp;omega) ?_;intro v1 w4 s G _;have Jg:=aC m.out Kq f.out G;have Kb:=hid (bu (J.out.alloc _) G (fE J.out f.out (by decide)));have Jq:=hid (bu (Ju.out.alloc _) G (fE Ju.out f.out (by decide)));have Kl:=hid (λy k=>bu ((N.out y k).alloc _) G (fE (N.out y k) f.out (by decide)));have Z:=hid Jg;have Ko:=hid s;clear Jg s G)
    refine (U.out _ _ _ _ _ (Rd.of_own Kb.out) (Rd.of_own Jq.out)).mono ?_;rintro e w5 ⟨g5,c5,rfl,t,p⟩;have Kr:=hid (Z.out.trans (p.mono Z.out.size));have Kt:=hid (ao t Z.out.size);have Ki:=hid (ai Ko.out p (kqd _));have Kf:=hid (ai Jq.out p (kqd _));have Kd:=hid (λy k=>ai (Kl.out y k) p (kqd _));clear t p;go_wp2_with fail;have Jt:=Kc.out;go_roundg (rzM x)
    case rel =>
     refine⟨y,L++[⟨A3,c3,E⟩],g5,c5,rfl,Kn.out,Jl.out,Jo.out,?_,?_,Kt.out,?_,?_,Kr.out⟩
     .rw[kjj];exact Jh.out
     .rw[kqu];show L.length+1+_<=_;omega
     .have h5:=Ki.out;rw[kqu,kxi];exact h5
     intro z hz;rcases kz1.1 hz with h6|h6
     .exact Kd.out z h6
     rw[kq0] at h6;subst h6;exact Kf.out
    case measure=>exact Jt
  have H:=hid (Ji.out D);have Jj:(r != 0)=true:=by rw[kqv];exact D
  have Km:=hid D;clear D;go_wp2_with fail;refine I.out.mono ?_;rintro e w3 ⟨⟨A3,c3,rfl,-⟩,a⟩;have m:=hid (HB.out.trans (a.mono HB.out.size));clear a;go_wp2;go_ret3;exact⟨uT (by rw[o.out,H.out]) Km.out,m.out⟩
 have H:=hid (show fR ws=(aw ws,[],[]) by unfold fR;rw[if_neg S]);have Jj:(aw ws != 0)=true:=by rw[kqv];exact S
 have Jv:=hid S;obtain⟨r,Jy⟩:=xq (aw ws);rw[Jy] at K H Jj Jv;clear R ho S Jy;go_enter func18,ntmps18;go_wp2_with fail;refine K.out.mono ?_;rintro e w1 ⟨rfl,i⟩;go_wp2;go_ret3;exact⟨uT H.out Jv.out,i⟩
end Go.Proofs.YtpcajamacpbjcaaGreat
