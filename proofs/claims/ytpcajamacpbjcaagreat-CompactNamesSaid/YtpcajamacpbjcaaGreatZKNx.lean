/- Texts laid together: Fin RsN RsA. -/
import Derived.Test.YtpcajamacpbjcaaGreatZKRs
import Derived.Test.YtpcajamacpbjcaaGreatZKHeap
import Derived.Test.YtpcajamacpbjcaaGreatZKRch
import Derived.Laws.OwnMore
import Derived.Test.YtpcajamacpbjcaaGreatZKStg2
set_option maxHeartbeats 16000000
set_option maxRecDepth 100000
set_option linter.all false
namespace Go.Proofs.YtpcajamacpbjcaaGreat
open Lib (hid)
open Go.RowKit
variable {k:Nat}
open Go.Proofs.Tryz
theorem fEnd_c(A:Option Addr)(ws:List Nat)(c n:Nat)(w:World)(hn:ws.length=n)(hm:n<=9223372036854775807)(hc:n<=c)(G:RdW w w.heap.size A ws)(ho:∀x∈ws,x<18446744073709551616):
 Calls prog 104 #[.slice A n c] w λe w'=>e=.returned (.tuple #[.int .i64 (fh ws:Nat),.int .i64 (el ws)])/\Below w.heap.size w w':=by
 subst hn;have D:=hid G;have j:=hid (λW (h:RdW W W.heap.size A ws)=>nv A ws c ws.length W rfl hm hc h ho);have i:=hid (λW (h:RdW W W.heap.size A ws)=>tO A ws c ws.length W rfl hm hc h ho);have k:=hid (λW (h:RdW W W.heap.size A ws)=>G9 A ws c ws.length W rfl hm hc h ho);clear G ho;by_cases p:aw ws=0
 .have t:=kP p;have I:lnV ws=phV (wd ws 16) (wd ws 17) (wd ws 18):=by simp[lnV,t]
  have o:=hid (λO X=>DV p O X);have q:=hid (λO=>Cl p O);have F:Hid (el ws=6->fh ws=0):=hid λh=>by simp[fh,h]
  rw[p] at j k;rw[t,I] at i;unfold phV at i;obtain⟨x,K⟩:=xq (wd ws 16);obtain⟨y,T⟩:=xq (wd ws 17);obtain⟨z,L⟩:=xq (wd ws 18);obtain⟨N,Q⟩:=xq (lfN ws);rw[K,T,L] at i;rw[K,Q] at o q;rw[L] at o;rw[Q] at k;have u:(x=4/\N=0)\/(x=4/\N≠0)\/x≠4:=by omega
  clear p t I K T L Q;rcases u with⟨H,J⟩|⟨H,J⟩|H
  .have s:=hid (o.out H J);subst H J;simp only[kq9] at i k;clear o q;go_enter func104,ntmps104;go_wp2_with fail;refine (j.out _ D.out).mono ?_;rintro e U ⟨rfl,a⟩;have f:=hid a;have E:=hid (D.out.up a a.size);clear a;go_wp2_with fail;refine (i.out _ E.out).mono ?_;rintro e R ⟨rfl,d⟩;have b:=hid ((f.out.trans (d.mono f.out.size)).alloc (by have:=d.size;have:=f.out.size;omega) (.cells #[.int .i64 4,.int .i64 (y:Int),.int .i64 (z:Int)] 107));have C:=hid (D.out.up b.out b.out.size);have m:=hid (Bx.new R 107 #[.int .i64 4,.int .i64 (y:Int),.int .i64 (z:Int)]);clear d;go_wp2_with fail;refine (k.out _ C.out).mono ?_;rintro e w3 ⟨rfl,g⟩;have l:=m.out.up g m.out.lt;obtain⟨V,Y,Z,-⟩:=l.c3;have v:=hid (b.out.trans (g.mono b.out.size));clear g l;go_wp2;go_ret2;exact⟨by rw[s.out.1,s.out.2];rfl,v.out⟩
  all_goals
   have s:=hid (q.out (by omega));have B:=hid (F.out s.out);have S:(x=4/\((x:Int) != 4)=false/\(x != 4)=false/\decide ((0:Int)<(N:Int))=true/\decide (0<N)=true)\/((x:Int) != 4)=true/\(x != 4)=true:=by
    by_cases h:x=4
    .left;exact⟨h,by rw[kqq];omega,by rw[kqq];exact h,by rw[kq0];omega,by rw[kq0];omega⟩
    right;exact⟨by rw[kqu];omega,by rw[kqu];exact h⟩
   clear o q F;(try clear J);clear H;rcases S with⟨-,P,M,hx3,hx4⟩|⟨P,M⟩
   all_goals
    go_enter func104,ntmps104;go_wp2_with fail;refine (j.out _ D.out).mono ?_;rintro e U ⟨rfl,a⟩;have f:=hid a;have E:=hid (D.out.up a a.size);clear a;go_wp2_with fail;refine (i.out _ E.out).mono ?_;rintro e R ⟨rfl,d⟩;have b:=hid ((f.out.trans (d.mono f.out.size)).alloc (by have:=d.size;have:=f.out.size;omega) (.cells #[.int .i64 (x:Int),.int .i64 (y:Int),.int .i64 (z:Int)] 107));have C:=hid (D.out.up b.out b.out.size);have m:=hid (Bx.new R 107 #[.int .i64 (x:Int),.int .i64 (y:Int),.int .i64 (z:Int)]);clear d;go_wp2_with fail;refine (k.out _ C.out).mono ?_;rintro e w3 ⟨rfl,g⟩;have l:=m.out.up g m.out.lt;obtain⟨V,Y,Z,-⟩:=l.c3;have v:=hid (b.out.trans (g.mono b.out.size));clear g l;go_wp2;go_ret2;exact⟨by rw[s.out,B.out];rfl,v.out⟩
 have s:=hid (BV (ws:=ws) rfl p);have B:Hid (fh ws=0):=hid (by simp[fh,s.out,p]);obtain⟨r,G⟩:=xq (aw ws);rw[G] at j p s;have hrn:(r != 0)=true:=by rw[kqu];exact p
 clear p G;go_enter func104,ntmps104;go_wp2_with fail;refine (j.out _ D.out).mono ?_;rintro e U ⟨rfl,a⟩;go_wp2;go_ret2;exact⟨by rw[s.out,B.out];rfl,a⟩
theorem Ch.atE{w:World}{B:Nat}{A:Option Addr}{l:List Ch}(h:Rd w B A (l.flatMap Ch.cells))(hk:k<l.length):∃b off,A=some ⟨b,off,none⟩/\b<B/\w.cell? ⟨b,off+k,none⟩=some (.slice l[k].A l[k].l.length l[k].c):=RdC.at_ h hk
def pb (l:List Ch):List En:=l.flatMap Ch.l
theorem C9(A:Option Addr)(l:List Ch)(c n H:Nat)(w:World)(hn:l.length=n)(hlen:∀k,(pb (l.take k)).length<=1000)(d:∀x∈l,x.l.length<=1000)(hm:n<=1000)(hr:Rd w H A (l.flatMap Ch.cells))(he:∀x∈l,RdE w H x.A x.l/\(x.A=none->x.c=0))(hH:H<=w.heap.size):
 Calls prog 106 #[.slice A n c] w λe w'=>(∃v,e=.returned v/\w'.ownsRow w.heap.size 89 2 v (pb l).length ((pb l).flatMap En.cells))/\Below w.heap.size w w':=by
 subst hn;have U:=hid (hr.more hH);have F:Hid (∀k (h:k<l.length),RdE w w.heap.size l[k].A l[k].l/\(l[k].A=none->l[k].c=0)):=hid λk h=>⟨(he _ (kqp h)).1.more hH,(he _ (kqp h)).2⟩;have C:Hid (∀k (h:k<l.length),l[k].l.length<=1000):=hid λk h=>d _ (kqp h);have M:=hid hlen;have I:Hid (∀k (h:k<l.length),pb (l.take (k+1))=pb (l.take k)++l[k].l):=hid λk h=>by unfold pb;rw[kqn h,kxf];simp
 clear hr he hH hlen d;obtain⟨R,Q,s,u,q⟩:=kzw dg;have S:=hid Q;have z:=hid s;have B:=hid u;have y:=hid q;clear Q s u q;go_enter func106,ntmps106;go_wp2_with fail;go_loopw [3,8] (λv i wr=>∃k:Nat,k<=l.length/\i=.int .i64 k/\wr.ownsRow w.heap.size 89 2 v (pb (l.take k)).length ((pb (l.take k)).flatMap En.cells)/\Below w.heap.size w wr) (λ_ i _=>l.length-(intOf i).toNat)
 case atStart=>exact⟨0,kqy _,rfl,kza _ _ _ _,kqk _ _⟩
 obtain⟨k,hk,rfl,a,t⟩:=hrel;have O:=t.size;by_cases f:k<l.length
 .obtain ⟨b,off,rfl,hb,P⟩:=Ch.atE (Rd.below U.out t) f;obtain⟨g,p⟩:=F.out k f;have d:=C.out k f;have L:=M.out k;have j:=hid (I.out k f);obtain⟨x,N⟩:=xq (l[k]);rw[N] at P g p d j;obtain⟨T,xc,D⟩:=x;dsimp only at P g p d j;obtain⟨m,r⟩:=xq (pb (l.take k));rw[r] at a j L;have hk1:(k:Int)<(l.length:Int):=by omega
  have hk0:(0:Int)<=(k:Int):=by omega
  have E:=hid (Rd.below g t);have J:=hid (ci En.cells 2 En.len D);clear N r g p;go_wp2_with (at_builtin;refine bg _ (by rfl) _ _ 26 rfl w.heap.size 89 R _ 2 16 underlying26 S.out z.out B.out y.out rfl (by decide) _ _ _ (by rfl) a w.heap.size T D.length _ (D.flatMap En.cells) (by rfl) J.out E.out (di En.one _) (by unfold maxLen;omega) (by omega) O ?_;intro v1 wa o G;have K:=bU t O a G);go_roundw
  case rel=>exact⟨k+1,by omega,by go_num,by rw[j.out,kqs,kxf];exact o,K⟩
  case measure=>simp[intOf];omega
 rw[kq5 (by omega)] at a;go_wp2;go_ret;exact⟨⟨_,rfl,a⟩,t⟩
def lnE (k:Nat):List En:=(List.range 3).map λi=>(⟨if i<k then ((16+i:Nat):Int) else 0,0⟩:En)
theorem FD(k:Nat):(lnE k).length=3:=by simp[lnE]
theorem BL(hk:k<3):lnE (k+1)=(lnE k).set k ⟨16+(k:Int),0⟩:=by
 match k,hk with
 | 0,_=>rfl
 | 1,_=>rfl
 | 2,_=>rfl
theorem FE(hk:k<3):(lnE k)[k]? = some ⟨0,0⟩:=by
 match k,hk with
 | 0,_=>rfl
 | 1,_=>rfl
 | 2,_=>rfl
theorem GG(l:List En)(k:Nat)(x:En)(a:Int)(hk:l[k]? = some x):(l.set k ⟨a,x.v⟩).flatMap En.cells=(l.flatMap En.cells).set (k*2) (.int .i64 a):=
 eF En.cells 2 En.len l k 0 (by omega) ⟨a,x.v⟩ (.int .i64 a) (λy b=>by rw[hk] at b;cases b;rfl)
theorem CN:(madeCells #[Value.int .i64 0,.int .u64 0] (3*2)).toList=(lnE 0).flatMap En.cells:=by kernel_rfl
theorem v7(A:Option Addr)(ws:List Nat)(c n:Nat)(w:World)(hn:ws.length=n)(hm:n<=9223372036854775807)(hc:n<=c)(K:RdW w w.heap.size A ws)(T:∀x∈ws,x<18446744073709551616):
 Calls prog 57 #[.slice A n c] w λe w'=>gp w.heap.size (el ws) (dm ws) e w'/\Below w.heap.size w w':=by
 subst hn;have M:=hid (fEnd_c A ws c ws.length w rfl hm hc K T);clear K T;by_cases q:el ws=0
 .obtain ⟨hs,-,-,-,h5,h6,-,h8⟩:=iA q;have hb:=(ae _).1 hs;have hi:=(aT _).1 h5;rw[<-h8] at hi h6;have D:=hid (λh=>sP q h);have HE:=hid q;have d:Hid (dm ws=phE 0 0 0++(if fh ws=ws.length then [] else [⟨(fh ws:Int),da (eh (ws.length-fh ws))⟩,⟨((fh ws+1:Nat):Int),0⟩])):=hid (by simp[dm,q]);rw[q] at M;obtain⟨t,ht⟩:=xq (fh ws);rw[ht] at M D d hi h6;have hlen:ws.length<=2048:=by omega
  have ht1:t<=2048:=hi.2.1;obtain⟨i0,Q,S,U,O⟩:=kzw dg;have B:=hid (And.intro Q (And.intro S (And.intro U O)));clear ht q h8 h5 hs hb hi Q S U O;go_enter func57,ntmps57;go_wp2_with fail;refine M.out.mono ?_;rintro e b ⟨rfl,z⟩;obtain⟨W0,N,m,Jb⟩:=run_make_full (P:=prog) b b.heap.size 26 89 i0 (.agg #[.int .i64 0,.int .u64 0]) 2 underlying26 B.out.1 B.out.2.1 B.out.2.2.1 .i64 .i64 3 (by rw[B.out.2.2.2];omega) (by unfold maxLen;omega) (kqa _);have l:W0.ownsRow b.heap.size 89 2 (.slice (some ⟨b.heap.size,0,none⟩) 3 3) 3 ((lnE 0).flatMap En.cells):=by rw[<-CN];exact m
  have Jk:=hid l;have o:=hid z;have Jg:=hid ((kqk b.heap.size b).grown Jb (kqa _) (λk hk=>by cases hk));simp only[kq9] at N;clear m Jb l z;go_wp2_with fail;clear N;go_loopw [19] (λi wr=>∃k:Nat,k<=3/\i=.int .i64 k/\wr.ownsRow b.heap.size 89 2 (.slice (some ⟨b.heap.size,0,none⟩) 3 3) 3 ((lnE k).flatMap En.cells)/\Below b.heap.size b wr) (λi _=>3-(intOf i).toNat)
  case atStart=>exact⟨0,kqy _,rfl,Jk.out,Jg.out⟩
  obtain⟨k,hk,rfl,a,hB⟩:=hrel;have hz:=hB.size;by_cases V:k<3
  .have HS:=hid (show (lnE (k+1)).flatMap En.cells=((lnE k).flatMap En.cells).set (k*2) (.int .i64 (16+(k:Int))) by
    rw[BL V];exact GG _ _ ⟨0,0⟩ _ (FE V))
   obtain⟨u0,Ja⟩:∃u0,((lnE k).flatMap En.cells)[k*2]? = some u0:=⟨_,kql (by rw[ci En.cells 2 En.len,FD];omega)⟩;have d0:=(a.cellAt (k*2) (by omega)).trans Ja;have e0:=a.frozenAt (k*2);have j:=hid a;have hk1:(k:Int)<3:=by omega
   have hk0:(0:Int)<=(k:Int):=by omega
   clear Ja a;go_wp2;go_roundw
   case rel=>exact⟨k+1,by omega,by go_num,by rw[HS.out];exact (j.out.stored (k*2) _).1,hB.setCell (p:=⟨b.heap.size,k*2,none⟩) (kqa _) _⟩
   case measure=>simp[intOf];omega
  obtain rfl:k=3:=by omega
  rw[show lnE 3=phE 0 0 0 from rfl] at a;have j:=hid a;clear a;by_cases g:t=ws.length
  .have Ji:((t:Int)==(ws.length:Int))=true:=by rw[kqw];omega
   have Je:(t==ws.length)=true:=by rw[kqw];exact g
   have C:=hid (show dm ws=phE 0 0 0 by rw[d.out,if_pos g,kzr]);clear g d;go_wp2;go_ret2;exact⟨⟨some ⟨b.heap.size,0,none⟩,3,by rw[C.out,HE.out];rfl,by rw[C.out];exact am j.out o.out.size⟩,o.out.trans (hB.mono o.out.size)⟩
  have Ji:((t:Int)==(ws.length:Int))=false:=by rw[kqj];omega
  have Je:(t==ws.length)=false:=by rw[kqj];exact g
  have C:=hid (show dm ws=phE 0 0 0++[⟨(t:Int),da (eh (ws.length-t))⟩,⟨((t+1:Nat):Int),0⟩] by rw[d.out,if_neg g]);have G:=D.out g;have y:=hid (λW=>oL (eh (ws.length-t)) W);rw[show jn (eh (ws.length-t))=da (eh (ws.length-t)) by simp[jn,G],jJ G] at y;rw[show (eh (ws.length-t)).val=.agg #[.int .i64 0,.int .i64 ((ws.length-t:Nat):Int),.int .i64 2,.int .i64 0,.bool false,.int .u64 0] from rfl] at y;have hws:IntKind.i64.wrap ((ws.length:Int)-(t:Int))=((ws.length-t:Nat):Int):=by rw[kqv _ (by omega)];omega
  have hwt:IntKind.i64.wrap ((t:Int)+1)=(t:Int)+1:=kqv _ (by omega);obtain⟨u,Eq⟩:=xq (da (eh (ws.length-t)));rw[Eq] at y C;have X:=hid (o.out.trans (hB.mono o.out.size));clear g d D G Eq;go_wp2_with fail;refine (y.out _).mono ?_;rintro e s ⟨rfl,H⟩;have F:=hid (X.out.trans (H.mono X.out.size));have Jj:=hid (ak j.out H (kqa _));clear H;go_wp2_with fail;have L:=Bx.new s 89 #[.int .i64 (t:Int),.int .u64 (u:Int),.int .i64 ((t:Int)+1),.int .u64 0];have R:=Bx.new (s.alloc (.cells #[.int .i64 (t:Int),.int .u64 (u:Int),.int .i64 ((t:Int)+1),.int .u64 0] 89)) 26 #[.slice (some ⟨b.heap.size,0,none⟩) 3 3,.slice (some ⟨s.heap.size,0,none⟩) 2 2];simp only[kqm] at R;have J:=(F.out.alloc F.out.size (.cells #[.int .i64 (t:Int),.int .u64 (u:Int),.int .i64 ((t:Int)+1),.int .u64 0] 89)).alloc (aY F.out.size) (.cells #[.slice (some ⟨b.heap.size,0,none⟩) 3 3,.slice (some ⟨s.heap.size,0,none⟩) 2 2] 26);have E:=(Jj.out.alloc (.cells #[.int .i64 (t:Int),.int .u64 (u:Int),.int .i64 ((t:Int)+1),.int .u64 0] 89)).alloc (.cells #[.slice (some ⟨b.heap.size,0,none⟩) 3 3,.slice (some ⟨s.heap.size,0,none⟩) 2 2] 26);replace L:=L.alloc (.cells #[.slice (some ⟨b.heap.size,0,none⟩) 3 3,.slice (some ⟨s.heap.size,0,none⟩) 2 2] 26)
  obtain⟨Z,hZ⟩:∃Z,(s.alloc (.cells #[.int .i64 (t:Int),.int .u64 (u:Int),.int .i64 ((t:Int)+1),.int .u64 0] 89)).alloc (.cells #[.slice (some ⟨b.heap.size,0,none⟩) 3 3,.slice (some ⟨s.heap.size,0,none⟩) 2 2] 26)=Z:=⟨_,rfl⟩;rw[hZ] at L R J E |-;clear hZ;have Jd:=kjk t 1;have HJ:=C9 (some ⟨s.heap.size+1,0,none⟩) [⟨some ⟨b.heap.size,0,none⟩,3,phE 0 0 0⟩,⟨some ⟨s.heap.size,0,none⟩,2,[⟨(t:Int),u⟩,⟨((t+1:Nat):Int),0⟩]⟩] 2 2 Z.heap.size Z rfl (λk=>by
   match k with
   | 0=>show (0:Nat)<=1000;omega
   | 1=>show (3:Nat)<=1000;omega
   | k+2=>rw[kq5 (by simp)];show (5:Nat)<=1000;omega) (λx hx=>by
   simp only[kqt,kzb,or_false] at hx;rcases hx with rfl|rfl
   .show (3:Nat)<=1000;omega
   .show (2:Nat)<=1000;omega) (by omega) (show Rd Z _ _ _ from Rd.of_box R R.lt) (λx hx=>by
   simp only[kqt,kzb,or_false] at hx;rcases hx with rfl|rfl
   .exact ⟨Rd.of_own E,λh=>by cases h⟩
   refine⟨?_,λh=>by cases h⟩;have:=Rd.of_box L L.lt;show Rd Z _ _ [.int .i64 (t:Int),.int .u64 (u:Int),.int .i64 ((t+1:Nat):Int),.int .u64 ((0:Nat):Int)];rw[Jd];exact this) (kqa _)
  have Jh:=hid HJ;have I:=hid J;clear HJ L R J E Jd;refine Jh.out.mono ?_;rintro e w5 ⟨⟨v,rfl,f⟩,Jc⟩;obtain⟨A5,c5,rfl,Y,Jf⟩:=kG f;have Jl:=hid (am f I.out.size);have Jm:=hid (I.out.trans (Jc.mono I.out.size));clear f Jf Y Jc;go_wp2;go_ret2;exact⟨⟨A5,c5,by rw[C.out,HE.out];rfl,by rw[C.out];exact Jl.out⟩,Jm.out⟩
 have T:dm ws=[]:=by simp[dm,q]
 have C:=hid T;obtain⟨r,K⟩:=xq (el ws);have HE:=hid K;rw[K] at M q;have hrn:(r != 0)=true:=by rw[kqu];exact q
 obtain⟨t,ht⟩:=xq (fh ws);rw[ht] at M;clear q K ht T;go_enter func57,ntmps57;go_wp2_with fail;refine M.out.mono ?_;rintro e b ⟨rfl,z⟩;go_wp2;go_ret2;exact⟨bE HE.out C.out,z⟩
def GO (H:Nat) (r:Int) (d:Bool) (E:List En) (e:Ending) (w':World):Prop:=∃A c,e=.returned (.tuple #[.slice A E.length c,.bool d,.int .i64 r])/\w'.ownsRow H 89 2 (.slice A E.length c) E.length (E.flatMap En.cells)
theorem yS(A:Option Addr)(ws:List Nat)(c n:Nat)(w:World)(hn:ws.length=n)(hm:n<=9223372036854775807)(hc:n<=c)(hr:RdW w w.heap.size A ws)(ho:∀x∈ws,x<18446744073709551616):
 Calls prog 54 #[.slice A n c] w λe w'=>GO w.heap.size (cJ ws).1 (cJ ws).2.1 (cJ ws).2.2 e w'/\Below w.heap.size w w':=by
 subst hn;have N:=hid hr;have d:=hid (FI A ws c ws.length w rfl hm hc hr ho);have b:=hid (λW (h:RdW W W.heap.size A ws)=>tO A ws c ws.length W rfl hm hc h ho);have q:=hid (λW (h:RdW W W.heap.size A ws)=>v7 A ws c ws.length W rfl hm hc h ho);unfold gp at d q;by_cases k:(ag ws).1=6
 .have p:=EA k;obtain⟨B,M,L,-⟩:=cC p;have S:=(ae _).1 M;obtain⟨⟨Q,G,C⟩,-⟩:=(bq ws).1 L;have o:=kP p;have v:lnV ws=phV (wd ws 16) (wd ws 17) (wd ws 18):=by simp[lnV,o]
  rw[v,o] at b;unfold phV at b;rw[k] at d;obtain⟨E,I⟩:=xq ((ag ws).2);rw[I] at d;by_cases t:wd ws 16=0
  .have f:=hid (show cJ ws=(0,true,[]) by unfold cJ;rw[if_pos k,if_pos t]);rw[t] at b;generalize wd ws 17=F at b;generalize wd ws 18=T at b;clear hr ho k t p B M L o v I S Q G C;go_enter func54,ntmps54;go_wp2_with fail;refine d.out.mono ?_;rintro e U ⟨⟨D,R,rfl,-⟩,a⟩;have j:=hid a;have u:=hid (N.out.up a a.size);clear a;go_wp2_with fail;refine (b.out _ u.out).mono ?_;rintro e w2 ⟨rfl,i⟩;have y:=hid (j.out.trans (i.mono j.out.size));clear i;go_wp2;go_ret3;exact⟨⟨none,0,by rw[f.out];rfl,by rw[f.out];exact kza _ _ _ _⟩,y.out.alloc y.out.size _⟩
  have f:=hid (show cJ ws=(el ws,false,dm ws) by unfold cJ;rw[if_pos k,if_neg t]);generalize wd ws 17=F at b G;generalize wd ws 18=T at b C;generalize el ws=r at q f;generalize dm ws=Z at q f;generalize wd ws 16=P at b t Q;have X:((P:Int)==0)=false:=by rw[kqj];omega
  have Y:(P==0)=false:=by rw[kqj];exact t
  have p3:decide (P=0)=false:=by rw[kqh];exact t
  clear hr ho k p B M L o v I S Q G C;go_enter func54,ntmps54;go_wp2_with fail;refine d.out.mono ?_;rintro e U ⟨⟨D,R,rfl,-⟩,a⟩;have j:=hid a;have u:=hid (N.out.up a a.size);clear a;go_wp2_with fail;refine (b.out _ u.out).mono ?_;rintro e w2 ⟨rfl,i⟩;have s:=j.out.trans (i.mono j.out.size);have m:=hid (s.alloc s.size (.cells #[.int .i64 (P:Int),.int .i64 (F:Int),.int .i64 (T:Int)] 107));have H:=hid (N.out.up m.out m.out.size);clear i s;go_wp2_with fail;refine (q.out _ H.out).mono ?_;rintro e w3 ⟨⟨A3,V,rfl,g⟩,z⟩;have J:=hid (m.out.trans (z.mono m.out.size));have O:=hid (am g m.out.size);clear z g;go_wp2;go_ret3;exact⟨⟨A3,V,by rw[f.out];rfl,by rw[f.out];exact O.out⟩,J.out⟩
 have f:=hid (show cJ ws=((ag ws).1,false,(ag ws).2) by unfold cJ;rw[if_neg k]);generalize (ag ws).2=E at d f;generalize (ag ws).1=r at d f k;have X:((r:Int)==6)=false:=by rw[kqj];exact k
 have Y:((r:Int) != 6)=true:=by rw[kqu];exact k
 clear hr ho k;go_enter func54,ntmps54;go_wp2_with fail;refine d.out.mono ?_;rintro e U ⟨⟨D,R,rfl,l⟩,a⟩;have K:=hid l;clear l;go_wp2;go_ret3;exact⟨⟨D,R,by rw[f.out];rfl,by rw[f.out];exact K.out⟩,a⟩
def FY (ws:List Nat) (H:Nat) (e:Ending) (w':World):Prop:=∃(L:List Ch) (B:Option Addr) (d:Nat) (vx:Value),e=.returned (.tuple #[.slice B L.length d,vx,.int .i64 (ip ws).1])/\L.map Ch.l=(ip ws).2.1/\OwnC w' H B d L /\
 ((ip ws).1=0->∃g c,vx=.slice (some ⟨g,0,none⟩) ws.length c/\(ip ws).2.2.length=ws.length/\w'.ownsRow H 53 1 (.slice (some ⟨g,0,none⟩) ws.length c) ws.length ((ip ws).2.2.flatMap aa))/\((ip ws).1≠0->vx=.slice none 0 0)
theorem t9{ws:List Nat}{H:Nat}{r:Int}{w':World}(h:ip ws=(r,[],[]))(h0:r≠0):FY ws H (.returned (.tuple #[.slice none 0 0,.slice none 0 0,.int .i64 r])) w':=by refine⟨[],none,0,.slice none 0 0,by rw[h];rfl,by rw[h];rfl,⟨kza _ _ _ _,λx b=>by simp at b⟩,λa=>?_,λ_=>rfl⟩;rw[h] at a;exact absurd a h0
theorem rAll_c(A:Option Addr)(ws:List Nat)(c n:Nat)(w:World)(hn:ws.length=n)(hm:n<=9223372036854775807)(hc:n<=c)(R:RdW w w.heap.size A ws)(ho:∀x∈ws,x<18446744073709551616):
 Calls prog 18 #[.slice A n c] w λe w'=>FY ws w.heap.size e w'/\Below w.heap.size w w':=by
 subst hn;have HR:=hid R;have N:=hid (nv A ws c ws.length w rfl hm hc R ho);by_cases S:aw ws=0
 .obtain ⟨-,hs,-,-⟩:=cC S;have hb:=(ae _).1 hs;have k:=hid (show ip ws=rsE ws by unfold ip;rw[if_pos S]);rw[S] at N;have Z:=hid (λW (h:RdW W W.heap.size A ws)=>zG A none ws [] c 0 ws.length 0 W.heap.size W rfl rfl hs (by omega) (λe he=>absurd he (by simp)) h Rd.nil_ (kqa _));unfold OwnV at Z;simp only[aj] at Z;have Jr:=hid (λA2 B x E c d W (hx:x.length=ws.length) (hE:Small ws.length E) (h:RdW W W.heap.size A2 x) (h2:RdE W W.heap.size B E)=>zG A2 B x E c d ws.length E.length W.heap.size W hx rfl hs hE.le (λe he=>by have:=hE.ins e he;omega) h h2 (kqa _));unfold OwnV at Jr;have Jv:=hid (λA2 x c2 W (hx:x.length=ws.length) (hc2:ws.length<=c2) (hox:∀v∈x,v<18446744073709551616) (h:RdW W W.heap.size A2 x)=>yS A2 x c2 ws.length W hx hm hc2 h hox);unfold GO at Jv;have m:=hid (iI ho);have HO:=hid ho;have hlen:ws.length<=2048:=by omega
  have h16:16<ws.length:=by omega
  have hmz:rzM ws<=3000:=by have:=Eu hs;omega
  obtain⟨i0,hi,Jj,Jk,Jg⟩:=kzw Bg;have HI:=hid hi;have Kp:=hid Jj;have Kf:=hid Jk;have Ko:=hid Jg;clear hi Jj Jk Jg;clear S hs hb R ho;go_enter func18,ntmps18;go_wp2_with fail;refine N.out.mono ?_;rintro e w1 ⟨rfl,o⟩;have Jc:=hid o;have Kc:=hid (HR.out.up o o.size);clear o;go_wp2_with fail;refine (Z.out _ Kc.out).mono ?_;rintro e w2 ⟨g2,c2,rfl,q,Jq⟩;have Kl:=hid (Jc.out.trans (Jq.mono Jc.out.size));have Ki:=hid (am q Jc.out.size);clear q Jq;go_wp2_with fail;go_loopg [6,8] (rzM ws+1) (λgk vx vo wr=>∃(x:List Nat) (L:List Ch) (g cx:Nat),vx=.slice (some ⟨g,0,none⟩) ws.length cx/\x.length=ws.length/\Hid (∀v∈x,v<18446744073709551616)/\Hid (rzM x<gk)/\Hid (lP ws (L.map Ch.l) x)/\L.length+gk<=rzM ws+1/\wr.ownsRow w.heap.size 53 1 (.slice (some ⟨g,0,none⟩) ws.length cx) ws.length (x.flatMap aa)/\wr.ownsRow w.heap.size 26 1 vo L.length (L.flatMap Ch.cells)/\Hid (∀y∈L,wr.ownsRow w.heap.size 89 2 (.slice y.A y.l.length y.c) y.l.length (y.l.flatMap En.cells))/\Below w.heap.size w wr)
  case atStart=>exact⟨ws,[],g2,c2,rfl,rfl,HO.out,kjp _,m.out,by simp,Ki.out,kza _ _ _ _,λy i=>absurd i (by simp),Kl.out⟩
  obtain⟨x,L,g,cx,rfl,Jf,V,Kb,Ja,hLg,b,u,Ju,hB⟩:=hrel;have hz:=hB.size;have C:=co b;have T:=hid b;have Jz:=hid u;have HB:=hid hB;have Q:=hid Jf;have HCP:=hid C;have Kn:=hid hz;have J:=hid (Jv.out (some ⟨g,0,none⟩) x cx wr Jf C V.out (Rd.of_own b));have m:=hid (λh hd=>vn Ja.out V.out h hd);have Je:=hid (λh hd=>zL Ja.out h hd);have Ka:=hid (λh=>Br Ja.out h);have K:=hid (λh hd=>rS V.out h hd);obtain⟨r,R⟩:=xq ((cJ x).1);obtain⟨dn,U⟩:=xq ((cJ x).2.1);obtain⟨E,hE⟩:=xq ((cJ x).2.2);rw[R,U,hE] at J;rw[R] at Je Ka m K;rw[U] at Je m K;rw[hE] at m K;clear R hE U b u hB Jf C hz;by_cases t:r=0
  .subst t;cases dn with
   | true =>have H:=hid (Je.out rfl rfl);go_wp2_with fail;refine J.out.mono ?_;rintro e w3 ⟨⟨A3,c3,rfl,-⟩,a⟩;have j:=hid (HB.out.trans (a.mono HB.out.size));have P:=hid (ak T.out a (kqa _));have f:=hid (ak Jz.out a (kqa _));have I:=hid (λy i=>ak (Ju.out y i) a (kqa _));clear a;obtain⟨Bv,dv,rfl⟩:=aS f.out;go_wp2;go_ret3;exact⟨⟨L,Bv,dv,_,by rw[k.out,H.out];rfl,by rw[k.out,H.out],⟨f.out,I.out⟩,λ_=>⟨g,cx,rfl,by rw[k.out,H.out];exact Q.out,by rw[k.out,H.out];exact P.out⟩,λh=>absurd (by rw[k.out,H.out]) h⟩,j.out⟩
   | false =>
    have X:=m.out rfl rfl;obtain⟨O,Y,Eq⟩:=K.out rfl rfl;rw[Q.out] at O;have Jd:=hid (λA2 B c d W h h2=>Jr.out A2 B x E c d W Q.out O h h2);have M:(aj x E).length=ws.length:=by rw[av];exact Q.out
    rw[M] at Jd;obtain⟨y,i⟩:=xq (aj x E);rw[i] at X Y Eq Jd M;have Jt:=hid X;have Jy:=hid Y;have Jp:=hid Eq;have Km:=hid M;have hEl:E.length<=32:=O.le;clear X O Y Eq M i;go_wp2_with fail;refine J.out.mono ?_;rintro e w3 ⟨⟨A3,c3,rfl,F⟩,a⟩;have j:=hid (HB.out.trans (a.mono HB.out.size));have P:=hid (ak T.out a (kqa _));have f:=hid (ak Jz.out a (kqa _));have I:=hid (λy i=>ak (Ju.out y i) a (kqa _));have Jw:=hid (am F Kn.out);have Kg:=j.out.size;clear a F;go_wp2_with (at_builtin;refine kzk _ rfl _ _ 34 rfl w.heap.size 26 i0 _ 1 24 underlying34 HI.out Kp.out Kf.out Ko.out rfl (by decide) _ _ _ rfl (f.out.alloc _) ⟨_,0,none⟩ 1 1 [.slice A3 E.length c3] rfl rfl (dd _ _ _) (by simp[Value.oneCell']) (by unfold maxLen;omega) (by omega) (by simp;omega) ?_;intro v1 w4 s G _;have Js:=aO j.out Kg f.out G;have Kj:=hid (bp (P.out.alloc _) G (fD P.out f.out (by decide)));have Jo:=hid (bp (Jw.out.alloc _) G (fD Jw.out f.out (by decide)));have Ke:=hid (λy i=>bp ((I.out y i).alloc _) G (fD (I.out y i) f.out (by decide)));have Jb:=hid Js;have Kh:=hid s;clear Js s G)
    refine (Jd.out _ _ _ _ _ (Rd.of_own Kj.out) (Rd.of_own Jo.out)).mono ?_;rintro e w5 ⟨g5,c5,rfl,p,D⟩;have Kr:=hid (Jb.out.trans (D.mono Jb.out.size));have Kq:=hid (am p Jb.out.size);have Kk:=hid (ak Kh.out D (kqa _));have Kt:=hid (ak Jo.out D (kqa _));have Kd:=hid (λy i=>ak (Ke.out y i) D (kqa _));clear p D;go_wp2_with fail;have Ji:=Kb.out;go_roundg (rzM x)
    case rel =>
     refine⟨y,L++[⟨A3,c3,E⟩],g5,c5,rfl,Km.out,Jy.out,Jp.out,?_,?_,Kq.out,?_,?_,Kr.out⟩
     .rw[kjy];exact Jt.out
     .rw[kqs];show L.length+1+_<=_;omega
     .have h5:=Kk.out;rw[kqs,kxf];exact h5
     intro z hz;rcases kzu.1 hz with h6|h6
     .exact Kd.out z h6
     rw[kqx] at h6;subst h6;exact Kt.out
    case measure=>exact Ji
  have H:=hid (Ka.out t);have Jm:(r != 0)=true:=by rw[kqu];exact t
  have Ks:=hid t;clear t;go_wp2_with fail;refine J.out.mono ?_;rintro e w3 ⟨⟨A3,c3,rfl,-⟩,a⟩;have j:=hid (HB.out.trans (a.mono HB.out.size));clear a;go_wp2;go_ret3;exact⟨t9 (by rw[k.out,H.out]) Ks.out,j.out⟩
 have H:=hid (show ip ws=(aw ws,[],[]) by unfold ip;rw[if_neg S]);have Jm:(aw ws != 0)=true:=by rw[kqu];exact S
 have Jh:=hid S;obtain⟨r,Jl⟩:=xq (aw ws);rw[Jl] at N H Jm Jh;clear R ho S Jl;go_enter func18,ntmps18;go_wp2_with fail;refine N.out.mono ?_;rintro e w1 ⟨rfl,o⟩;go_wp2;go_ret3;exact⟨t9 H.out Jh.out,o⟩
end Go.Proofs.YtpcajamacpbjcaaGreat
