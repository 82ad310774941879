/- Texts laid together: Fin RsN RsA. -/
import Derived.Test.YtpcajamacpbjcaaGreatZKRs
import Derived.Test.YtpcajamacpbjcaaGreatZKHeap
import Derived.Test.YtpcajamacpbjcaaGreatZKRch
import Derived.Laws.OwnMore
import Derived.Test.YtpcajamacpbjcaaGreatZKStg2
set_option maxHeartbeats 16000000
set_option maxRecDepth 100000
set_option linter.all false
namespace Go.Proofs.YtpcajamacpbjcaaGreat
open Lib (hid)
open Go.RowKit
variable {k:Nat}
open Go.Proofs.Tryz
theorem fEnd_c(A:Option Addr)(ws:List Nat)(c n:Nat)(w:World)(hn:ws.length=n)(hm:n<=9223372036854775807)(hc:n<=c)(G:RdW w w.heap.size A ws)(ho:∀x∈ws,x<18446744073709551616):
 Calls prog 104 #[.slice A n c] w λe w'=>e=.returned (.tuple #[.int .i64 (eU ws:Nat),.int .i64 (eF ws)])/\Below w.heap.size w w':=by
 subst hn;have C:=hid G;have m:=hid (λW (h:RdW W W.heap.size A ws)=>mD A ws c ws.length W rfl hm hc h ho);have i:=hid (λW (h:RdW W W.heap.size A ws)=>uX A ws c ws.length W rfl hm hc h ho);have l:=hid (λW (h:RdW W W.heap.size A ws)=>F4 A ws c ws.length W rfl hm hc h ho);clear G ho;by_cases p:av ws=0
 .have D:=kv p;have F:lnV ws=phV (wd ws 16) (wd ws 17) (wd ws 18):=by simp[lnV,D]
  have j:=hid (λO X=>CR p O X);have s:=hid (λO=>DN p O);have I:Hid (eF ws=6->eU ws=0):=hid λh=>by simp[eU,h]
  rw[p] at m l;rw[D,F] at i;unfold phV at i;obtain⟨x,M⟩:=xq (wd ws 16);obtain⟨y,T⟩:=xq (wd ws 17);obtain⟨z,R⟩:=xq (wd ws 18);obtain⟨N,L⟩:=xq (lfN ws);rw[M,T,R] at i;rw[M,L] at j s;rw[R] at j;rw[L] at l;have E:(x=4/\N=0)\/(x=4/\N≠0)\/x≠4:=by omega
  clear p D F M T R L;rcases E with⟨H,J⟩|⟨H,J⟩|H
  .have q:=hid (j.out H J);subst H J;simp only[kzb] at i l;clear j s;go_enter func104,ntmps104;go_wp2_with fail;refine (m.out _ C.out).mono ?_;rintro e U ⟨rfl,a⟩;have d:=hid a;have t:=hid (C.out.up a a.size);clear a;go_wp2_with fail;refine (i.out _ t.out).mono ?_;rintro e K ⟨rfl,g⟩;have b:=hid ((d.out.trans (g.mono d.out.size)).alloc (by have:=g.size;have:=d.out.size;omega) (.cells #[.int .i64 4,.int .i64 (y:Int),.int .i64 (z:Int)] 107));have u:=hid (C.out.up b.out b.out.size);have k:=hid (Bx.new K 107 #[.int .i64 4,.int .i64 (y:Int),.int .i64 (z:Int)]);clear g;go_wp2_with fail;refine (l.out _ u.out).mono ?_;rintro e w3 ⟨rfl,f⟩;have o:=k.out.up f k.out.lt;obtain⟨Z,Y,V,-⟩:=o.c3;have B:=hid (b.out.trans (f.mono b.out.size));clear f o;go_wp2;go_ret2;exact⟨by rw[q.out.1,q.out.2];rfl,B.out⟩
  all_goals
   have q:=hid (s.out (by omega));have v:=hid (I.out q.out);have S:(x=4/\((x:Int) != 4)=false/\(x != 4)=false/\decide ((0:Int)<(N:Int))=true/\decide (0<N)=true)\/((x:Int) != 4)=true/\(x != 4)=true:=by
    by_cases h:x=4
    .left;exact⟨h,by rw[kqq];omega,by rw[kqq];exact h,by rw[kqo];omega,by rw[kqo];omega⟩
    right;exact⟨by rw[kqt];omega,by rw[kqt];exact h⟩
   clear j s I;(try clear J);clear H;rcases S with⟨-,P,Q,hx3,hx4⟩|⟨P,Q⟩
   all_goals
    go_enter func104,ntmps104;go_wp2_with fail;refine (m.out _ C.out).mono ?_;rintro e U ⟨rfl,a⟩;have d:=hid a;have t:=hid (C.out.up a a.size);clear a;go_wp2_with fail;refine (i.out _ t.out).mono ?_;rintro e K ⟨rfl,g⟩;have b:=hid ((d.out.trans (g.mono d.out.size)).alloc (by have:=g.size;have:=d.out.size;omega) (.cells #[.int .i64 (x:Int),.int .i64 (y:Int),.int .i64 (z:Int)] 107));have u:=hid (C.out.up b.out b.out.size);have k:=hid (Bx.new K 107 #[.int .i64 (x:Int),.int .i64 (y:Int),.int .i64 (z:Int)]);clear g;go_wp2_with fail;refine (l.out _ u.out).mono ?_;rintro e w3 ⟨rfl,f⟩;have o:=k.out.up f k.out.lt;obtain⟨Z,Y,V,-⟩:=o.c3;have B:=hid (b.out.trans (f.mono b.out.size));clear f o;go_wp2;go_ret2;exact⟨by rw[q.out,v.out];rfl,B.out⟩
 have q:=hid (D0 (ws:=ws) rfl p);have v:Hid (eU ws=0):=hid (by simp[eU,q.out,p]);obtain⟨r,G⟩:=xq (av ws);rw[G] at m p q;have hrn:(r != 0)=true:=by rw[kqt];exact p
 clear p G;go_enter func104,ntmps104;go_wp2_with fail;refine (m.out _ C.out).mono ?_;rintro e U ⟨rfl,a⟩;go_wp2;go_ret2;exact⟨by rw[q.out,v.out];rfl,a⟩
theorem Ch.atE{w:World}{B:Nat}{A:Option Addr}{l:List Ch}(h:Rd w B A (l.flatMap Ch.cells))(hk:k<l.length):∃b off,A=some ⟨b,off,none⟩/\b<B/\w.cell? ⟨b,off+k,none⟩=some (.slice l[k].A l[k].l.length l[k].c):=RdC.at_ h hk
def pB (l:List Ch):List En:=l.flatMap Ch.l
theorem Dy(A:Option Addr)(l:List Ch)(c n H:Nat)(w:World)(hn:l.length=n)(hlen:∀k,(pB (l.take k)).length<=1000)(d:∀x∈l,x.l.length<=1000)(hm:n<=1000)(hr:Rd w H A (l.flatMap Ch.cells))(he:∀x∈l,RdE w H x.A x.l/\(x.A=none->x.c=0))(hH:H<=w.heap.size):
 Calls prog 106 #[.slice A n c] w λe w'=>(∃v,e=.returned v/\w'.ownsRow w.heap.size 89 2 v (pB l).length ((pB l).flatMap En.cells))/\Below w.heap.size w w':=by
 subst hn;have T:=hid (hr.more hH);have C:Hid (∀k (h:k<l.length),RdE w w.heap.size l[k].A l[k].l/\(l[k].A=none->l[k].c=0)):=hid λk h=>⟨(he _ (kqm h)).1.more hH,(he _ (kqm h)).2⟩;have L:Hid (∀k (h:k<l.length),l[k].l.length<=1000):=hid λk h=>d _ (kqm h);have y:=hid hlen;have I:Hid (∀k (h:k<l.length),pB (l.take (k+1))=pB (l.take k)++l[k].l):=hid λk h=>by unfold pB;rw[kqp h,kxl];simp
 clear hr he hH hlen d;obtain⟨S,O,q,u,s⟩:=kzt dp;have U:=hid O;have F:=hid q;have z:=hid u;have D:=hid s;clear O q u s;go_enter func106,ntmps106;go_wp2_with fail;go_loopw [3,8] (λv i wr=>∃k:Nat,k<=l.length/\i=.int .i64 k/\wr.ownsRow w.heap.size 89 2 v (pB (l.take k)).length ((pB (l.take k)).flatMap En.cells)/\Below w.heap.size w wr) (λ_ i _=>l.length-(intOf i).toNat)
 case atStart=>exact⟨0,kqy _,rfl,kq3 _ _ _ _,kql _ _⟩
 obtain⟨k,hk,rfl,a,r⟩:=hrel;have P:=r.size;by_cases f:k<l.length
 .obtain ⟨b,off,rfl,hb,Q⟩:=Ch.atE (Rd.below T.out r) f;obtain⟨j,p⟩:=C.out k f;have d:=L.out k f;have B:=y.out k;have g:=hid (I.out k f);obtain⟨x,N⟩:=xq (l[k]);rw[N] at Q j p d g;obtain⟨R,xc,G⟩:=x;dsimp only at Q j p d g;obtain⟨m,t⟩:=xq (pB (l.take k));rw[t] at a g B;have hk1:(k:Int)<(l.length:Int):=by omega
  have hk0:(0:Int)<=(k:Int):=by omega
  have K:=hid (Rd.below j r);have J:=hid (bE En.cells 2 En.len G);clear N t j p;go_wp2_with (at_builtin;refine aS _ (by rfl) _ _ 26 rfl w.heap.size 89 S _ 2 16 underlying26 U.out F.out z.out D.out rfl (by decide) _ _ _ (by rfl) a w.heap.size R G.length _ (G.flatMap En.cells) (by rfl) J.out K.out (cG En.one _) (by unfold maxLen;omega) (by omega) P ?_;intro v1 wa o M;have E:=bv r P a M);go_roundw
  case rel=>exact⟨k+1,by omega,by go_num,by rw[g.out,kqw,kxl];exact o,E⟩
  case measure=>simp[intOf];omega
 rw[kzg (by omega)] at a;go_wp2;go_ret;exact⟨⟨_,rfl,a⟩,r⟩
def lnE (k:Nat):List En:=(List.range 3).map λi=>(⟨if i<k then ((16+i:Nat):Int) else 0,0⟩:En)
theorem Hb(k:Nat):(lnE k).length=3:=by simp[lnE]
theorem CH(hk:k<3):lnE (k+1)=(lnE k).set k ⟨16+(k:Int),0⟩:=by
 match k,hk with
 | 0,_=>rfl
 | 1,_=>rfl
 | 2,_=>rfl
theorem Hw(hk:k<3):(lnE k)[k]? = some ⟨0,0⟩:=by
 match k,hk with
 | 0,_=>rfl
 | 1,_=>rfl
 | 2,_=>rfl
theorem GE(l:List En)(k:Nat)(x:En)(a:Int)(hk:l[k]? = some x):(l.set k ⟨a,x.v⟩).flatMap En.cells=(l.flatMap En.cells).set (k*2) (.int .i64 a):=
 eh En.cells 2 En.len l k 0 (by omega) ⟨a,x.v⟩ (.int .i64 a) (λy b=>by rw[hk] at b;cases b;rfl)
theorem Da:(madeCells #[Value.int .i64 0,.int .u64 0] (3*2)).toList=(lnE 0).flatMap En.cells:=by kernel_rfl
theorem xE(A:Option Addr)(ws:List Nat)(c n:Nat)(w:World)(hn:ws.length=n)(hm:n<=9223372036854775807)(hc:n<=c)(L:RdW w w.heap.size A ws)(ho:∀x∈ws,x<18446744073709551616):
 Calls prog 57 #[.slice A n c] w λe w'=>io w.heap.size (eF ws) (du ws) e w'/\Below w.heap.size w w':=by
 subst hn;have K:=hid (fEnd_c A ws c ws.length w rfl hm hc L ho);clear L ho;by_cases s:eF ws=0
 .obtain ⟨hs,-,-,-,h5,h6,-,h8⟩:=hG s;have hb:=(ac _).1 hs;have hi:=(aQ _).1 h5;rw[<-h8] at hi h6;have F:=hid (λh=>sQ s h);have HE:=hid s;have d:Hid (du ws=phE 0 0 0++(if eU ws=ws.length then [] else [⟨(eU ws:Int),cg (cJ (ws.length-eU ws))⟩,⟨((eU ws+1:Nat):Int),0⟩])):=hid (by simp[du,s]);rw[s] at K;obtain⟨t,ht⟩:=xq (eU ws);rw[ht] at K F d hi h6;have hlen:ws.length<=2048:=by omega
  have ht1:t<=2048:=hi.2.1;obtain⟨i0,Jb,N,Je,R⟩:=kzt dp;have z:=hid (And.intro Jb (And.intro N (And.intro Je R)));clear ht s h8 h5 hs hb hi Jb N Je R;go_enter func57,ntmps57;go_wp2_with fail;refine K.out.mono ?_;rintro e b ⟨rfl,B⟩;obtain⟨W0,V,l,O⟩:=run_make_full (P:=prog) b b.heap.size 26 89 i0 (.agg #[.int .i64 0,.int .u64 0]) 2 underlying26 z.out.1 z.out.2.1 z.out.2.2.1 .i64 .i64 3 (by rw[z.out.2.2.2];omega) (by unfold maxLen;omega) (kqg _);have o:W0.ownsRow b.heap.size 89 2 (.slice (some ⟨b.heap.size,0,none⟩) 3 3) 3 ((lnE 0).flatMap En.cells):=by rw[<-Da];exact l
  have Jj:=hid o;have m:=hid B;have Jf:=hid ((kql b.heap.size b).grown O (kqg _) (λk hk=>by cases hk));simp only[kzb] at V;clear l O o B;go_wp2_with fail;clear V;go_loopw [19] (λi wr=>∃k:Nat,k<=3/\i=.int .i64 k/\wr.ownsRow b.heap.size 89 2 (.slice (some ⟨b.heap.size,0,none⟩) 3 3) 3 ((lnE k).flatMap En.cells)/\Below b.heap.size b wr) (λi _=>3-(intOf i).toNat)
  case atStart=>exact⟨0,kqy _,rfl,Jj.out,Jf.out⟩
  obtain⟨k,hk,rfl,a,hB⟩:=hrel;have hz:=hB.size;by_cases Eq:k<3
  .have HS:=hid (show (lnE (k+1)).flatMap En.cells=((lnE k).flatMap En.cells).set (k*2) (.int .i64 (16+(k:Int))) by
    rw[CH Eq];exact GE _ _ ⟨0,0⟩ _ (Hw Eq))
   obtain⟨u0,X⟩:∃u0,((lnE k).flatMap En.cells)[k*2]? = some u0:=⟨_,kqj (by rw[bE En.cells 2 En.len,Hb];omega)⟩;have d0:=(a.cellAt (k*2) (by omega)).trans X;have e0:=a.frozenAt (k*2);have j:=hid a;have hk1:(k:Int)<3:=by omega
   have hk0:(0:Int)<=(k:Int):=by omega
   clear X a;go_wp2;go_roundw
   case rel=>exact⟨k+1,by omega,by go_num,by rw[HS.out];exact (j.out.stored (k*2) _).1,hB.setCell (p:=⟨b.heap.size,k*2,none⟩) (kqg _) _⟩
   case measure=>simp[intOf];omega
  obtain rfl:k=3:=by omega
  rw[show lnE 3=phE 0 0 0 from rfl] at a;have j:=hid a;clear a;by_cases g:t=ws.length
  .have Jl:((t:Int)==(ws.length:Int))=true:=by rw[kqx];omega
   have Q:(t==ws.length)=true:=by rw[kqx];exact g
   have C:=hid (show du ws=phE 0 0 0 by rw[d.out,if_pos g,kz1]);clear g d;go_wp2;go_ret2;exact⟨⟨some ⟨b.heap.size,0,none⟩,3,by rw[C.out,HE.out];rfl,by rw[C.out];exact aB j.out m.out.size⟩,m.out.trans (hB.mono m.out.size)⟩
  have Jl:((t:Int)==(ws.length:Int))=false:=by rw[kqi];omega
  have Q:(t==ws.length)=false:=by rw[kqi];exact g
  have C:=hid (show du ws=phE 0 0 0++[⟨(t:Int),cg (cJ (ws.length-t))⟩,⟨((t+1:Nat):Int),0⟩] by rw[d.out,if_neg g]);have I:=F.out g;have u:=hid (λW=>pZ (cJ (ws.length-t)) W);rw[show iX (cJ (ws.length-t))=cg (cJ (ws.length-t)) by simp[iX,I],ix I] at u;rw[show (cJ (ws.length-t)).val=.agg #[.int .i64 0,.int .i64 ((ws.length-t:Nat):Int),.int .i64 2,.int .i64 0,.bool false,.int .u64 0] from rfl] at u;have hws:IntKind.i64.wrap ((ws.length:Int)-(t:Int))=((ws.length-t:Nat):Int):=by rw[kqr _ (by omega)];omega
  have hwt:IntKind.i64.wrap ((t:Int)+1)=(t:Int)+1:=kqr _ (by omega);obtain⟨y,S⟩:=xq (cg (cJ (ws.length-t)));rw[S] at u C;have Y:=hid (m.out.trans (hB.mono m.out.size));clear g d F I S;go_wp2_with fail;refine (u.out _).mono ?_;rintro e q ⟨rfl,G⟩;have E:=hid (Y.out.trans (G.mono Y.out.size));have Ji:=hid (aj j.out G (kqg _));clear G;go_wp2_with fail;have M:=Bx.new q 89 #[.int .i64 (t:Int),.int .u64 (y:Int),.int .i64 ((t:Int)+1),.int .u64 0];have U:=Bx.new (q.alloc (.cells #[.int .i64 (t:Int),.int .u64 (y:Int),.int .i64 ((t:Int)+1),.int .u64 0] 89)) 26 #[.slice (some ⟨b.heap.size,0,none⟩) 3 3,.slice (some ⟨q.heap.size,0,none⟩) 2 2];simp only[kqn] at U;have J:=(E.out.alloc E.out.size (.cells #[.int .i64 (t:Int),.int .u64 (y:Int),.int .i64 ((t:Int)+1),.int .u64 0] 89)).alloc (bM E.out.size) (.cells #[.slice (some ⟨b.heap.size,0,none⟩) 3 3,.slice (some ⟨q.heap.size,0,none⟩) 2 2] 26);have D:=(Ji.out.alloc (.cells #[.int .i64 (t:Int),.int .u64 (y:Int),.int .i64 ((t:Int)+1),.int .u64 0] 89)).alloc (.cells #[.slice (some ⟨b.heap.size,0,none⟩) 3 3,.slice (some ⟨q.heap.size,0,none⟩) 2 2] 26);replace M:=M.alloc (.cells #[.slice (some ⟨b.heap.size,0,none⟩) 3 3,.slice (some ⟨q.heap.size,0,none⟩) 2 2] 26)
  obtain⟨Z,hZ⟩:∃Z,(q.alloc (.cells #[.int .i64 (t:Int),.int .u64 (y:Int),.int .i64 ((t:Int)+1),.int .u64 0] 89)).alloc (.cells #[.slice (some ⟨b.heap.size,0,none⟩) 3 3,.slice (some ⟨q.heap.size,0,none⟩) 2 2] 26)=Z:=⟨_,rfl⟩;rw[hZ] at M U J D |-;clear hZ;have Jc:=kju t 1;have HJ:=Dy (some ⟨q.heap.size+1,0,none⟩) [⟨some ⟨b.heap.size,0,none⟩,3,phE 0 0 0⟩,⟨some ⟨q.heap.size,0,none⟩,2,[⟨(t:Int),y⟩,⟨((t+1:Nat):Int),0⟩]⟩] 2 2 Z.heap.size Z rfl (λk=>by
   match k with
   | 0=>show (0:Nat)<=1000;omega
   | 1=>show (3:Nat)<=1000;omega
   | k+2=>rw[kzg (by simp)];show (5:Nat)<=1000;omega) (λx hx=>by
   simp only[kq0,kzu,or_false] at hx;rcases hx with rfl|rfl
   .show (3:Nat)<=1000;omega
   .show (2:Nat)<=1000;omega) (by omega) (show Rd Z _ _ _ from Rd.of_box U U.lt) (λx hx=>by
   simp only[kq0,kzu,or_false] at hx;rcases hx with rfl|rfl
   .exact ⟨Rd.of_own D,λh=>by cases h⟩
   refine⟨?_,λh=>by cases h⟩;have:=Rd.of_box M M.lt;show Rd Z _ _ [.int .i64 (t:Int),.int .u64 (y:Int),.int .i64 ((t+1:Nat):Int),.int .u64 ((0:Nat):Int)];rw[Jc];exact this) (kqg _)
  have Jk:=hid HJ;have H:=hid J;clear HJ M U J D Jc;refine Jk.out.mono ?_;rintro e w5 ⟨⟨v,rfl,f⟩,T⟩;obtain⟨A5,c5,rfl,Ja,Jd⟩:=jh f;have Jg:=hid (aB f H.out.size);have Jh:=hid (H.out.trans (T.mono H.out.size));clear f Jd Ja T;go_wp2;go_ret2;exact⟨⟨A5,c5,by rw[C.out,HE.out];rfl,by rw[C.out];exact Jg.out⟩,Jh.out⟩
 have ho:du ws=[]:=by simp[du,s]
 have C:=hid ho;obtain⟨r,L⟩:=xq (eF ws);have HE:=hid L;rw[L] at K s;have hrn:(r != 0)=true:=by rw[kqt];exact s
 obtain⟨t,ht⟩:=xq (eU ws);rw[ht] at K;clear s L ht ho;go_enter func57,ntmps57;go_wp2_with fail;refine K.out.mono ?_;rintro e b ⟨rfl,B⟩;go_wp2;go_ret2;exact⟨bu HE.out C.out,B⟩
def NxRes (H:Nat) (r:Int) (d:Bool) (E:List En) (e:Ending) (w':World):Prop:=∃A c,e=.returned (.tuple #[.slice A E.length c,.bool d,.int .i64 r])/\w'.ownsRow H 89 2 (.slice A E.length c) E.length (E.flatMap En.cells)
theorem FB(A:Option Addr)(ws:List Nat)(c n:Nat)(w:World)(hn:ws.length=n)(hm:n<=9223372036854775807)(hc:n<=c)(hr:RdW w w.heap.size A ws)(ho:∀x∈ws,x<18446744073709551616):
 Calls prog 54 #[.slice A n c] w λe w'=>NxRes w.heap.size (cQ ws).1 (cQ ws).2.1 (cQ ws).2.2 e w'/\Below w.heap.size w w':=by
 subst hn;have K:=hid hr;have d:=hid (H6 A ws c ws.length w rfl hm hc hr ho);have b:=hid (λW (h:RdW W W.heap.size A ws)=>uX A ws c ws.length W rfl hm hc h ho);have p:=hid (λW (h:RdW W W.heap.size A ws)=>xE A ws c ws.length W rfl hm hc h ho);unfold io at d p;by_cases l:(ae ws).1=6
 .have q:=Fj l;obtain⟨y,L,M,-⟩:=cr q;have U:=(ac _).1 L;obtain⟨⟨I,C,R⟩,-⟩:=(bj ws).1 M;have o:=kv q;have s:lnV ws=phV (wd ws 16) (wd ws 17) (wd ws 18):=by simp[lnV,o]
  rw[s,o] at b;unfold phV at b;rw[l] at d;obtain⟨E,O⟩:=xq ((ae ws).2);rw[O] at d;by_cases v:wd ws 16=0
  .have f:=hid (show cQ ws=(0,true,[]) by unfold cQ;rw[if_pos l,if_pos v]);rw[v] at b;generalize wd ws 17=F at b;generalize wd ws 18=T at b;clear hr ho l v q y L M o s O U I C R;go_enter func54,ntmps54;go_wp2_with fail;refine d.out.mono ?_;rintro e S ⟨⟨J,D,rfl,-⟩,a⟩;have g:=hid a;have u:=hid (K.out.up a a.size);clear a;go_wp2_with fail;refine (b.out _ u.out).mono ?_;rintro e X ⟨rfl,m⟩;have B:=hid (g.out.trans (m.mono g.out.size));clear m;go_wp2;go_ret3;exact⟨⟨none,0,by rw[f.out];rfl,by rw[f.out];exact kq3 _ _ _ _⟩,B.out.alloc B.out.size _⟩
  have f:=hid (show cQ ws=(eF ws,false,du ws) by unfold cQ;rw[if_pos l,if_neg v]);generalize wd ws 17=F at b C;generalize wd ws 18=T at b R;generalize eF ws=r at p f;generalize du ws=Z at p f;generalize wd ws 16=P at b v I;have Y:((P:Int)==0)=false:=by rw[kqi];omega
  have V:(P==0)=false:=by rw[kqi];exact v
  have p3:decide (P=0)=false:=by rw[kqh];exact v
  clear hr ho l q y L M o s O U I C R;go_enter func54,ntmps54;go_wp2_with fail;refine d.out.mono ?_;rintro e S ⟨⟨J,D,rfl,-⟩,a⟩;have g:=hid a;have u:=hid (K.out.up a a.size);clear a;go_wp2_with fail;refine (b.out _ u.out).mono ?_;rintro e X ⟨rfl,m⟩;have t:=g.out.trans (m.mono g.out.size);have i:=hid (t.alloc t.size (.cells #[.int .i64 (P:Int),.int .i64 (F:Int),.int .i64 (T:Int)] 107));have N:=hid (K.out.up i.out i.out.size);clear m t;go_wp2_with fail;refine (p.out _ N.out).mono ?_;rintro e w3 ⟨⟨A3,c3,rfl,j⟩,z⟩;have H:=hid (i.out.trans (z.mono i.out.size));have Q:=hid (aB j i.out.size);clear z j;go_wp2;go_ret3;exact⟨⟨A3,c3,by rw[f.out];rfl,by rw[f.out];exact Q.out⟩,H.out⟩
 have f:=hid (show cQ ws=((ae ws).1,false,(ae ws).2) by unfold cQ;rw[if_neg l]);generalize (ae ws).2=E at d f;generalize (ae ws).1=r at d f l;have Y:((r:Int)==6)=false:=by rw[kqi];exact l
 have V:((r:Int) != 6)=true:=by rw[kqt];exact l
 clear hr ho l;go_enter func54,ntmps54;go_wp2_with fail;refine d.out.mono ?_;rintro e S ⟨⟨J,D,rfl,k⟩,a⟩;have G:=hid k;clear k;go_wp2;go_ret3;exact⟨⟨J,D,by rw[f.out];rfl,by rw[f.out];exact G.out⟩,a⟩
def FV (ws:List Nat) (H:Nat) (e:Ending) (w':World):Prop:=∃(L:List Ch) (B:Option Addr) (d:Nat) (vx:Value),e=.returned (.tuple #[.slice B L.length d,vx,.int .i64 (gD ws).1])/\L.map Ch.l=(gD ws).2.1/\OwnC w' H B d L /\
 ((gD ws).1=0->∃g c,vx=.slice (some ⟨g,0,none⟩) ws.length c/\(gD ws).2.2.length=ws.length/\w'.ownsRow H 53 1 (.slice (some ⟨g,0,none⟩) ws.length c) ws.length ((gD ws).2.2.flatMap ai))/\((gD ws).1≠0->vx=.slice none 0 0)
theorem uq{ws:List Nat}{H:Nat}{r:Int}{w':World}(h:gD ws=(r,[],[]))(h0:r≠0):FV ws H (.returned (.tuple #[.slice none 0 0,.slice none 0 0,.int .i64 r])) w':=by refine⟨[],none,0,.slice none 0 0,by rw[h];rfl,by rw[h];rfl,⟨kq3 _ _ _ _,λx b=>by simp at b⟩,λa=>?_,λ_=>rfl⟩;rw[h] at a;exact absurd a h0
theorem rAll_c(A:Option Addr)(ws:List Nat)(c n:Nat)(w:World)(hn:ws.length=n)(hm:n<=9223372036854775807)(hc:n<=c)(S:RdW w w.heap.size A ws)(ho:∀x∈ws,x<18446744073709551616):
 Calls prog 18 #[.slice A n c] w λe w'=>FV ws w.heap.size e w'/\Below w.heap.size w w':=by
 subst hn;have HR:=hid S;have I:=hid (mD A ws c ws.length w rfl hm hc S ho);by_cases T:av ws=0
 .obtain ⟨-,hs,-,-⟩:=cr T;have hb:=(ac _).1 hs;have j:=hid (show gD ws=rsE ws by unfold gD;rw[if_pos T]);rw[T] at I;have Eq:=hid (λW (h:RdW W W.heap.size A ws)=>A0 A none ws [] c 0 ws.length 0 W.heap.size W rfl rfl hs (by omega) (λe he=>absurd he (by simp)) h Rd.nil_ (kqg _));unfold OwnV at Eq;simp only[ak] at Eq;have Jp:=hid (λA2 B x E c d W (hx:x.length=ws.length) (hE:Small ws.length E) (h:RdW W W.heap.size A2 x) (h2:RdE W W.heap.size B E)=>A0 A2 B x E c d ws.length E.length W.heap.size W hx rfl hs hE.le (λe he=>by have:=hE.ins e he;omega) h h2 (kqg _));unfold OwnV at Jp;have Jz:=hid (λA2 x c2 W (hx:x.length=ws.length) (hc2:ws.length<=c2) (hox:∀v∈x,v<18446744073709551616) (h:RdW W W.heap.size A2 x)=>FB A2 x c2 ws.length W hx hm hc2 h hox);unfold NxRes at Jz;have k:=hid (gQ ho);have HO:=hid ho;have hlen:ws.length<=2048:=by omega
  have h16:16<ws.length:=by omega
  have hmz:rzM ws<=3000:=by have:=ET hs;omega
  obtain⟨i0,hi,Jg,Jy,Jj⟩:=kzt zX;have HI:=hid hi;have Ko:=hid Jg;have Km:=hid Jy;have Ke:=hid Jj;clear hi Jg Jy Jj;clear T hs hb S ho;go_enter func18,ntmps18;go_wp2_with fail;refine I.out.mono ?_;rintro e w1 ⟨rfl,m⟩;have Y:=hid m;have Kg:=hid (HR.out.up m m.size);clear m;go_wp2_with fail;refine (Eq.out _ Kg.out).mono ?_;rintro e w2 ⟨g2,c2,rfl,D,Jn⟩;have Kr:=hid (Y.out.trans (Jn.mono Y.out.size));have Kf:=hid (aB D Y.out.size);clear D Jn;go_wp2_with fail;go_loopg [6,8] (rzM ws+1) (λgk vx vo wr=>∃(x:List Nat) (L:List Ch) (g cx:Nat),vx=.slice (some ⟨g,0,none⟩) ws.length cx/\x.length=ws.length/\Hid (∀v∈x,v<18446744073709551616)/\Hid (rzM x<gk)/\Hid (ll ws (L.map Ch.l) x)/\L.length+gk<=rzM ws+1/\wr.ownsRow w.heap.size 53 1 (.slice (some ⟨g,0,none⟩) ws.length cx) ws.length (x.flatMap ai)/\wr.ownsRow w.heap.size 26 1 vo L.length (L.flatMap Ch.cells)/\Hid (∀y∈L,wr.ownsRow w.heap.size 89 2 (.slice y.A y.l.length y.c) y.l.length (y.l.flatMap En.cells))/\Below w.heap.size w wr)
  case atStart=>exact⟨ws,[],g2,c2,rfl,rfl,HO.out,kxs _,k.out,by simp,Kf.out,kq3 _ _ _ _,λy i=>absurd i (by simp),Kr.out⟩
  obtain⟨x,L,g,cx,rfl,U,Jb,Kn,Jf,hLg,b,s,Jw,hB⟩:=hrel;have hz:=hB.size;have C:=fp b;have R:=hid b;have Jo:=hid s;have HB:=hid hB;have J:=hid U;have HCP:=hid C;have Kj:=hid hz;have N:=hid (Jz.out (some ⟨g,0,none⟩) x cx wr U C Jb.out (Rd.of_own b));have k:=hid (λh hd=>xe Jf.out Jb.out h hd);have Jc:=hid (λh hd=>Cg Jf.out h hd);have Jv:=hid (λh=>zx Jf.out h);have M:=hid (λh hd=>vG Jb.out h hd);obtain⟨r,S⟩:=xq ((cQ x).1);obtain⟨dn,Z⟩:=xq ((cQ x).2.1);obtain⟨E,hE⟩:=xq ((cQ x).2.2);rw[S,Z,hE] at N;rw[S] at Jc Jv k M;rw[Z] at Jc k M;rw[hE] at k M;clear S hE Z b s hB U C hz;by_cases G:r=0
  .subst G;cases dn with
   | true =>have H:=hid (Jc.out rfl rfl);go_wp2_with fail;refine N.out.mono ?_;rintro e w3 ⟨⟨A3,c3,rfl,-⟩,a⟩;have o:=hid (HB.out.trans (a.mono HB.out.size));have K:=hid (aj R.out a (kqg _));have f:=hid (aj Jo.out a (kqg _));have O:=hid (λy i=>aj (Jw.out y i) a (kqg _));clear a;obtain⟨Bv,dv,rfl⟩:=aE f.out;go_wp2;go_ret3;exact⟨⟨L,Bv,dv,_,by rw[j.out,H.out];rfl,by rw[j.out,H.out],⟨f.out,O.out⟩,λ_=>⟨g,cx,rfl,by rw[j.out,H.out];exact J.out,by rw[j.out,H.out];exact K.out⟩,λh=>absurd (by rw[j.out,H.out]) h⟩,o.out⟩
   | false =>
    have Je:=k.out rfl rfl;obtain⟨P,X,Ja⟩:=M.out rfl rfl;rw[J.out] at P;have Jd:=hid (λA2 B c d W h h2=>Jp.out A2 B x E c d W J.out P h h2);have Q:(ak x E).length=ws.length:=by rw[aD];exact J.out
    rw[Q] at Jd;obtain⟨y,i⟩:=xq (ak x E);rw[i] at Je X Ja Jd Q;have Js:=hid Je;have Jt:=hid X;have Jm:=hid Ja;have Ka:=hid Q;have hEl:E.length<=32:=P.le;clear Je P X Ja Q i;go_wp2_with fail;refine N.out.mono ?_;rintro e w3 ⟨⟨A3,c3,rfl,t⟩,a⟩;have o:=hid (HB.out.trans (a.mono HB.out.size));have K:=hid (aj R.out a (kqg _));have f:=hid (aj Jo.out a (kqg _));have O:=hid (λy i=>aj (Jw.out y i) a (kqg _));have Jh:=hid (aB t Kj.out);have Kp:=o.out.size;clear a t;go_wp2_with (at_builtin;refine kzn _ rfl _ _ 34 rfl w.heap.size 26 i0 _ 1 24 underlying34 HI.out Ko.out Km.out Ke.out rfl (by decide) _ _ _ rfl (f.out.alloc _) ⟨_,0,none⟩ 1 1 [.slice A3 E.length c3] rfl rfl (bY _ _ _) (by simp[Value.oneCell']) (by unfold maxLen;omega) (by omega) (by simp;omega) ?_;intro v1 w4 F q _;have Jl:=aw o.out Kp f.out q;have Kb:=hid (aU (K.out.alloc _) q (eQ K.out f.out (by decide)));have Ji:=hid (aU (Jh.out.alloc _) q (eQ Jh.out f.out (by decide)));have Ks:=hid (λy i=>aU ((O.out y i).alloc _) q (eQ (O.out y i) f.out (by decide)));have V:=hid Jl;have Kk:=hid F;clear Jl F q)
    refine (Jd.out _ _ _ _ _ (Rd.of_own Kb.out) (Rd.of_own Ji.out)).mono ?_;rintro e w5 ⟨g5,c5,rfl,u,p⟩;have Ki:=hid (V.out.trans (p.mono V.out.size));have Kl:=hid (aB u V.out.size);have Kh:=hid (aj Kk.out p (kqg _));have Kq:=hid (aj Ji.out p (kqg _));have Kd:=hid (λy i=>aj (Ks.out y i) p (kqg _));clear u p;go_wp2_with fail;have Ju:=Kn.out;go_roundg (rzM x)
    case rel =>
     refine⟨y,L++[⟨A3,c3,E⟩],g5,c5,rfl,Ka.out,Jt.out,Jm.out,?_,?_,Kl.out,?_,?_,Ki.out⟩
     .rw[kxa];exact Js.out
     .rw[kqw];show L.length+1+_<=_;omega
     .have h5:=Kh.out;rw[kqw,kxl];exact h5
     intro z hz;rcases kzo.1 hz with h6|h6
     .exact Kd.out z h6
     rw[kq1] at h6;subst h6;exact Kq.out
    case measure=>exact Ju
  have H:=hid (Jv.out G);have Jk:(r != 0)=true:=by rw[kqt];exact G
  have Kc:=hid G;clear G;go_wp2_with fail;refine N.out.mono ?_;rintro e w3 ⟨⟨A3,c3,rfl,-⟩,a⟩;have o:=hid (HB.out.trans (a.mono HB.out.size));clear a;go_wp2;go_ret3;exact⟨uq (by rw[j.out,H.out]) Kc.out,o.out⟩
 have H:=hid (show gD ws=(av ws,[],[]) by unfold gD;rw[if_neg T]);have Jk:(av ws != 0)=true:=by rw[kqt];exact T
 have Jr:=hid T;obtain⟨r,Jq⟩:=xq (av ws);rw[Jq] at I H Jk Jr;clear S ho T Jq;go_enter func18,ntmps18;go_wp2_with fail;refine I.out.mono ?_;rintro e w1 ⟨rfl,m⟩;go_wp2;go_ret3;exact⟨uq H.out Jr.out,m⟩
end Go.Proofs.YtpcajamacpbjcaaGreat
