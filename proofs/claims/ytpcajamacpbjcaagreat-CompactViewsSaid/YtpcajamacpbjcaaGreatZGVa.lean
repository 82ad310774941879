/- References, on right heaps: which blocks are live, their places, an address's index, what a list of moves says, an object's references. -/
import Derived.Test.YtpcajamacpbjcaaGreatZR13R
import Derived.Test.YtpcajamacpbjcaaGreatZKFix
import Derived.Test.YtpcajamacpbjcaaGreatZKMove
import Derived.Test.YtpcajamacpbjcaaGreatZKPlace
import Derived.Test.YtpcajamacpbjcaaGreatZKHeap
import Derived.Test.YtpcajamacpbjcaaGreatZKCp2
import Derived.Test.YtpcajamacpbjcaaGreatZKR19
import Derived.Test.YtpcajamacpbjcaaGreatZKRch
import Derived.LoopTactic
set_option maxHeartbeats 16000000
set_option maxRecDepth 100000
set_option linter.all false
namespace Go.Proofs.YtpcajamacpbjcaaGreat
open Lib (hid)
open Go.RowKit
variable {l:List Bk}{F:List Bool}{ws:List Nat}{a i k n:Nat}
open Go.Proofs.Tryz
def qM (b:Bk):Value:=.agg #[.int .i64 b.at_,.int .i64 b.size,.int .i64 b.kind,.int .i64 b.typ,.bool b.mark,.int .u64 (b.next:Int)]
theorem pr(x:Bk)(w:World):Calls prog 247 #[qM x] w λe w'=>e=.returned (.bool (aA x))/\Below w.heap.size w w':=by
 obtain⟨f,xs,c,h,g,i⟩:=x;unfold aA qM;dsimp only;have d:=hid ((kqk w.heap.size w).alloc (kqb _) (.cells #[.int .i64 f,.int .i64 xs,.int .i64 c,.int .i64 h,.bool g,.int .u64 (i:Int)] 55));by_cases a:c=1
 .subst a;go_enter func247,ntmps247;go_wp2;go_ret;exact⟨by simp,d.out⟩
 have b:(c==1)=false:=by rw[kqi];exact a
 clear a;go_enter func247,ntmps247;go_wp2;go_ret;exact⟨by rw[b];rfl,d.out⟩
theorem wD(A:Option Addr)(l:List Bk)(c n:Nat)(s:Int)(w:World)(hn:l.length=n)(hm:n<=2048)(hb:∀k,k<=l.length->0<=aD (l.take k) s/\aD (l.take k) s<=4096)(hr:RdB w w.heap.size A l):
 Calls prog 243 #[.slice A n c,.int .i64 s] w λe w'=>(∃B d,e=.returned (.tuple #[.slice B n d,.int .i64 (aD l s)])/\w'.ownsRow w.heap.size 3 1 (.slice B n d) n ((aL l s).flatMap a8))/\Below w.heap.size w w':=by
 subst hn;have HR:=hid hr;have O:=hid hb;have U:Hid (∀k (h:k<l.length),aD (l.take (k+1)) s=if aA l[k] then aD (l.take k) s+l[k].size else aD (l.take k) s):=hid λk h=>fX h s;have R:Hid (∀k (h:k<l.length),(aL (l.take (k+1)) s).flatMap a8=(aL (l.take k) s).flatMap a8++[.int .i64 (if aA l[k] then aD (l.take k) s else 0)]):=hid λk h=>by
  rw[io h s,kz0];rfl
 clear hr hb;obtain⟨Z,hi,K,N,o⟩:=kze mO;have HI:=hid hi;have L:=hid K;have J:=hid N;have M:=hid o;clear hi K N o;go_enter func243,ntmps243;go_wp2_with fail;go_loopw [1,6,7] (λvs vo vi wr=>∃k:Nat,k<=l.length/\vi=.int .i64 k/\vs=.int .i64 (aD (l.take k) s)/\wr.ownsRow w.heap.size 3 1 vo k ((aL (l.take k) s).flatMap a8)/\Below w.heap.size w wr) (λ_ _ i _=>l.length-(intOf i).toNat)
 case atStart=>exact⟨0,kqx _,rfl,rfl,kq1 _ _ _ _,kqk _ _⟩
 obtain⟨k,hk,rfl,rfl,j,H⟩:=hrel;have hz:=H.size;by_cases C:k<l.length
 .obtain ⟨b,G,rfl,Y,q0,Q,q2,q3,q4,q5⟩:=RdB.at_ (Rd.below HR.out H) C;have a:=U.out k C;have g:=R.out k C;obtain⟨b1,b2⟩:=O.out k hk;obtain⟨V,T⟩:=O.out (k+1) C;obtain⟨x,X⟩:=xq (l[k]);rw[X] at q0 Q q2 q3 q4 q5 a g;obtain⟨u,W⟩:=xq (aD (l.take k) s);rw[W] at a g b1 b2 |-;have q:=hid (pr x wr);unfold qM at q;have hk0:(0:Int)<=(k:Int):=by omega
  have hk1:(k:Int)<(l.length:Int):=by omega
  have P:=hid j;have S:=hid H;obtain⟨xa,xs,xk,xt,xm,xn⟩:=x;dsimp only at q0 Q q2 q3 q4 q5 a q;cases E:aA ⟨xa,xs,xk,xt,xm,xn⟩
  .rw[E] at q a g;simp only[kzn,if_false] at a g;have t:=hid a;have y:=hid g;clear a g E X W j H V T;go_wp2_with fail;refine q.out.mono ?_;rintro e w2 ⟨rfl,m⟩;have v:=hid (ae P.out m (kqb _));have z:=hid (S.out.trans (m.mono hz));have o:=z.out.size;clear m;go_wp2_with (at_builtin;refine kq9 _ rfl _ _ 42 rfl w.heap.size 3 Z _ 1 8 underlying42 HI.out L.out J.out M.out rfl (by decide) _ _ _ rfl (v.out.alloc _) ⟨_,0,none⟩ 1 1 [.int .i64 0] rfl rfl (bn _ _ _) (by simp[Value.oneCell']) (by unfold maxLen;omega) (by omega) (by simp;omega) ?_;intro v1 w3 f r _;have D:=hid (am z.out o v.out r);have F:=hid f;clear f r);go_roundw
   case rel=>exact⟨k+1,by omega,by go_num,by rw[t.out],by rw[y.out];exact F.out,D.out⟩
   case measure=>simp[intOf];omega
  rw[E] at q a g;simp only[if_true] at a g;rw[a] at V T;have t:=hid a;have y:=hid g;have hw:IntKind.i64.wrap (u+xs)=u+xs:=kqo _ (by omega);have I:=Y;clear a g E X W j H V T;go_wp2_with fail;refine q.out.mono ?_;rintro e w2 ⟨rfl,m⟩;have v:=hid (ae P.out m (kqb _));have z:=hid (S.out.trans (m.mono hz));have o:=z.out.size;have HQ1:=hid ((m.cell (p:=⟨b,G+k*6+1,none⟩) (show b<wr.heap.size by omega)).trans Q);clear m;go_wp2_with (at_builtin;refine kq9 _ rfl _ _ 42 rfl w.heap.size 3 Z _ 1 8 underlying42 HI.out L.out J.out M.out rfl (by decide) _ _ _ rfl (v.out.alloc _) ⟨_,0,none⟩ 1 1 [.int .i64 u] rfl rfl (bn _ _ _) (by simp[Value.oneCell']) (by unfold maxLen;omega) (by omega) (by simp;omega) ?_;intro v1 w3 f r _;have D:=hid (am z.out o v.out r);have F:=hid f;have p1:=(D.out.cell (p:=⟨b,G+k*6+1,none⟩) I).trans ((S.out.cell (p:=⟨b,G+k*6+1,none⟩) I).symm.trans Q);clear f r);go_roundw
  case rel=>exact⟨k+1,by omega,by go_num,by rw[t.out],by rw[y.out];exact F.out,D.out⟩
  case measure=>simp[intOf];omega
 obtain rfl:k=l.length:=by omega
 rw[kzj] at j |-;obtain⟨Av,dv,rfl⟩:=ap j;go_wp2;go_ret2;exact⟨⟨Av,dv,rfl,j⟩,H⟩
theorem CO(A:Option Addr)(l:List (Int × Int))(c n:Nat)(a:Int)(w:World)(hn:l.length=n)(hm:n<=1000000)(hr:RdM w w.heap.size A l):
 Calls prog 278 #[.slice A n c,.int .i64 a] w λe w'=>e=.returned (.tuple #[.int .i64 ((fO l a).getD 0),.bool (fO l a).isSome])/\Below w.heap.size w w':=by
 subst hn;have D:=hid hr;have u:Hid (∀k (h:k<l.length),wj l a k->l[k].1=a->fO l a=some l[k].2):=hid λk h E C=>zq h E C;have t:Hid (wj l a l.length->fO l a=none):=hid ub;obtain⟨q,z⟩:=xq (fO l a);rw[z] at u t |-;clear hr z;go_enter func278,ntmps278;go_wp2_with fail;go_loopw [6] (λi wr=>∃k:Nat,k<=l.length/\i=.int .i64 k/\Hid (wj l a k)/\Below w.heap.size w wr) (λi _=>l.length-(intOf i).toNat)
 case atStart=>exact⟨0,kqx _,rfl,rfl,kqk _ _⟩
 obtain⟨k,hk,rfl,o,m⟩:=hrel;by_cases g:k<l.length
 .obtain ⟨b,off,rfl,hb,y,v⟩:=RdM.at_ (Rd.below D.out m) g;have p:=hid (λh=>qT g o.out h);have f:=hid (λh=>u.out k g o.out h);obtain⟨x,s⟩:=xq (l[k]);rw[s] at y v p f;obtain⟨r,x2⟩:=x;dsimp only at y v p f;have hk1:(k:Int)<(l.length:Int):=by omega
  have hk0:(0:Int)<=(k:Int):=by omega
  clear s;by_cases d:r=a
  .have B:(r==a)=true:=by rw[kqu];exact d
   have j:=hid (f.out d);clear d;go_wp2;go_ret2;exact⟨by rw[j.out];rfl,m⟩
  have B:(r==a)=false:=by rw[kqi];exact d
  have j:=hid (p.out d);clear d;go_wp2;go_roundw
  case rel=>exact⟨k+1,by omega,by go_num,j.out,m⟩
  case measure=>simp[intOf];omega
 have j:=hid (t.out (by have:=o.out;rwa [show k=l.length by omega] at this));go_wp2;go_ret2;exact⟨by rw[j.out];rfl,m⟩
def wz (l:List Bk) (a:Int):Int:=match l.findIdx? (λb=>b.at_==a&&b.kind==1) with
 | some k=>(k:Int)
 | none => -1
theorem wG{a:Int}(hk:k<l.length)(h:kb l a k)(h2:(l[k].at_==a&&l[k].kind==1)=true):wz l a=(k:Int):=by unfold wz;rw[kks.2 ⟨hk,h2,λj b=>by have:=h j b;rw[bo l j (by omega)] at this;rw[this];simp⟩]
theorem x9{a:Int}(h:kb l a l.length):wz l a = -1:=by
 unfold wz;rw[List.findIdx?_eq_none_iff.2 λb d=>by
  obtain⟨j,c,rfl⟩:=kqv d;have:=h j c;rw[bo l j c] at this;exact this]
theorem CM(A:Option Addr)(l:List Bk)(c n:Nat)(a:Int)(w:World)(hn:l.length=n)(hm:n<=1000000)(hr:RdB w w.heap.size A l):
 Calls prog 276 #[.slice A n c,.int .i64 a] w λe w'=>e=.returned (.int .i64 (wz l a))/\Below w.heap.size w w':=by
 subst hn;have I:=hid hr;have F:Hid (∀k (h:k<l.length),kb l a k->(l[k].at_==a&&l[k].kind==1)=true->wz l a=(k:Int)):=hid λk h z v=>wG h z v;have t:Hid (∀k (h:k<l.length),kb l a k->(l[k].at_==a&&l[k].kind==1)=false->kb l a (k+1)):=hid λk h z v=>oy z (by rw[bo l k h];exact v);have D:Hid (kb l a l.length->wz l a = -1):=hid x9;obtain⟨q,H⟩:=xq (wz l a);rw[H] at F D |-;have J:=hid (oC l a);clear hr H;go_enter func276,ntmps276;go_wp2_with fail;go_loopw [5] (λi wr=>∃k:Nat,k<=l.length/\i=.int .i64 k/\Hid (kb l a k)/\Below w.heap.size w wr) (λi _=>l.length-(intOf i).toNat)
 case atStart=>exact⟨0,kqx _,rfl,J,kqk _ _⟩
 obtain⟨k,hk,rfl,u,o⟩:=hrel;by_cases m:k<l.length
 .obtain ⟨b,off,rfl,hb,G,p1,E,p3,p4,p5⟩:=RdB.at_ (Rd.below I.out o) m;have r:=hid (λh=>t.out k m u.out h);have g:=hid (λh=>F.out k m u.out h);obtain⟨x,C⟩:=xq (l[k]);rw[C] at G E r g;obtain⟨s,xs,B,xt,xm,xn⟩:=x;dsimp only at G E r g;have hk1:(k:Int)<(l.length:Int):=by omega
  have hk0:(0:Int)<=(k:Int):=by omega
  clear C;by_cases d:s=a
  .have p:(s==a)=true:=by rw[kqu];exact d
   by_cases f:B=1
   .have y:(B==1)=true:=by rw[kqu];exact f
    have j:=hid (g.out (by rw[p,y];rfl));clear d f;go_wp2;go_ret;exact⟨by rw[j.out];rfl,o⟩
   have y:(B==1)=false:=by rw[kqi];exact f
   have j:=hid (r.out (by rw[p,y];rfl));clear d f;go_wp2;go_roundw
   case rel=>exact⟨k+1,by omega,by go_num,j,o⟩
   case measure=>simp[intOf];omega
  have p:(s==a)=false:=by rw[kqi];exact d
  have j:=hid (r.out (by rw[p];rfl));clear d;go_wp2;go_roundw
  case rel=>exact⟨k+1,by omega,by go_num,j,o⟩
  case measure=>simp[intOf];omega
 have j:=hid (D.out (by have:=u.out;rwa [show k=l.length by omega] at this));go_wp2;go_ret;exact⟨by rw[j.out];rfl,o⟩
theorem B5(A:Option Addr)(ws:List Nat)(c n t xa:Nat)(xs xk:Int)(xm:Bool)(xn:Nat)(w:World)(hn:ws.length=n)(hm:n<=1000000)(h2:256<=n)(ht:t<8)(hx:xa<=4096)(h:bE (wd ws (96+2*t)) (wd ws (96+2*t+1))=true)(C:RdW w w.heap.size A ws)(ho:∀x∈ws,x<18446744073709551616):
 Calls prog 245 #[.slice A n c,qM ⟨(xa:Int),xs,xk,(t:Int),xm,xn⟩] w λe w'=>(∃B d,e=.returned (.slice B (cU ws ⟨(xa:Int),xs,xk,(t:Int),xm,xn⟩).length d)/\w'.ownsRow w.heap.size 3 1 (.slice B (cU ws ⟨(xa:Int),xs,xk,(t:Int),xm,xn⟩).length d) (cU ws ⟨(xa:Int),xs,xk,(t:Int),xm,xn⟩).length ((cU ws ⟨(xa:Int),xs,xk,(t:Int),xm,xn⟩).flatMap a8))/\Below w.heap.size w w':=by
 have hF:cU ws ⟨(xa:Int),xs,xk,(t:Int),xm,xn⟩=lT (cm (wd ws (96+2*t))) (xa:Int) (cm (wd ws (96+2*t))).length:=by have e:rx ws ⟨(xa:Int),xs,xk,(t:Int),xm,xn⟩=bc (wd ws (96+2*t)) (wd ws (96+2*t+1)):=rfl;unfold cU;rw[e];unfold bc;rw[if_pos h]
 rw[hF];unfold qM;dsimp only;have HC:=hid (λW (C:RdW W W.heap.size A ws)=>mm A ws c n t W hn hm h2 ht h C ho);have Eq:(cm (wd ws (96+2*t))).length<=8:=by rw[cV];exact (fC h).1
 obtain⟨F,I⟩:=xq (cm (wd ws (96+2*t)));rw[I] at HC Eq |-;have HR:=hid C;have X:=hid (λj=>mB F (xa:Int) j);have R:=hid (λj=>kn F (xa:Int) j);have S:Hid (∀k (T:k<F.length),F[k]? = some F[k]):=hid λk T=>kqm T;have xb:=Bx.new w 55 #[.int .i64 (xa:Int),.int .i64 xs,.int .i64 xk,.int .i64 (t:Int),.bool xm,.int .u64 (xn:Int)];have E:=hid ((C.alloc (kqb _) (.cells #[.int .i64 (xa:Int),.int .i64 xs,.int .i64 xk,.int .i64 (t:Int),.bool xm,.int .u64 (xn:Int)] 55)).more (show w.heap.size<=(w.alloc (.cells #[.int .i64 (xa:Int),.int .i64 xs,.int .i64 xk,.int .i64 (t:Int),.bool xm,.int .u64 (xn:Int)] 55)).heap.size by simp));have o:=hid ((kqk w.heap.size w).alloc (kqb _) (.cells #[.int .i64 (xa:Int),.int .i64 xs,.int .i64 xk,.int .i64 (t:Int),.bool xm,.int .u64 (xn:Int)] 55));have H:w.heap.size<(w.alloc (.cells #[.int .i64 (xa:Int),.int .i64 xs,.int .i64 xk,.int .i64 (t:Int),.bool xm,.int .u64 (xn:Int)] 55)).heap.size:=by simp
 have Q:=hid xb;clear C ho h hn h2 xb hF I;obtain⟨i0,hi,y,D,z⟩:=kze mO;have HI:=hid hi;have U:=hid y;have Y:=hid D;have O:=hid z;clear hi y D z;go_enter func245,ntmps245;go_wp2_with fail;obtain⟨wn,J⟩:∃wn,w.alloc (.cells #[.int .i64 (xa:Int),.int .i64 xs,.int .i64 xk,.int .i64 (t:Int),.bool xm,.int .u64 (xn:Int)] 55)=wn:=⟨_,rfl⟩;rw[J] at E o Q H |-;clear J;refine (HC.out _ E.out).mono ?_;rintro e s ⟨⟨A1,c1,rfl,u⟩,m⟩;have X5:=hid (Q.out.up m Q.out.lt);have N:=hid u;have Z:=hid (o.out.trans (m.mono o.out.size));have q:w.heap.size<s.heap.size:=kxi H m.size;clear m u;go_wp2_with fail;go_loopw [7,8] (λvo vi wr=>∃k:Nat,k<=F.length/\vi=.int .i64 k/\wr.ownsRow s.heap.size 3 1 vo (lT F (xa:Int) k).length ((lT F (xa:Int) k).flatMap a8)/\Below s.heap.size s wr) (λ_ i _=>F.length-(intOf i).toNat)
 case atStart=>exact⟨0,kqx _,rfl,kq1 _ _ _ _,kqk _ _⟩
 obtain⟨k,T,rfl,a,r⟩:=hrel;have hz:=r.size;by_cases G:k<F.length
 .obtain ⟨b,off,rfl,hb,q0⟩:=RdI.at_ (Rd.below N.out r) (show k<(F.map λx:Nat=>(x:Int)).length by rw[kzl];exact G);rw[List.getElem_map] at q0;have g:=X.out k;rw[S.out k G] at g;have hrl:=R.out k;obtain⟨f,M⟩:=xq (F[k]);rw[M] at q0 g;have hk0:(0:Int)<=(k:Int):=by omega
  have hk1:(k:Int)<(F.length:Int):=by omega
  have p0:=(r.cell (p:=⟨w.heap.size,0,none⟩) q).trans (X5.out.cell 0);have w1:IntKind.i64.wrap ((xa:Int)+2)=(xa:Int)+2:=kqo _ (by omega);have w2:IntKind.i64.wrap ((xa:Int)+2+(k:Int))=(xa:Int)+2+(k:Int):=kqo _ (by omega);by_cases h3:f=3
  .subst h3;rw[if_pos rfl] at g;have K:=hid (show (lT F (xa:Int) (k+1)).flatMap a8=(lT F (xa:Int) k).flatMap a8++[.int .i64 ((xa:Int)+2+(k:Int))]/\(lT F (xa:Int) (k+1)).length=(lT F (xa:Int) k).length+1 by rw[g,kz0,kqz];exact⟨rfl,rfl⟩);clear g M;go_wp2_with (at_builtin;refine kq9 _ rfl _ _ 42 rfl s.heap.size 3 i0 _ 1 8 underlying42 HI.out U.out Y.out O.out rfl (by decide) _ _ _ rfl (a.alloc _) ⟨_,0,none⟩ 1 1 [.int .i64 ((xa:Int)+2+(k:Int))] rfl rfl (bn _ _ _) (by simp[Value.oneCell']) (by unfold maxLen;omega) (by omega) (by simp;omega) ?_;intro v1 w3 l v _;have L:=hid (am r hz a v);have P:=hid l;clear l v);go_roundw
   case rel=>exact⟨k+1,by omega,by go_num,by rw[K.out.1,K.out.2];exact P.out,L.out⟩
   case measure=>simp[intOf];omega
  have h3b:((f:Int)==3)=false:=by rw[kqi];omega
  rw[if_neg (by intro e;injection e with e;exact h3 e),kzm] at g;have K:=hid g;have V:=hid a;clear g M h3 a;go_wp2;go_roundw
  case rel=>exact⟨k+1,by omega,by go_num,by rw[K.out];exact V.out,r⟩
  case measure=>simp[intOf];omega
 obtain rfl:k=F.length:=by omega
 obtain⟨Av,dv,rfl⟩:=ap a;go_wp2;go_ret;exact⟨⟨Av,dv,rfl,ar a (kjf q)⟩,Z.out.trans (r.mono (kjf q))⟩
theorem qt(hrc:aF ws=0)(h:Rch ws a):eg ws a/\∃k,∃c:k<(aa ws).length,(aa ws)[k]=bkAt ws a/\wz (aa ws) (a:Int)=(k:Int):=by
 obtain⟨f,h1,o⟩:=av hrc;have i:=(gO f (o a h)).1;refine⟨i,?_⟩;obtain⟨-,-,-,-,n,-,k,c,e,-⟩:=i;refine⟨k,c,e,wG c (λj m=>?_) (by rw[e];show (((a:Int)==(a:Int))&&(ah (wd ws a)).kind==1)=true;rw[n];simp)⟩;obtain⟨-,l,g,-,d⟩:=al f;rw[<-d] at g;have b:=yL _ _ g;have h3:=kzf.1 b.2 j k (by omega) c m;have h4:=(b.1 (aa ws)[j] (kqs (by omega))).2;rw[bo (aa ws) j (by omega)];have h5:(aa ws)[k].at_=(a:Int):=by rw[e];rfl
 rw[kjg];refine .inl ?_;rw[kqi];omega
def flg (F:List Bool) (k:Nat):Bool:=F[k]?.getD false
theorem DS(h:flg F k=true):flg (F.set n true) k=true:=by
 unfold flg at h |-;by_cases e:n=k
 .subst e;by_cases a:n<F.length
  .rw[kz3 a];rfl
  rw[kzg (by omega)] at h;cases h
 rw[kxr e];exact h
theorem mi(h:flg F n=true):F.set n true=F:=by
 unfold flg at h;by_cases a:n<F.length
 .rw[kqm a,kq4] at h;rw[<-h,List.set_getElem_self]
 rw[kzg (by omega)] at h;cases h
def lL (F:List Bool):Nat:=(F.filter (λx=>!x)).length
theorem Ci:∀ {F:List Bool} {n:Nat},n<F.length->flg F n=false->lL (F.set n true)+1=lL F:=by
 intro F
 induction F with
 | nil=>intro n h;simp at h
 | cons x F ih =>
  intro n h a;cases n with
  | zero =>have:x=false:=a;subst this;simp[lL]
  | succ n =>
   have:=ih (n:=n) (by simpa using h) a;rw[kqf];cases x
   .simp only[lL,kky,kkt,kq3] at this |-;omega
   have b:lL (true::F.set n true)=lL (F.set n true):=by simp[lL]
   have c:lL (true::F)=lL F:=by simp[lL]
   rw[b,c];exact this
def zA (ws:List Nat) (F:List Bool) (a:Nat):Prop:=∃k:Nat,wz (aa ws) (a:Int)=(k:Int)/\flg F k=true
theorem zA.set(h:zA ws F a):zA ws (F.set n true) a:=by obtain⟨k,b,c⟩:=h;exact⟨k,b,DS c⟩
structure FdOk (ws:List Nat) (F:List Bool):Prop where
 len:F.length=(aa ws).length
 sub:∀k (h:k<(aa ws).length),flg F k=true->∃a:Nat,(aa ws)[k]=bkAt ws a/\Rch ws a
theorem FdOk.set(h:FdOk ws F)(hn:n<(aa ws).length)(e:(aa ws)[n]=bkAt ws a)(hr:Rch ws a):FdOk ws (F.set n true):=by
 refine⟨by rw[kza];exact h.len,λk d c=>?_⟩;by_cases b:n=k
 .subst b;exact⟨a,e,hr⟩
 refine h.sub k d ?_;unfold flg at c |-;rwa [kxr b] at c
theorem Aw(ws:List Nat):FdOk ws (List.replicate (aa ws).length false):=by refine⟨kxx,λk b a=>?_⟩;unfold flg at a;rw[kj4,if_pos b] at a;cases a
def pw (ws:List Nat) (F:List Bool) (i:Nat):Prop:=∀j,j<i->(slAt ws j).used=true->zA ws F (slAt ws j).at_.toNat
def closeB (ws:List Nat) (F:List Bool) (b:Bk) (J:Nat):Prop:=∀j (h:j<(cU ws b).length),j<J->wd ws (cU ws b)[j].toNat≠0->zA ws F (wd ws (cU ws b)[j].toNat)
def jm (ws:List Nat) (F:List Bool) (i:Nat):Prop:=∀k (h:k<(aa ws).length),k<i->flg F k=true->closeB ws F (aa ws)[k] (cU ws (aa ws)[k]).length
theorem EH(hi:(flds ws a)[i]? = some 3):∃j,∃h:j<(cU ws (bkAt ws a)).length,(cU ws (bkAt ws a))[j]=((a+2+i:Nat):Int):=by
 have b:((a+2+i:Nat):Int)∈cU ws (bkAt ws a):=by have e:rx ws (bkAt ws a)=flds ws a:=rfl;unfold cU;rw[e];unfold lT;rw[kjj];obtain⟨c,-⟩:=kzc.1 hi;exact⟨i,kzh.2 c,by rw[if_pos hi,ab];congr 1⟩
 exact kqv b
theorem C1{j:Nat}(h:j<(cU ws (bkAt ws a)).length):∃i,(flds ws a)[i]? = some 3/\(cU ws (bkAt ws a))[j]=((a+2+i:Nat):Int):=by
 have c:=kqs h;have e:rx ws (bkAt ws a)=flds ws a:=rfl;revert c;generalize (cU ws (bkAt ws a))[j]=r;unfold cU;rw[e];unfold lT;rw[kjj];rintro ⟨i,-,b⟩;split at b
 .rename_i h3;refine⟨i,h3,?_⟩;injection b with b;rw[<-b,ab];omega
 cases b
theorem C5(hrc:aF ws=0)(h:Rch ws a)(hi:(flds ws a)[i]? = some 3)(hv:wd ws (a+2+i)≠0):wd ws (a+2+i)<2048/\Rch ws (wd ws (a+2+i)):=by
 obtain⟨c,h1,f⟩:=av hrc;have b:=Rch.ref a i h (f a h) hi hv;have e:=(qt hrc b).1;have hb:=de ws (al c).1;have h4:=e.2.2.1;have d:min (wd ws (a+2+i)) 2048=wd ws (a+2+i):=by omega
 rw[d] at b;exact⟨by omega,b⟩
theorem fd_end(hrc:aF ws=0)(h:FdOk ws F)(hr:pw ws F 16)(hc:jm ws F (aa ws).length):F=(aa ws).map (cE ws):=by
 obtain⟨E,h1,hg⟩:=av hrc;have hb:=de ws (al E).1;have A:∀a,Rch ws a->zA ws F a:=by
  intro a t
  induction t with
  | slot i hi hu=>exact hr i hi hu
  | ref a i t ht hi hv ih =>
   obtain⟨-,k,u,c,p⟩:=qt hrc t;obtain⟨d,v,y⟩:=ih;obtain rfl:d=k:=by omega
   obtain⟨g1,g2⟩:=C5 hrc t hi hv;obtain⟨j,D,H⟩:=EH hi;have o:=hc d u u y;rw[c] at o;have C:=o j D D;rw[H,kqj] at C;rw[show min (wd ws (a+2+i)) 2048=wd ws (a+2+i) by omega];exact C hv
 apply List.ext_getElem (by rw[kzl];exact h.len);intro k u b;rw[kzl] at b;rw[List.getElem_map];have e:flg F k=F[k]:=by unfold flg;rw[kqm u];rfl
 obtain⟨-,l,z,-,m⟩:=al E;have w:∃a:Nat,(aa ws)[k]=bkAt ws a/\a<ws.length:=by simp only[m];obtain⟨a,c,-,-,p,-⟩:=bC _ _ z (by omega) k (by rw[<-m];exact b);exact⟨a,c,p⟩
 obtain⟨a,r,n⟩:=w;rw[<-m] at z;rw[r];cases s:cE ws (bkAt ws a) with
 | true =>
  obtain⟨-,G,g,c,p⟩:=qt hrc ((cY n).1 s);obtain⟨d,v,y⟩:=A a ((cY n).1 s);obtain rfl:d=G:=by omega
  have x:d=k:=by
   have f:=yL _ _ z;rcases kjp d k with q|q|q
   .have:=kzf.1 f.2 d k g b q;have o:=(f.1 (aa ws)[d] (kqs g)).2;rw[r,c] at this;rw[c] at o;omega
   .exact q
   have:=kzf.1 f.2 k d b g q;have o:=(f.1 (aa ws)[k] (kqs b)).2;rw[r,c] at this;rw[r] at o;omega
  subst x;rw[<-e];exact y
 | false =>
  cases B:flg F k with
  | false=>rw[<-e];exact B
  | true =>
   obtain⟨I,c,p⟩:=h.sub k b B;have v:I=a:=by have:=congrArg Bk.at_ (c.symm.trans r);rw[ab,ab] at this;omega
   subst v;rw[(cY n).2 p] at s;cases s
def muF (F:List Bool) (b:Bool):Nat:=lL F+(if b=true then 1 else 0)
theorem rP(A:Option Addr)(c n:Nat)(w:World)(hn:ws.length=n)(hm:n<=2048)(h2:256<=n)(h0:ag ws=0)(h:eg ws a)(hr:RdW w w.heap.size A ws)(ho:∀x∈ws,x<18446744073709551616):
 Calls prog 245 #[.slice A n c,qM (bkAt ws a)] w λe w'=>(∃B d,e=.returned (.slice B (cU ws (bkAt ws a)).length d)/\w'.ownsRow w.heap.size 3 1 (.slice B (cU ws (bkAt ws a)).length d) (cU ws (bkAt ws a)).length ((cU ws (bkAt ws a)).flatMap a8))/\Below w.heap.size w w':=by
 obtain⟨h1,h3,h4,h5,r,f,k,u,o,-⟩:=h;rw[gI (ws:=ws) (b:=bkAt ws a) r] at f;simp only[kqw,kqu] at f;have v:∃t:Nat,(bkAt ws a).typ=(t:Int)/\t<8:=by obtain⟨-,l,q,-,j⟩:=al h0;rw[<-j] at q;have g:=fW q (by omega) u (by rw[o];exact r);rw[o] at g;obtain⟨t,e⟩:=kq2 g.1;exact⟨t,e,by omega⟩
 obtain⟨t,m,i⟩:=v;have e:tyA (bkAt ws a)=96+2*t:=by unfold tyA;rw[m];simp
 rw[e] at f;have s:bkAt ws a=⟨(a:Int),(bkAt ws a).size,(bkAt ws a).kind,(t:Int),(bkAt ws a).mark,(bkAt ws a).next⟩:=by rw[<-m,<-ab ws a]
 have p:=B5 A ws c n t a (bkAt ws a).size (bkAt ws a).kind (bkAt ws a).mark (bkAt ws a).next w hn (by omega) h2 i (by omega) f.1 hr ho;rw[<-s] at p;exact p
theorem zS(A LB:Option Addr)(ws:List Nat)(c n d m:Nat)(w:World)(hn:ws.length=n)(hrc:aF ws=0)(hm:(aa ws).length=m)(hr:RdW w w.heap.size A ws)(ho:∀x∈ws,x<18446744073709551616)(hl:RdB w w.heap.size LB (aa ws)):
 Calls prog 242 #[.slice A n c,.slice LB m d] w λe w'=>(∃g c',e=.returned (.tuple #[.slice (some ⟨g,0,none⟩) m c',.bool true])/\w'.ownsRow w.heap.size 4 1 (.slice (some ⟨g,0,none⟩) m c') m (((aa ws).map (cE ws)).flatMap aV))/\Below w.heap.size w w':=by
 obtain⟨h0,Gf,Jz⟩:=av hrc;have M:=de ws (al h0).1;rw[hn] at M;have hml:m<=1024:=by rw[<-hm];exact dl ws
 have HT:=hid (λW (h:RdW W W.heap.size A ws)=>li A ws c n W hn (by omega) (by omega) h ho);unfold yr at HT;rw[Gf] at HT;have Je:=hid (λa W (h:RdB W W.heap.size LB (aa ws))=>CM LB (aa ws) d m a W hm (by omega) h);have Kw:=hid (λa W (h:eg ws a) (hr:RdW W W.heap.size A ws)=>rP (ws:=ws) (a:=a) A c n W hn (by omega) (by omega) h0 h hr ho);have Gu:=hid (λa (h:Rch ws a)=>qt hrc h);have Kr:=hid (λa i (h:Rch ws a) O hv=>C5 (a:=a) (i:=i) hrc h O hv);have Jb:=hid (λF (h:FdOk ws F) H U=>fd_end hrc h H U);have Kn:Hid (∀i (h:i<(slL ws).length),(slL ws)[i]=slAt ws i):=hid λi h=>by simp[slL]
 have Kv:Hid ((slL ws).length=16):=hid (by simp[slL]);have Kb:Hid (∀i,i<16->(slAt ws i).used=true->∃q:Nat,(slAt ws i).at_=(q:Int)/\Rch ws q):=hid λi O hu=>by
  have R:=(cw ws).1 Gf i O;unfold mP at R;rw[if_pos hu] at R;simp only[kqw,kzw] at R;obtain⟨q,Q⟩:=kq2 (show 0<=(slAt ws i).at_ by omega);have H:=Rch.slot i O hu;rw[Q,kqj] at H;exact⟨q,Q,H⟩
 have Jw:Hid (∀W r,r<n->RdW W W.heap.size A ws->∃b off,A=some ⟨b,off,none⟩/\b<W.heap.size/\W.cell? ⟨b,off+r,none⟩=some (.int .u64 (wd ws r:Int))):=hid λW r Kj h=>by
  obtain⟨b,off,e,Kq,hc⟩:=RdW.at_ h (show r<ws.length by omega);rw[<-bI] at hc;exact⟨b,off,e,Kq,hc⟩
 have Ka:Hid (∀a i,eg ws a->(flds ws a)[i]? = some 3->a+2+i<n):=hid λa i h O=>by
  rw[<-hn];exact nh h (kzc.1 O).1
 have t:=hid hm;have HR:=hid hr;have HL:=hid hl;have Jc:=hid (Aw ws);rw[hm] at Jc;obtain⟨i0,O,Gx,Jf,Gv⟩:=kze ru;obtain⟨W0,Jn,Y,Jg⟩:=run_make_full (P:=prog) w w.heap.size 114 4 i0 (.bool false) 1 underlying114 O Gx Jf .i64 .i64 m (by rw[Gv];omega) (by unfold maxLen;omega) (kqb _);have Gy:W0.ownsRow w.heap.size 4 1 (.slice (some ⟨w.heap.size,0,none⟩) m m) m ((List.replicate m false).flatMap aV):=by rw[nR,<-toList_madeCells_one];have:=Y;rw[kx7] at this;exact this
 have Jd:=hid Gy;have Gc:=(kqk w.heap.size w).grown Jg (kqb _) (λk T=>by cases T);have Fx:=hid Gc;clear hr ho hl h0 Gf Jz hm hn hrc O Gx Jf Gv Y Jg Gy Gc;go_enter func242,ntmps242;go_wp2_with fail;refine (HT.out W0 (HR.out.up Fx.out Fx.out.size)).mono ?_;rintro e w1 ⟨⟨AS,nS,cS,rfl,hS⟩,Gl⟩;obtain⟨rfl,hcS,Gw⟩:=hS trivial;have Kc:=hid (Fx.out.trans (Gl.mono Fx.out.size));have Jm:=hid (ae Jd.out Gl (kqb _));have Ko:=hid Gw;clear Gl hS Gw Jn;go_wp2_with fail;go_loopw [9] (λvi wr=>∃(i:Nat) (F:List Bool),i<=16/\vi=.int .i64 i/\Hid (FdOk ws F)/\Hid (pw ws F i)/\wr.ownsRow w.heap.size 4 1 (.slice (some ⟨w.heap.size,0,none⟩) m m) m (F.flatMap aV)/\Below w.heap.size w wr/\Hid (wr.ownsRow W0.heap.size 52 3 (.slice AS 16 cS) 16 ((slL ws).flatMap Sl.cells))) (λi _=>16-(intOf i).toNat)
 case atStart=>exact⟨0,_,by omega,rfl,Jc,λj h=>absurd h (by omega),Jm.out,Kc.out,Ko⟩
 obtain⟨i,F,O,rfl,HF,Fo,f,y,HS⟩:=hrel;have hz:=y.size;by_cases D:i<16
 .obtain ⟨bS,oS,rfl,hbS,s0,s1,s2⟩:=RdS.at_ (show RdS wr wr.heap.size AS (slL ws) from Rd.of_own HS.out) (show i<(slL ws).length by rw[Kv.out];exact D);rw[Kn.out] at s0 s1 s2;have Gb:=Kb.out i D;have Kk:(0:Int)<=(i:Int):=by omega
  have Jj:(i:Int)<16:=by omega
  have l:=hid f;have s:=hid y;obtain⟨u,hu⟩:=xq ((slAt ws i).used);rw[hu] at s1 Gb;clear f y;cases u
  .have Z:Hid (pw ws F (i+1)):=hid λj hj Fr=>by
    rcases kq6 j i with h|h
    .exact Fo.out j h Fr
    have:j=i:=by omega
    subst this;rw[hu] at Fr;cases Fr
   clear Gb hu;go_wp2;go_roundw
   case rel=>exact⟨i+1,F,by omega,by go_num,HF,Z,l.out,s.out,HS⟩
   case measure=>simp[intOf];omega
  obtain⟨q,Q,Gs⟩:=Gb rfl;rw[Q] at s2;obtain⟨-,k,T,ek,ix⟩:=Gu.out q Gs;rw[t.out] at T;have HA:=hid (Je.out (q:Int) wr (HL.out.up s.out s.out.size));rw[ix] at HA;have Jo:=hid (HF.out.set (show k<(aa ws).length by rw[t.out];exact T) ek Gs);have Z:Hid (pw ws (F.set k true) (i+1)):=hid λj hj Fr=>by
   rcases kq6 j i with h|h
   .exact (Fo.out j h Fr).set
   have:j=i:=by omega
   subst this;rw[Q,kqj];refine⟨k,ix,?_⟩;unfold flg;rw[kz3 (by rw[HF.out.len,t.out];exact T)];rfl
  have Fp:Hid (F.length=m):=hid (by rw[HF.out.len,t.out]);clear Gb hu Q Gs ek ix;have Kh:decide ((k:Int)<0)=false:=by rw[kqc];omega
  go_wp2_with fail;refine HA.out.mono ?_;rintro e w2 ⟨rfl,Fw⟩;have Fz:=ae l.out Fw (kqb _);have c0:=(Fz.cellAt k (by omega)).trans (iM F k (by rw[Fp.out];exact T));have f0:=Fz.frozenAt k;have K:=(Fz.stored k (.bool true)).1;rw[<-np] at K;have Eq:=hid K;have Ki:=hid ((s.out.trans (Fw.mono hz)).setCell (p:=⟨w.heap.size,k,none⟩) (kqb _) (.bool true));have Gr:=ae HS.out Fw (kqb _);have Jk:=hid (cy Gr (p:=⟨w.heap.size,k,none⟩) (eI Gr (show w.heap.size<W0.heap.size from (Jd.out.lt w.heap.size rfl).2)).symm (.bool true));clear Fw Fz K Gr;go_wp2;go_roundw
  case rel=>exact⟨i+1,F.set k true,by omega,by go_num,Jo,Z,Eq.out,Ki.out,Jk⟩
  case measure=>simp[intOf];omega
 have Fq:i=16:=by omega
 have Fo:Hid (pw ws F 16):=by rw[<-Fq];exact Fo
 have Ku:decide ((i:Int)<16)=false:=by rw[kqc];omega
 have Kl:decide (i<16)=false:=by rw[kqc];exact D
 have l:=hid f;have s:=hid y;clear Fq D O f y HS hz;go_wp2_with fail;go_loopg [11] (lL F+2) (λgk va wr=>∃(G:List Bool) (b:Bool),va=.bool b/\Hid (FdOk ws G)/\Hid (pw ws G 16)/\Hid (b=false->jm ws G m)/\Hid (muF G b<gk)/\wr.ownsRow w.heap.size 4 1 (.slice (some ⟨w.heap.size,0,none⟩) m m) m (G.flatMap aV)/\Below w.heap.size w wr)
 case atStart=>exact⟨F,true,rfl,HF,Fo,λh=>(by cases h),(by show lL F+1<lL F+2;omega),l.out,s.out⟩
 obtain⟨G,b,rfl,HG,Jh,Kd,Kt,f,y⟩:=hrel;have hz:=y.size;have l:=hid f;have s:=hid y;clear f y;cases b
 .have S:=hid (Jb.out G HG.out Jh.out (by rw[t.out];exact Kd.out rfl));go_wp2;go_ret2;exact⟨⟨w.heap.size,m,rfl,by rw[<-S.out];exact l.out⟩,s.out⟩
 go_wp2_with fail;go_loopw [11,12] (λva vi wr2=>∃(i:Nat) (b:Bool) (E:List Bool),i<=m/\va=.bool b/\vi=.int .i64 i/\Hid (FdOk ws E)/\Hid (pw ws E 16)/\Hid (b=false->jm ws E i)/\Hid (muF E b<=lL G)/\wr2.ownsRow w.heap.size 4 1 (.slice (some ⟨w.heap.size,0,none⟩) m m) m (E.flatMap aV)/\Below w.heap.size w wr2) (λ_ i _=>m-(intOf i).toNat)
 case atStart=>exact⟨0,false,G,by omega,rfl,rfl,HG,Jh,λ_ k h H=>absurd H (by omega),(by show lL G+0<=lL G;omega),l.out,s.out⟩
 obtain⟨i,b,E,O,rfl,rfl,S,J,z,C,f,y⟩:=hrel;have hz:=y.size;by_cases D:i<m
 .have N:E.length=m:=by rw[S.out.len,t.out]
  have c0:=(f.cellAt i (by omega)).trans (iM E i (by omega))
  change wr.cell? ⟨w.heap.size,i,none⟩=some (.bool (flg E i)) at c0
  have Kk:(0:Int)<=(i:Int):=by omega
  have Jj:(i:Int)<(m:Int):=by omega
  have Fp:Hid (E.length=m):=hid N;have l:=hid f;have s:=hid y;clear f y N;cases B:flg E i
  .rw[B] at c0;have Gt:Hid (b=false->jm ws E (i+1)):=hid λM k h H Fs=>by
    rcases kq6 k i with U|U
    .exact z.out M k h U Fs
    have:k=i:=by omega
    subst this;rw[B] at Fs;cases Fs
   clear B;go_wp2;go_roundw
   case rel=>exact⟨i+1,b,E,by omega,rfl,by go_num,S,J,Gt,C,l.out,s.out⟩
   case measure=>simp[intOf];omega
  rw[B] at c0;obtain⟨a,ea,Gh⟩:=S.out.sub i (by rw[t.out];exact D) B;have Gq:=(Gu.out a Gh).1;have Q:=Kw.out a wr Gq (HR.out.up s.out s.out.size);obtain⟨L,hL⟩:=xq (cU ws (bkAt ws a));have Jv:Hid (∀j (h:j<L.length),∃i',(flds ws a)[i']? = some 3/\L[j]=((a+2+i':Nat):Int)):=hid (by rw[<-hL];exact λj h=>C1 h);have Kg:Hid (∀X,(∀j (h:j<L.length),wd ws L[j].toNat≠0->zA ws X (wd ws L[j].toNat))->jm ws X i->jm ws X (i+1)):=hid λX R H k h U Fs=>by
   rcases kq6 k i with h4|h4
   .exact H k h h4 Fs
   have:k=i:=by omega
   subst this;rw[ea];intro j hj _ hv;simp only[hL] at hj hv |-;exact R j hj hv
  have hL8:L.length<=8:=by rw[<-hL];exact kzv (kn _ _ _) (jA _ _)
  rw[hL] at Q;obtain⟨bL,oL,rfl,hbL,q0,q1,q2,q3,q4,q5⟩:=RdB.at_ (show RdB wr w.heap.size LB (aa ws) from Rd.below HL.out s.out) (show i<(aa ws).length by rw[t.out];exact D);rw[ea] at q0 q1 q2 q3 q4 q5;unfold qM at Q;obtain⟨x,hx⟩:=xq (bkAt ws a);rw[hx] at q0 q1 q2 q3 q4 q5 Q;obtain⟨xa,xs,xk,xt,xm,xn⟩:=x;dsimp only at q0 q1 q2 q3 q4 q5 Q;have HQ:=hid Q;have Jt:=hid Gh;have Kx:=hid Gq;have HFI:=hid B;clear Q hL ea hx Gh Gq B;go_wp2_with fail;refine HQ.out.mono ?_;rintro e w3 ⟨⟨BR,dR,rfl,Gd⟩,Gg⟩;have Ke:=hid (s.out.trans (Gg.mono hz));have Jp:=hid (ae l.out Gg (kqb _));have Jy:=hid (ar Gd (show w.heap.size+1<=wr.heap.size from (l.out.lt w.heap.size rfl).2));clear Gg Gd q0 q1 q2 q3 q4 q5 c0;go_wp2_with fail;go_loopw [11,14] (λva vj wr3=>∃(j:Nat) (b:Bool) (E:List Bool),j<=L.length/\va=.bool b/\vj=.int .i64 j/\Hid (FdOk ws E)/\Hid (pw ws E 16)/\Hid (b=false->jm ws E i/\∀o (h:o < L.length),o < j->wd ws L[o].toNat≠0->zA ws E (wd ws L[o].toNat))/\Hid (muF E b<=lL G)/\wr3.ownsRow w.heap.size 4 1 (.slice (some ⟨w.heap.size,0,none⟩) m m) m (E.flatMap aV)/\Below w.heap.size w wr3/\Hid (wr3.ownsRow (w.heap.size+1) 3 1 (.slice BR L.length dR) L.length (L.flatMap a8))) (λ_ j _=>L.length-(intOf j).toNat)
  case atStart=>exact⟨0,b,E,by omega,rfl,rfl,S,J,λM=>⟨z.out M,λo _ h=>absurd h (by omega)⟩,C,Jp.out,Ke.out,Jy⟩
  obtain⟨j,b,E,hj,rfl,rfl,S,J,z,C,f,y,HW⟩:=hrel;have hz:=y.size;have N:E.length=m:=by rw[S.out.len,t.out]
  have Fp:Hid (E.length=m):=hid N;by_cases Fv:j<L.length
  .obtain ⟨i',g1,g2⟩:=Jv.out j Fv;have Gz:=Ka.out a i' Kx.out g1;obtain⟨bA,oA,hA,hbA,v0⟩:=Jw.out wr (a+2+i') Gz (HR.out.up y hz);obtain⟨bR,oR,Ks,hbR,r0⟩:=RdI.at_ (show RdI wr wr.heap.size BR L from Rd.of_own HW.out) Fv;rw[g2] at r0;have Ga:Hid (wd ws L[j].toNat=wd ws (a+2+i')):=hid (by rw[g2,kqj]);have Gn:=hid (Kr.out a i' Jt.out g1);obtain⟨r,Ji⟩:=xq (a+2+i');rw[Ji] at Gz v0 r0 Ga Gn;obtain⟨v,Ja⟩:=xq (wd ws r);rw[Ja] at v0 Ga Gn;subst hA Ks;have hj0:(0:Int)<=(j:Int):=by omega
   have hj1:(j:Int)<(L.length:Int):=by omega
   have hr1:(0:Int)<=(r:Int):=by omega
   have Kj:(r:Int)<(n:Int):=by omega
   have l:=hid f;have s:=hid y;clear g1 g2 Ji Ja f y N;by_cases hv:v=0
   .have Gt:Hid (b=false->jm ws E i/\∀o (h:o < L.length),o < j+1->wd ws L[o].toNat≠0->zA ws E (wd ws L[o].toNat)):=hid λM=>⟨(z.out M).1,λo h H U=>by
     rcases kq6 o j with h4|h4
     .exact (z.out M).2 o h h4 U
     have:o=j:=by omega
     subst this;rw[Ga.out] at U;exact absurd hv U⟩
    have Kp:((v:Int)==0)=true:=by rw[kqu];omega
    clear hv;go_wp2;go_roundw
    case rel=>exact⟨j+1,b,E,by omega,rfl,by go_num,S,J,Gt,C,l.out,s.out,HW⟩
    case measure=>simp[intOf];omega
   obtain⟨Kf,Gm⟩:=Gn.out hv;obtain⟨-,k,T,ek,ix⟩:=Gu.out v Gm;rw[t.out] at T;have HA:=hid (Je.out (v:Int) wr (HL.out.up s.out s.out.size));rw[ix] at HA;have Ge:=hid (S.out.set (show k<(aa ws).length by rw[t.out];exact T) ek Gm);have V:Hid (pw ws (E.set k true) 16):=hid λj2 R H=>(J.out j2 R H).set;have Gp:k<E.length:=by rw[Fp.out];exact T
   have Jq:Hid (zA ws (E.set k true) v):=hid ⟨k,ix,by unfold flg;rw[kz3 Gp];rfl⟩;have Kp:((v:Int)==0)=false:=by rw[kqi];omega
   have hv8:decide ((v:Int)<2048)=true:=by rw[kql];omega
   have Kh:decide ((k:Int)<0)=false:=by rw[kqc];omega
   have hk0:(0:Int)<=(k:Int):=by omega
   have hk1:(k:Int)<(m:Int):=by omega
   have hwv:IntKind.i64.wrap (v:Int)=(v:Int):=kqo _ (by omega);have Js:Hid (b=false->flg E k=true->jm ws (E.set k true) i/\∀o (h:o < L.length),o < j+1->wd ws L[o].toNat≠0->zA ws (E.set k true) (wd ws L[o].toNat)):=hid λM B=>by
    rw[mi B];refine⟨(z.out M).1,λo h H U=>?_⟩;rcases kq6 o j with h4|h4
    .exact (z.out M).2 o h h4 U
    have:o=j:=by omega
    subst this;rw[Ga.out];have:=Jq.out;rwa [mi B] at this
   have Fu:Hid (lL (E.set k true)+(if flg E k=true then 0 else 1)=lL E):=hid (by
    cases B:flg E k with
    | true=>rw[mi B];rfl
    | false=>exact Ci Gp B)
   clear Kf Gm ek ix hv Gp;go_wp2_with fail;refine HA.out.mono ?_;rintro e w4 ⟨rfl,Fy⟩;have Ft:=ae l.out Fy (kqb _);have c0:=(Ft.cellAt k (by omega)).trans (iM E k (by rw[Fp.out];exact T))
   change w4.cell? ⟨w.heap.size,k,none⟩=some (.bool (flg E k)) at c0
   have f0:=Ft.frozenAt k;have K:=(Ft.stored k (.bool true)).1;rw[<-np] at K;have Eq:=hid K;have Gj:=hid ((s.out.trans (Fy.mono hz)).setCell (p:=⟨w.heap.size,k,none⟩) (kqb _) (.bool true));have Gk:=ae HW.out Fy (kqb _);have Gi:=hid (cy Gk (p:=⟨w.heap.size,k,none⟩) (eI Gk (kj5 _)).symm (.bool true));clear Fy Ft K Gk;cases b
   .cases B:flg E k
    .rw[B] at c0 Fu;have I:Hid (muF (E.set k true) true<=lL G):=hid (by
      have R:=C.out;have H:=Fu.out;unfold muF at R |-;rw[if_neg (by decide)] at R H;rw[if_pos rfl];omega)
     clear B;go_wp2;go_roundw
     case rel=>exact⟨j+1,true,E.set k true,by omega,rfl,by go_num,Ge,V,(λh=>by cases h),I,Eq.out,Gj.out,Gi⟩
     case measure=>simp[intOf];omega
    rw[B] at c0 Fu;have I:Hid (muF (E.set k true) false<=lL G):=hid (by rw[mi B];exact C.out);have Jl:=hid (Js.out rfl B);clear B;go_wp2;go_roundw
    case rel=>exact⟨j+1,false,E.set k true,by omega,rfl,by go_num,Ge,V,λ_=>Jl.out,I,Eq.out,Gj.out,Gi⟩
    case measure=>simp[intOf];omega
   have I:Hid (muF (E.set k true) true<=lL G):=hid (by
    have R:=C.out;have H:=Fu.out;unfold muF at R |-;rw[if_pos rfl] at R |-;omega)
   go_wp2;go_roundw
   case rel=>exact⟨j+1,true,E.set k true,by omega,rfl,by go_num,Ge,V,(λh=>by cases h),I,Eq.out,Gj.out,Gi⟩
   case measure=>simp[intOf];omega
  have Km:j=L.length:=by omega
  have Jr:Hid (b=false->jm ws E (i+1)):=hid λM=>Kg.out E (λo h H=>(z.out M).2 o h (by omega) H) (z.out M).1;have hjd:decide ((j:Int)<(L.length:Int))=false:=by rw[kqc];omega
  have hjd2:decide (j<L.length)=false:=by rw[kqc];exact Fv
  have l:=hid f;have s:=hid y;clear Km Fv hj f y N;go_wp2;go_roundw
  case rel=>exact⟨i+1,b,E,by omega,rfl,by go_num,S,J,Jr,C,l.out,s.out⟩
  case measure=>simp[intOf];omega
 have Fq:i=m:=by omega
 have Ju:Hid (b=false->jm ws E m):=by rw[<-Fq];exact z
 have Ku:decide ((i:Int)<(m:Int))=false:=by rw[kqc];omega
 have Kl:decide (i<m)=false:=by rw[kqc];exact D
 have l:=hid f;have s:=hid y;clear Fq D O f y;go_wp2;go_roundg (lL G+1)
 case rel=>exact⟨E,b,rfl,S,J,Ju,(by have:=C.out;show muF E b<lL G+1;omega),l.out,s.out⟩
 case measure=>exact Kt.out
end Go.Proofs.YtpcajamacpbjcaaGreat
