/- Texts laid together: Knd KndW KndR Mrk Mrk2 Fwt Fww. -/
import Derived.Test.YtpcajamacpbjcaaGreatZKPlain
import Derived.Test.YtpcajamacpbjcaaGreatZKHead
import Derived.Deep.RegionHeld3
import Derived.Deep.DrawnRows
import Derived.Test.YtpcajamacpbjcaaGreatZKPlace
set_option maxHeartbeats 16000000
set_option maxRecDepth 100000
set_option linter.all false
namespace Go.Proofs.YtpcajamacpbjcaaGreat
open Lib (hid)
open Go.RowKit
variable {r s:Int}{l:List Bk}{ws:List Nat}{H a b k:Nat}{v:Value}{w':World}
open Go.Proofs.Tryz
def bv (x:Nat):List Value:=[.int .u8 (x:Int)]
theorem qM(x:Nat):(bv x).length=1:=rfl
def RdY (w:World) (B:Nat) (A:Option Addr) (l:List Nat):Prop:=Rd w B A (l.flatMap bv)
theorem RdY.at_{w:World}{B:Nat}{A:Option Addr}{l:List Nat}(h:RdY w B A l)(hk:k<l.length):
 ∃b a,A=some ⟨b,a,none⟩/\b<B/\w.cell? ⟨b,a+k,none⟩=some (.int .u8 (l[k]:Int)):=by obtain⟨b,a,e,d,c⟩:=Rd.at_flat qM h (by omega) hk;have:=c 0 (by omega);simp only[kxq,kxa] at this;exact⟨b,a,e,d,this⟩
theorem y8{l:List Nat}(hk:k<l.length)(h:eD (l.take k)=true)(h1:1<=l[k])(h2:l[k]<=3):eD (l.take (k+1))=true:=by
 rw[kqp hk];rw[cZ] at h |-;intro x a;rw[kzo] at a;rcases a with a|a
 .exact h x a
 simp only[kqw,kzk,or_false] at a;subst a;exact⟨h1,h2⟩
theorem vL(A:Option Addr)(l:List Nat)(c n B:Nat)(w:World)(hn:l.length=n)(hm:n<=9223372036854775807)(hr:RdY w B A l):
 Calls prog 118 #[.slice A n c] w λe w'=>e=.returned (.int .i64 (di l))/\w=w':=by
 subst hn;have v:=hid hr;clear hr;by_cases r:8<l.length
 .have t:=hid (ux r);go_enter func118,ntmps118;go_wp2;go_ret;exact⟨by rw[t.out];rfl,rfl⟩
 have d:l.length<=8:=by omega
 have o:Hid (eD l=false->di l=8):=hid λh=>ma d h;have u:Hid (eD l=true->di l=0):=hid λh=>jX d h;clear r;go_enter func118,ntmps118;go_wp2_with fail
 go_loop [10] (λi=>∃k:Nat,k<=l.length/\i=.int .i64 k/\Hid (eD (l.take k)=true)) (λi=>l.length-(intOf i).toNat)
 case atStart=>exact⟨0,kqz _,rfl,rfl⟩
 obtain⟨k,hk,rfl,q⟩:=hrel;by_cases a:k<l.length
 .obtain ⟨b,off,rfl,hb,z⟩:=v.out.at_ a;have p:=hid (λf g=>y8 a q.out f g);have j:=hid (λh=>BP a h);obtain⟨x,m⟩:=xq (l[k]);rw[m] at z p j;clear m;by_cases f:x<1
  .have E:=hid (o.out (j.out (.inl f)));go_wp2;go_ret;exact⟨by rw[E.out];rfl,rfl⟩
  by_cases g:3<x
  .have E:=hid (o.out (j.out (.inr g)));go_wp2;go_ret;exact⟨by rw[E.out];rfl,rfl⟩
  have s:1<=x:=by omega
  have y:x<=3:=by omega
  clear f g;go_wp2_with fail
  go_round
  case rel=>exact⟨k+1,by omega,by go_num,p.out s y⟩
  case measure=>simp[intOf];omega
 have E:=hid (u.out (by have:=q.out;rwa [kq8 (by omega)] at this));go_wp2;go_ret;exact⟨by rw[E.out];rfl,rfl⟩
def kSz (l:List Nat):Nat:=if di l=0 then bg l.length else 0
theorem uD(A:Option Addr)(l:List Nat)(c n B:Nat)(w:World)(hn:l.length=n)(hm:n<=9223372036854775807)(hr:RdY w B A l):
 Calls prog 158 #[.slice A n c] w λe w'=>e=.returned (.tuple #[.int .i64 (kSz l:Nat),.int .i64 (di l)])/\w=w':=by
 have b:=hid (vL A l c n B w hn hm hr);clear hr;by_cases a:di l=0
 .have f:=(kO a).1;have d:=hid (show ((kSz l:Nat):Int)=2+((n:Int)+1)/2*2 by simp only[kSz,a,if_true,bg,hn];omega);rw[hn] at f;rw[a] at b;have g:=hid a;clear a hn;go_enter func158,ntmps158;go_wp2_with fail;refine b.out.mono ?_;rintro e h ⟨rfl,rfl⟩;go_wp2;go_ret2;exact⟨by rw[d.out,g.out];rfl,rfl⟩
 have d:=hid (show kSz l=0 by simp[kSz,a]);have hne:(di l != 0)=true:=by rw[kqv];exact a
 clear a hn;go_enter func158,ntmps158;go_wp2_with fail;refine b.out.mono ?_;rintro e h ⟨rfl,rfl⟩;go_wp2;go_ret2;exact⟨by rw[d.out];rfl,rfl⟩
def Bn (a b:Nat):Value:=.agg #[.int .u64 (a:Int),.int .u64 (b:Int)]
def kwV (l:List Nat):Value:=if di l=0 then Bn (iG l) (iz (iG l)) else Bn 0 0
def fw (l:List Nat) (k:Nat):Nat:=l.length+nc (l.take k) 4
theorem kN{fn:Func}{p q:Tmp}(h:fn.results=#[.cell p 157,.tmp q])(tmps:Array Value){W:World}{g:Nat}{t:TypeId}{v0 v1 u:Value}(hb:Bx W g t #[v0,v1])(hp:tmps.getD p undef=.pointer (some ⟨g,0,none⟩))(hq:tmps.getD q undef=u):
 (results fn tmps).run prog W=.ok (.tuple #[.agg #[v0,v1],u]) W:=by obtain⟨a,b,-⟩:=hb.c2;rw[kxt] at hp hq;simp[results,h,hp,hq,go_sem,a,b]
theorem fw_lt{l:List Nat}(h:l.length<=8)(hk:eD l=true)(k:Nat):fw l k<4 ^ (4+k):=by
 have h1:=uB (l.take k) 4 (λx a=>((cZ l).1 hk x (kxp a)).2);have h2:4 ^ (4+(l.take k).length)<=4 ^ (4+k):=kjd (by omega) (by rw[kq4];omega);have h4:(4:Nat) ^ 4=256:=by decide
 unfold fw;omega
theorem Ir{l:List Nat}{x:Nat}(h:l.length<=8)(hk:eD l=true)(hlt:k<l.length)(hx:l[k]=x):
 bits BinOp.or .u64 (fw l k:Nat) (IntKind.u64.wrap ((x:Int)*2 ^ (8+2*k)))=((fw l (k+1):Nat):Int):=by
 have a:x<=3:=by rw[<-hx];exact ((cZ l).1 hk l[k] (kqn hlt)).2
 have d:=fw_lt h hk k;have b:(2:Nat) ^ (8+2*k)=4 ^ (4+k):=by rw[show 8+2*k=2*(4+k) by omega,Nat.pow_mul]
 have hp:(4:Nat) ^ (4+k)<=4 ^ 11:=kjd (by omega) (by omega);have h11:(4:Nat) ^ 11=4194304:=by decide
 have hb:x*2 ^ (8+2*k)<=3*4194304:=by rw[b];exact kz7 (kxy _ a) (by omega)
 have c:(x:Int)*2 ^ (8+2*k)=((x*2 ^ (8+2*k):Nat):Int):=by simp
 rw[c,kzw _ (by omega),u64_or_nat _ _ (by omega) (by omega),kJ (by rw[b];exact d)];have e:fw l (k+1)=fw l k+x*4 ^ (4+k):=by unfold fw;rw[kqp hlt,nZ,hx,kq4,kxg (by omega)];simp only[nc];omega
 rw[e,b]
theorem fw_end(l:List Nat):fw l l.length=iG l:=by unfold fw iG;rw[kzf]
theorem v6(A:Option Addr)(l:List Nat)(c n:Nat)(w:World)(hn:l.length=n)(hm:n<=9223372036854775807)(hr:RdY w w.heap.size A l):
 Calls prog 175 #[.slice A n c] w λe w'=>e=.returned (.tuple #[kwV l,.int .i64 (di l)])/\Below w.heap.size w w':=by
 subst hn;have U:=hid hr;have H:=Bx.new w 157 #[.int .u64 0,.int .u64 0];have L:=hid (vL A l c l.length w.heap.size (w.alloc (.cells #[.int .u64 0,.int .u64 0] 157)) rfl hm (hr.alloc (kqa _) _));by_cases a:di l=0
 .have G:=kO a;obtain⟨r,t⟩:=G;have f:=hid t;have B:=hid (show kwV l=.agg #[.int .u64 (iG l:Nat),.int .u64 (iz (iG l):Nat)] by simp[kwV,a,Bn]);have T:=hid a;rw[a] at L;have P:=hid H;clear a t H hr;go_enter func175,ntmps175;go_wp2_with fail;refine L.out.mono ?_;rintro e Q ⟨rfl,rfl⟩;go_wp2_with fail
  go_loop [5,21] (λs i=>∃k:Nat,k<=l.length/\i=.int .i64 k/\s=.int .u64 (fw l k:Nat)) (λ_ i=>l.length-(intOf i).toNat)
  case atStart=>exact⟨0,kqz _,rfl,by simp[fw,nc]⟩
  obtain⟨k,hk,rfl,rfl⟩:=hrel;by_cases g:k<l.length
  .obtain ⟨b,M,rfl,S,a⟩:=U.out.at_ g;replace a:=(kze w (.cells #[.int .u64 0,.int .u64 0] 157) ⟨b,M+k,none⟩ S).trans a;obtain⟨x,F⟩:=xq (l[k]);have hx3:x<=3:=by rw[<-F];exact ((cZ l).1 f.out l[k] (kqn g)).2
   have m:=hid (Ir r f.out g F);obtain⟨q,C⟩:=xq (fw l k);rw[F] at a;rw[C] at m |-;clear F C;go_wp2_with fail
   go_round
   case rel=>exact⟨k+1,by omega,by go_num,by rw[m.out]⟩
   case measure=>simp[intOf];omega
  obtain rfl:k=l.length:=by omega
  have p:=zW r f.out;have E:Hid (a8 14695981039346656037 [iG l]=iz (iG l)):=hid rfl;rw[fw_end];obtain⟨q,C⟩:=xq (iG l);rw[C] at p B E |-;have I:(prog.info? 157).map (·.size)=some 2:=by kernel_rfl
  clear C;go_wp2_with fail;have h:=od (w.alloc (.cells #[.int .u64 0,.int .u64 0] 157)) [.int .u64 (q:Int)] 53;refine (qo _ [q] _ 1 _ rfl (by omega) (by simp only[kqm] at h |-;exact h) (by intro y R;simp at R;subst R;omega)).mono ?_;rintro e Q ⟨rfl,d⟩;rw[kqm,kqm] at d;have o:=(((kqk _ _).alloc (kqa _) (.cells #[.int .u64 0,.int .u64 0] 157)).alloc (by simp) (.cells #[.int .u64 (q:Int)] 53)).trans (d.mono (by omega));have j:=(P.out.alloc (.cells #[.int .u64 (q:Int)] 53)).up d (by omega);have N:=hid j;have K:=hid o;rw[E.out];obtain⟨z,G⟩:=xq (iz q);rw[G] at B |-;clear G j o d h;go_wp2_with ((with_reducible refine ar 157 (.tmp 2) _ ?_);refine ao rfl _ _ _ rfl w.heap.size 157 #[.int .u64 0,.int .u64 0] #[.int .u64 (q:Int),.int .u64 (z:Int)] (by rfl) (by rfl) N.out rfl I (by simp[Value.oneCell']) ?_;intro w3 u D;have O:=hid u;have J:=hid D;clear u D);exact kqq (v:=.tuple #[.agg #[.int .u64 (q:Int),.int .u64 (z:Int)],.int .i64 0]) (kN results175 _ O.out rfl rfl) rfl ⟨by rw[B.out,T.out],J.out.below K.out (kqa _)⟩
 have B:=hid (show kwV l=.agg #[.int .u64 0,.int .u64 0] by simp[kwV,a,Bn]);have hne:(di l != 0)=true:=by rw[kqv];exact a
 have P:=hid H;clear a H hr;go_enter func175,ntmps175;go_wp2_with fail;refine L.out.mono ?_;rintro e Q ⟨rfl,rfl⟩;go_wp2_with fail;exact kqq (v:=.tuple #[.agg #[.int .u64 0,.int .u64 0],.int .i64 (di l)]) (kN results175 _ P.out rfl rfl) rfl ⟨by rw[B.out],(kqk _ _).alloc (kqa _) _⟩
def bq (a b:Nat):List Nat:=if cD a b=true then dJ a else []
def eX (a b:Nat):Int:=if cD a b=true then 0 else 50
def Fp (a b:Nat) (e:Ending) (w':World):Prop:=∃A c,e=.returned (.tuple #[.slice A (bq a b).length c,.int .i64 (eX a b)])/\RdY w' w'.heap.size A (bq a b)/\(bq a b).length<=c
theorem nm(h:cD a b=false):Fp a b (.returned (.tuple #[.slice none 0 0,.int .i64 50])) w':=by
 have c:bq a b=[]:=by simp[bq,h]
 have d:eX a b=50:=by simp[eX,h]
 exact⟨none,0,by rw[c,d];rfl,by rw[c];exact Rd.nil_,by rw[c];simp⟩
theorem Cd(h0:cD a b=true)(h:w'.ownsRow H 5 1 v (dJ a).length ((dJ a).flatMap bv)):Fp a b (.returned (.tuple #[v,.int .i64 0])) w':=by
 have f:bq a b=dJ a:=by simp[bq,h0]
 have j:eX a b=0:=by simp[eX,h0]
 have i:∃A c,v=.slice A (dJ a).length c/\(dJ a).length<=c:=by
  rcases h.2 with⟨rfl,e⟩|⟨g,cap,cur,rfl,_,_,d,_⟩
  .exact ⟨none,0,by rw[e],by omega⟩
  exact⟨_,_,rfl,d⟩
 obtain⟨A,c,rfl,d⟩:=i;exact⟨A,c,by rw[f,j],by rw[f];exact Rd.of_own h,by rw[f];exact d⟩
theorem kF(a b:Nat):cD a b=((decide (a%256<=8)&&eD (dJ a))&&(iG (dJ a)==a&&iz a==b)):=rfl
theorem wj(a k:Nat)(ha:a<18446744073709551616):bits BinOp.and .u64 ((a:Int)/2 ^ (8+2*k)) 3=((a/4 ^ (k+4)%4:Nat):Int):=by
 have c:(2:Nat) ^ (8+2*k)=4 ^ (k+4):=by rw[show 8+2*k=2*(k+4) by omega,Nat.pow_mul]
 have b:(a:Int)/2 ^ (8+2*k)=((a/4 ^ (k+4):Nat):Int):=by rw[<-c];simp
 have h:a/4 ^ (k+4)<18446744073709551616:=kki (kk3 _ _) ha;rw[b];exact uS (k:=2) (m:=3) h (by decide) (by omega)
theorem pZ(p q a b:Int)(W:World):(Op.equalIn 10000 157 (.agg #[.int .u64 p,.int .u64 q]) (.agg #[.int .u64 a,.int .u64 b])).run prog W=.ok (p==a&&q==b) W:=by have h:=underlying157;have f:=underlying53;have e:(Op.equalIn 10000 157 (.agg #[.int .u64 p,.int .u64 q]) (.agg #[.int .u64 a,.int .u64 b]))=(Op.equalIn (9999+1) 157 (.agg #[.int .u64 p,.int .u64 q]) (.agg #[.int .u64 a,.int .u64 b])):=rfl;have d:List.range' 0 2=[0,1]:=rfl;have e1:=λ(x y:Int)=>run_equalIn_int W 9998 53 .u64 .u64 x y f;rw[e];unfold Op.equalIn;simp[go_sem,run_underlying h,Sem.run_bind,d,List.forIn_cons];by_cases g:p=a<;>by_cases c:q=b<;>simp[g,c,go_sem]
theorem qy(a b:Nat)(w:World)(ha:a<18446744073709551616)(hb:b<18446744073709551616):
 Calls prog 117 #[.int .u64 (a:Int),.int .u64 (b:Int)] w λe w'=>Fp a b e w'/\Below w.heap.size w w':=by
 have F:=hid (kF a b);have ha0:(0:Int)<=(a:Int):=by omega
 have e1:=(uX a ha).1;have l:=hid (fk a);have C:=hid (λk h=>rk a k h);have V:=hid (λk=>wj a k ha);have hm:a%256<256:=kz0 _ (by omega);obtain⟨m,z⟩:=xq (a%256);rw[z] at e1 l C F hm;by_cases h8:8<m
 .have Y:=hid (show cD a b=false by rw[F.out,show decide (m<=8)=false by rw[kqh];omega];rfl);clear z ha hb;go_enter func117,ntmps117;go_wp2;go_ret2;exact⟨nm Y.out,kqk _ _⟩
 have G:m<=8:=by omega
 rw[show decide (m<=8)=true by rw[kqo];exact G] at F;have hx0:(0:Int)<=(m:Int):=by omega
 have HA:=hid ha;have Y:=hid hb;have d8:decide ((8:Int)<(m:Int))=false:=by rw[kqh];omega
 clear z ha hb h8 hm;obtain⟨i0,X,B,I,J⟩:=kzr ld;have HI:=hid X;have P:=hid B;have U:=hid I;have R:=hid J;clear X B I J;go_enter func117,ntmps117;go_wp2_with fail;go_loopw [7,16] (λv i wr=>∃k:Nat,k<=m/\i=.int .u64 k/\wr.ownsRow w.heap.size 5 1 v k (((dJ a).take k).flatMap bv)/\Below w.heap.size w wr) (λ_ i _=>m-(intOf i).toNat)
 case atStart=>exact⟨0,kqz _,rfl,kq6 _ _ _ _,kqk _ _⟩
 obtain⟨k,hk,rfl,c,y⟩:=hrel;have L:=y.size;by_cases K:k<m
 .have O:=V.out k;have M:=C.out k K;obtain⟨x,Q⟩:=xq (a/4 ^ (k+4)%4);have hx3:x<4:=by rw[<-Q];exact kz0 _ (by omega)
  rw[Q] at O M;have D:=hid (show ((dJ a).take (k+1)).flatMap bv=((dJ a).take k).flatMap bv++[.int .u8 (x:Int)] by
   have W:k<(dJ a).length:=by rw[l.out];exact K
   rw[kqp W,cB];rw[kql W] at M;rw[Option.some.inj M];rfl)
  have hxi:(x:Int)<4:=by omega
  have hx00:(0:Int)<=(x:Int):=by omega
  have hki:(k:Int)<(m:Int):=by omega
  clear Q M;go_wp2_with (at_builtin;refine kzh _ rfl _ _ 113 rfl w.heap.size 5 i0 _ 1 1 underlying113 HI.out P.out U.out R.out rfl (by decide) _ _ _ rfl (c.alloc _) ⟨_,0,none⟩ 1 1 [.int .u8 (x:Int)] rfl rfl (cI _ _ _) (by simp[Value.oneCell']) (by unfold maxLen;omega) (by omega) (aS y.size) ?_;intro v1 N j T _;have f:=aF y y.size c T);go_roundw
  case rel=>exact⟨k+1,by omega,by go_num,by rw[D.out];exact j,f⟩
  case measure=>simp[intOf];omega
 obtain rfl:k=m:=by omega
 rw[kq8 (by rw[l.out];exact kqa _)] at c;obtain⟨A1,c1,rfl⟩:=aE c;have A:=hid (v6 A1 (dJ a) c1 k wr l.out (by omega) (Rd.of_own c));have g:(dJ a).length<=8:=by rw[l.out];exact G
 cases n:eD (dJ a)
 .have s:=hid (ma g n);have E:=hid (show cD a b=false by rw[F.out,n];rfl);have S:=hid (show kwV (dJ a)=.agg #[.int .u64 0,.int .u64 0] by simp[kwV,s.out,Bn]);rw[s.out,S.out] at A;clear n g c;go_wp2_with fail;refine A.out.mono ?_;rintro e N ⟨rfl,f⟩;have d:=y.trans (f.mono L);go_wp2;go_ret2;exact⟨nm E.out,d.alloc d.size _⟩
 have s:=hid (jX g n);have S:=hid (show kwV (dJ a)=.agg #[.int .u64 (iG (dJ a):Nat),.int .u64 (iz (iG (dJ a)):Nat)] by simp[kwV,s.out,Bn]);have t:=hid (show cD a b=(iG (dJ a)==a&&iz (iG (dJ a))==b) by
  rw[F.out,n];by_cases h:iG (dJ a)=a
  .rw[h];simp
  rw[show (iG (dJ a)==a)=false by rw[kqi];exact h];simp only[kx2,kj9])
 rw[s.out,S.out] at A;obtain⟨p,Z⟩:=xq (iG (dJ a));obtain⟨q,hq⟩:=xq (iz p);rw[Z,hq] at A t;clear n g Z hq;by_cases o:p=a
 .by_cases u:q=b
  .have HY:=hid (show cD a b=true by rw[t.out,o,u];simp);have r:=pZ p q a b;rw[show ((p:Int)==(a:Int))=true by rw[kqx];omega,show ((q:Int)==(b:Int))=true by rw[kqx];omega,Bool.and_self] at r;clear o u;go_wp2_with fail;refine A.out.mono ?_;rintro e N ⟨rfl,f⟩;have d:=y.trans (f.mono L);have j:=aa c f (kqa _);go_wp2;go_ret2;refine⟨Cd HY.out (H:=w.heap.size) ?_,d.alloc d.size _⟩;rw[l.out];exact j.alloc _
  have E:=hid (show cD a b=false by rw[t.out,show (q==b)=false by rw[kqi];exact u,kj9]);have r:=pZ p q a b;rw[show ((q:Int)==(b:Int))=false by rw[kqi];omega,kj9] at r;clear o u c;go_wp2_with fail;refine A.out.mono ?_;rintro e N ⟨rfl,f⟩;have d:=y.trans (f.mono L);go_wp2;go_ret2;exact⟨nm E.out,d.alloc d.size _⟩
 have E:=hid (show cD a b=false by rw[t.out,show (p==a)=false by rw[kqi];exact o,kx2]);have r:=pZ p q a b;rw[show ((p:Int)==(a:Int))=false by rw[kqi];omega,kx2] at r;clear o c;go_wp2_with fail;refine A.out.mono ?_;rintro e N ⟨rfl,f⟩;have d:=y.trans (f.mono L);go_wp2;go_ret2;exact⟨nm E.out,d.alloc d.size _⟩
def FlRes (a b:Nat) (e:Ending) (w':World):Prop:=∃A c,e=.returned (.tuple #[.slice A (bq a b).length c,.bool (cD a b)])/\RdY w' w'.heap.size A (bq a b)/\(bq a b).length<=c
theorem ng(a b:Nat):(eX a b==0)=cD a b:=by unfold eX;cases cD a b<;>simp
theorem rX(A:Option Addr)(ws:List Nat)(c n t:Nat)(w:World)(hn:ws.length=n)(hm:n<=1000000)(h2:256<=n)(ht:t<8)(hr:RdW w w.heap.size A ws)(ho:∀x∈ws,x<18446744073709551616):
 Calls prog 110 #[.slice A n c,.int .i64 (t:Int)] w λe w'=>FlRes (wd ws (96+2*t)) (wd ws (96+2*t+1)) e w'/\Below w.heap.size w w':=by
 subst hn;have r:=fT ho (96+2*t);have u:=fT ho (96+2*t+1);have j:=hid (λW=>qy (wd ws (96+2*t)) (wd ws (96+2*t+1)) W r u);have m:=hid (ng (wd ws (96+2*t)) (wd ws (96+2*t+1)));obtain⟨b,a,rfl,s,q⟩:=RdW.at_ hr (show 96+2*t<ws.length by omega);obtain⟨b',off',z,-,k⟩:=RdW.at_ hr (show 96+2*t+1<ws.length by omega);cases z;rw[<-cF] at q k;obtain⟨x,i⟩:=xq (wd ws (96+2*t));obtain⟨y,h⟩:=xq (wd ws (96+2*t+1));rw[i] at q j m |-;rw[h] at k j m |-;have t0:(0:Int)<=(t:Int):=by omega
 have t8:(t:Int)<8:=by omega
 have w1:IntKind.i64.wrap (2*(t:Int))=2*(t:Int):=kqt _ (by omega);have w2:IntKind.i64.wrap (96+2*(t:Int))=96+2*(t:Int):=kqt _ (by omega);have w3:IntKind.i64.wrap (96+2*(t:Int)+1)=96+2*(t:Int)+1:=kqt _ (by omega);have i1:(0:Int)<=96+2*(t:Int):=by omega
 have i2:(96:Int)+2*(t:Int)<(ws.length:Int):=by omega
 have i3:(0:Int)<=96+2*(t:Int)+1:=by omega
 have i4:(96:Int)+2*(t:Int)+1<(ws.length:Int):=by omega
 have n1:((96:Int)+2*(t:Int)).toNat=96+2*t:=by omega
 have n2:((96:Int)+2*(t:Int)+1).toNat=96+2*t+1:=by omega
 clear hr r u i h ho ht;go_enter func110,ntmps110;go_wp2_with fail
 go_region_held3 (λX:World=>X.cell? ⟨b,a+(96+2*t),none⟩=some (.int .u64 (x:Int))/\X.cell? ⟨b,a+(96+2*t+1),none⟩=some (.int .u64 (y:Int))) (go_keep)
  (first | (go_at_call 117;refine (j.out _).mono ?_;rintro e w5 ⟨⟨v,B,rfl,g,f⟩,d⟩;have m0:=(d.cell (p:=⟨b,a+(96+2*t),none⟩) s).trans q;have m1:=(d.cell (p:=⟨b,a+(96+2*t+1),none⟩) s).trans k;have l:=hid g;have o:=hid f;clear g f))
 go_wp2;go_ret2;exact⟨⟨v,B,by rw[m.out];rfl,l.out,o.out⟩,(kqk _ _).drew.trans d⟩
def MhRes (ws:List Nat) (e:Ending) (w':World):Prop:=∃A c,e=.returned (.tuple #[.slice A (ah ws).length c,.int .i64 (aj ws)])/\RdB w' w'.heap.size A (ah ws)/\(ah ws).length<=c
theorem ns(hr:aj ws=r)(h0:r≠0):MhRes ws (.returned (.tuple #[.slice none 0 0,.int .i64 r])) w':=by
 subst hr;have:ah ws=[]:=by simp[ah,h0]
 exact⟨none,0,by rw[this];rfl,by rw[this];exact Rd.nil_,by rw[this];simp⟩
theorem iI(h:ak (ws.length:Int)=true):fm ws.length 128=false:=by have:=(ab _).1 h;simp only[fm,kzs,kqh,kqr];omega
theorem wB(h:cj ws 128=r)(h0:r≠0):aj ws=r:=by
 subst h;cases a:ak (ws.length:Int) with
 | false=>rw[nN a,fP a]
 | true =>
  cases b:blocks ws 128 with
  | none=>rw[yO a b,eY a (iI a) b]
  | some l=>exact absurd (cV a (iI a) b).1 h0
theorem BY(h:cj ws 128=0):ak (ws.length:Int)=true/\blocks ws 128=some (aT ws 128):=by
 cases a:ak (ws.length:Int) with
 | false=>rw[fP a] at h;cases h
 | true =>
  cases b:blocks ws 128 with
  | none=>rw[eY a (iI a) b] at h;cases h
  | some l=>rw[(cV a (iI a) b).2];exact⟨rfl,rfl⟩
theorem vt(hk:k<l.length)(h:(l.take k).all (dW ws)=true)(h1:dW ws l[k]=true):(l.take (k+1)).all (dW ws)=true:=by rw[kqp hk,List.all_append,h];simp[h1]
theorem CQ(hk:k<l.length)(h1:dW ws l[k]=false):l.all (dW ws)=false:=by
 cases a:l.all (dW ws) with
 | false=>rfl
 | true=>rw[kzv] at a;rw[a _ (kqn hk)] at h1;cases h1
theorem Cr(h:cD a b=true):(bq a b).length=a%256:=by simp[bq,h,fk]
theorem jY{b:Bk}(hk:b.kind=1):dW ws b=(cD (wd ws (tyA b)) (wd ws (tyA b+1))&&b.size==((bg (bq (wd ws (tyA b)) (wd ws (tyA b+1))).length:Nat):Int)):=by
 unfold dW dj;rw[hk];cases a:cD (wd ws (tyA b)) (wd ws (tyA b+1)) with
 | false=>rfl
 | true=>rw[Cr a];rfl
theorem eK{b:Bk}(hk:b.kind≠1):dW ws b=true:=by unfold dW;rw[show (b.kind != 1)=true by rw[kqv];exact hk];rfl
theorem iX{i:Nat}(h:blocks ws i=some l)(h2:i%2=0)(hk:k<l.length)(h1:l[k].kind=1):0<=l[k].typ/\l[k].typ<8:=by obtain⟨a,e,-,-,-,b,-⟩:=cC _ _ h h2 k hk;have h7:=(bH _).1 (fG b);have e1:(bkAt ws a).kind=(ap (wd ws a)).kind:=rfl;have e2:(bkAt ws a).typ=(ap (wd ws a)).typ:=rfl;rw[e] at h1 |-;omega
theorem ir(ws:List Nat)(h:ak (ws.length:Int)=true):256<=ws.length/\ws.length<=2048/\ws.length%8=0:=by have:=(ab _).1 h;omega
theorem Kd(A:Option Addr)(ws:List Nat)(c n:Nat)(w:World)(hn:ws.length=n)(hm:n<=9223372036854775807)(C:RdW w w.heap.size A ws)(ho:∀x∈ws,x<18446744073709551616):
 Calls prog 62 #[.slice A n c] w λe w'=>MhRes ws e w'/\Below w.heap.size w w':=by
 subst hn;have HR:=hid C;have HO:=hid ho;have Eq:=hid (mV A ws c ws.length 128 w rfl hm C ho);clear C ho;cases K:ak (ws.length:Int)
 .have HI:=hid (bL K);have HE:=hid (nN K);clear K;go_enter func62,ntmps62;go_wp2_with fail;refine (aB A ws.length c w hm).mono ?_;rintro e Z ⟨rfl,rfl⟩;rw[HI.out];go_wp2;go_ret2;exact⟨ns HE.out (by omega),kqk _ _⟩
 have HI:=hid (aV K);obtain⟨Lc,L,Ld⟩:=ir ws K;have HS:=hid K;clear K Ld;go_enter func62,ntmps62;go_wp2_with fail;refine (aB A ws.length c w hm).mono ?_;rintro e Z ⟨rfl,rfl⟩;rw[HI.out];go_wp2_with fail;refine Eq.out.mono ?_;rintro e Z ⟨⟨A1,c1,rfl,F,z⟩,d⟩;have o:=d.size;have R:=iR ws 128;have a:Hid (cj ws 128=0->ak (ws.length:Int)=true/\blocks ws 128=some (aT ws 128)):=hid BY;have E:Hid (∀r,cj ws 128=r->r≠0->aj ws=r):=hid (λ_ h h0=>wB h h0);obtain⟨l,hl⟩:=xq (aT ws 128);rw[hl] at F z R a |-;have Q:=hid F;have La:=hid z;obtain⟨r,C⟩:=xq (cj ws 128);have Lb:=hid C;rw[C] at a |-;clear C F z hl;by_cases j:r=0
 .subst j;have G:=hid (a.out rfl).2;clear a E;go_wp2_with fail;go_loopw [26] (λi wr=>∃k:Nat,k<=l.length/\i=.int .i64 k/\Hid ((l.take k).all (dW ws)=true)/\Below Z.heap.size Z wr) (λi _=>l.length-(intOf i).toNat)
  case atStart=>exact⟨0,kqz _,rfl,rfl,kqk _ _⟩
  obtain⟨k,hk,rfl,U,B⟩:=hrel;have hz:=B.size;by_cases q:k<l.length
  .obtain ⟨b,off,rfl,hbw,q0,q1,q2,q3,q4,q5⟩:=RdB.at_ (Q.out.below B) q;have u:=hid (λh=>iX G.out (by omega) q h);have J:=hid (λh=>vt q U.out h);have H:=hid (λh=>tN HS.out G.out (CQ q h));obtain⟨x,hx⟩:=xq (l[k]);rw[hx] at q0 q1 q2 q3 q4 q5 u J H;have s:=hid (λh=>jY (ws:=ws) (b:=x) h);have N:=hid (λh=>eK (ws:=ws) (b:=x) h);have S:tyA x=96+2*x.typ.toNat:=rfl;rw[S] at s;obtain⟨xa,xs,xk,xt,xm,xn⟩:=x;dsimp only at q0 q1 q2 q3 q4 q5 u s;have hlm:(k:Int)<(l.length:Int):=by omega
   clear hx S;have y:=Bx.new wr 55 #[.int .i64 xa,.int .i64 xs,.int .i64 xk,.int .i64 xt,.bool xm,.int .u64 (xn:Int)];by_cases g:xk=1
   .obtain ⟨t0,t8⟩:=u.out g;obtain⟨t,rfl⟩:=kq1 t0;have v:=hid (s.out g);simp only[kqj] at v;subst g;have HC:=hid (λW (h:RdW W W.heap.size A ws)=>rX A ws c ws.length t W rfl (by omega) Lc (by omega) h HO.out);have hz1w:=o;have Ky:=hid ((((HR.out.up d o).up B hz).alloc (kqa _) (.cells #[.int .i64 xa,.int .i64 xs,.int .i64 1,.int .i64 (t:Int),.bool xm,.int .u64 (xn:Int)] 55)).more (B':=(wr.alloc (.cells #[.int .i64 xa,.int .i64 xs,.int .i64 1,.int .i64 (t:Int),.bool xm,.int .u64 (xn:Int)] 55)).heap.size) (by simp));obtain⟨X,T⟩:=xq (wd ws (96+2*t));obtain⟨fy,M⟩:=xq (wd ws (96+2*t+1));rw[T,M] at HC v;clear y T M s N u;go_wp2_with fail;refine (HC.out _ Ky.out).mono ?_;rintro e w2 ⟨⟨A2,c2,rfl,Y,P⟩,p⟩;rw[kqm] at p;have O:=Bx.of_new p;have L:=B.trans ((ay p).mono hz);obtain⟨c0,c1',c2',c3,c4,c5,cf,cz⟩:=O.c6;have I:=hid L;clear Y P O p L cf;obtain⟨ok,V⟩:=xq (cD X fy);obtain⟨m,D⟩:=xq ((bq X fy).length);have hm8:m<=255:=by
     rw[<-D];unfold bq;split
     .rw[fk];have:=kz0 X (show 0<256 by omega);omega
     simp
    rw[V,D] at v |-;clear V D;cases ok
    .have HB:=hid (H.out (by rw[v.out];rfl));go_wp2;go_ret2;exact⟨ns HB.out (by omega),d.trans (I.out.mono o)⟩
    rw[kzq] at v;have Kw:((bg m:Nat):Int)=((m:Int)+3)/2*2:=by unfold bg;omega
    rw[Kw] at v;by_cases f:xs=((m:Int)+3)/2*2
    .have Kx:(xs != ((m:Int)+3)/2*2)=false:=by rw[kqr];exact f
     have HY:=hid (J.out (by rw[v.out,kqx];exact f));clear f;go_wp2;go_roundw
     case rel=>exact⟨k+1,by omega,by go_num,HY.out,I.out⟩
     case measure=>simp[intOf];omega
    have Kx:(xs != ((m:Int)+3)/2*2)=true:=by rw[kqv];exact f
    have HB:=hid (H.out (by rw[v.out,kqi];exact f));clear f;go_wp2;go_ret2;exact⟨ns HB.out (by omega),d.trans (I.out.mono o)⟩
   have hk2:(xk != 1)=true:=by rw[kqv];exact g
   have HY:=hid (J.out (N.out g));clear g y;go_wp2;go_roundw
   case rel=>exact⟨k+1,by omega,by go_num,HY.out,B.alloc hz _⟩
   case measure=>simp[intOf];omega
  have HP:=hid (fM HS.out G.out (by have:=U.out;rwa [kq8 (by omega)] at this));go_wp2;go_ret2;exact⟨⟨A1,c1,by rw[HP.out.1,HP.out.2];rfl,by rw[HP.out.2];exact Q.out.up B hz,by rw[HP.out.2];exact La.out⟩,d.trans (B.mono o)⟩
 have hn1:(r != 0)=true:=by rw[kqv];exact j
 have HN:=hid (E.out r Lb.out j);have Kz:=hid j;clear j a E;go_wp2;go_ret2;exact⟨ns HN.out Kz.out,d⟩
theorem nv(A:Option Addr)(ws:List Nat)(c n:Nat)(w:World)(hn:ws.length=n)(hm:n<=9223372036854775807)(a:RdW w w.heap.size A ws)(ho:∀x∈ws,x<18446744073709551616):
 Calls prog 162 #[.slice A n c] w λe w'=>e=.returned (.int .i64 (aj ws))/\Below w.heap.size w w':=by have d:=hid (Kd A ws c n w hn hm a ho);clear a ho hn;obtain⟨r,a⟩:=xq (aj ws);have f:=hid a;rw[a];clear a;go_enter func162,ntmps162;go_wp2_with fail;refine d.out.mono ?_;rintro e w1 ⟨⟨A1,c1,rfl,-,-⟩,b⟩;go_wp2;go_ret;exact⟨by rw[<-f.out];rfl,b⟩
theorem sw(hk:k<l.length):eQ (l.take (k+1))=eQ (l.take k)++(if l[k].mark=true then [l[k].at_] else []):=by rw[kqp hk];unfold eQ;rw[kjc,kxu];cases h:l[k].mark<;>simp[h]
theorem E9(l:List Bk):(eQ l).length<=l.length:=by unfold eQ;rw[kzg];exact kjo _ _
theorem gY(ws:List Nat):(ah ws).length<=1024:=by
 unfold ah;split
 .rename_i h;obtain⟨b,l,a,-⟩:=aA h;have hb:=(ab _).1 b;have:=(bK (by omega) _ _ a (by omega) (by omega) (by omega)).1;rw[a];simp only[kq5];omega
 simp
theorem kr{n:Nat}{e:TypeId}{sz:Nat}{xs:List Value}(h:w'.ownsRow H e sz v n xs):∃A c,v=.slice A n c/\n<=c/\Rd w' w'.heap.size A xs:=by
 have b:∃A c,v=.slice A n c/\n<=c:=by
  rcases h.2 with⟨rfl,hnil⟩|⟨g,cap,cur,rfl,_,_,a,_⟩
  .have h0:n=0\/0<n:=by omega
   exact⟨none,0,by
    have:=aE h;obtain⟨A,c,e⟩:=this;injection e with _ e2 _;rw[<-e2],by
    have:=aE h;obtain⟨A,c,e⟩:=this;injection e with _ e2 _;omega⟩
  exact⟨_,_,rfl,a⟩
 obtain⟨A,c,rfl,a⟩:=b;exact⟨A,c,rfl,a,Rd.of_own h⟩
theorem vg(ws:List Nat)(xa xs xk:Int)(t:Nat)(xm:Bool)(xn:Nat):dj ws ⟨xa,xs,xk,(t:Int),xm,xn⟩=(cD (wd ws (96+2*t)) (wd ws (96+2*t+1))&&xs==((bg (bq (wd ws (96+2*t)) (wd ws (96+2*t+1))).length:Nat):Int)):=by have h:=jY (ws:=ws) (b:=⟨xa,xs,1,(t:Int),xm,xn⟩) rfl;unfold dW at h;exact h
theorem oi(a b:Nat):di (bq a b)=0:=by
 unfold bq;split
 .rename_i h;unfold cD at h;simp only[kqu,kzd] at h;exact jX (by rw[fk];exact h.1.1) h.1.2
 rfl
theorem lE(a b:Nat):(bq a b).length<=8:=(kO (oi a b)).1
theorem zJ(A:Option Addr)(ws:List Nat)(c n t:Nat)(xa xs xk:Int)(xm:Bool)(xn:Nat)(w:World)(hn:ws.length=n)(hm:n<=1000000)(h2:256<=n)(ht:t<8)(B:RdW w w.heap.size A ws)(ho:∀x∈ws,x<18446744073709551616):
 Calls prog 216 #[.slice A n c,.agg #[.int .i64 xa,.int .i64 xs,.int .i64 xk,.int .i64 (t:Int),.bool xm,.int .u64 (xn:Int)]] w λe w'=>e=.returned (.bool (dj ws ⟨xa,xs,xk,(t:Int),xm,xn⟩))/\Below w.heap.size w w':=by
 subst hn;have hx:=fT ho (96+2*t);have hy:=fT ho (96+2*t+1);have a:=hid (vg ws xa xs xk t xm xn);have T:=hid (λW=>qy (wd ws (96+2*t)) (wd ws (96+2*t+1)) W hx hy);have Q:=hid (ng (wd ws (96+2*t)) (wd ws (96+2*t+1)));have v:=lE (wd ws (96+2*t)) (wd ws (96+2*t+1));have g:=hid (oi (wd ws (96+2*t)) (wd ws (96+2*t+1)));obtain⟨b,d,rfl,hb,u⟩:=RdW.at_ B (show 96+2*t<ws.length by omega);obtain⟨b',off',e',-,l⟩:=RdW.at_ B (show 96+2*t+1<ws.length by omega);cases e';rw[<-cF] at u l;obtain⟨x,F⟩:=xq (wd ws (96+2*t));obtain⟨y,O⟩:=xq (wd ws (96+2*t+1));obtain⟨q,J⟩:∃q,dj ws ⟨xa,xs,xk,(t:Int),xm,xn⟩=q:=⟨_,rfl⟩;rw[F] at u T Q a g v;rw[O] at l T Q a g v;rw[J] at a |-;have t0:(0:Int)<=(t:Int):=by omega
 have t8:(t:Int)<8:=by omega
 have w1:IntKind.i64.wrap (2*(t:Int))=2*(t:Int):=kqt _ (by omega);have w2:IntKind.i64.wrap (96+2*(t:Int))=96+2*(t:Int):=kqt _ (by omega);have w3:IntKind.i64.wrap (96+2*(t:Int)+1)=96+2*(t:Int)+1:=kqt _ (by omega);have i1:(0:Int)<=96+2*(t:Int):=by omega
 have i2:(96:Int)+2*(t:Int)<(ws.length:Int):=by omega
 have i3:(0:Int)<=96+2*(t:Int)+1:=by omega
 have i4:(96:Int)+2*(t:Int)+1<(ws.length:Int):=by omega
 have n1:((96:Int)+2*(t:Int)).toNat=96+2*t:=by omega
 have n2:((96:Int)+2*(t:Int)+1).toNat=96+2*t+1:=by omega
 obtain⟨cs,Y⟩:∃cs,cs=#[Value.int .i64 xa,.int .i64 xs,.int .i64 xk,.int .i64 (t:Int),.bool xm,.int .u64 (xn:Int)]:=⟨_,rfl⟩;have P:=Bx.new w 55 #[.int .i64 xa,.int .i64 xs,.int .i64 xk,.int .i64 (t:Int),.bool xm,.int .u64 (xn:Int)];have f:=(kqk w.heap.size w).alloc (kqa _) (.cells #[.int .i64 xa,.int .i64 xs,.int .i64 xk,.int .i64 (t:Int),.bool xm,.int .u64 (xn:Int)] 55);replace u:=(f.cell (p:=⟨b,d+(96+2*t),none⟩) hb).trans u;replace l:=(f.cell (p:=⟨b,d+(96+2*t+1),none⟩) hb).trans l;have H:(w.alloc (.cells #[.int .i64 xa,.int .i64 xs,.int .i64 xk,.int .i64 (t:Int),.bool xm,.int .u64 (xn:Int)] 55)).heap.size=w.heap.size+1:=by simp
 clear B hx hy F O ho ht J Y;go_enter func216,ntmps216;go_wp2_with fail;obtain⟨o,K⟩:∃o,w.alloc (.cells #[.int .i64 xa,.int .i64 xs,.int .i64 xk,.int .i64 (t:Int),.bool xm,.int .u64 (xn:Int)] 55)=o:=⟨_,rfl⟩;rw[K] at u l P f H |-;clear K;have b3:o.cell? ⟨w.heap.size,3,none⟩=some (.int .i64 (t:Int)):=P.cell 3;have D:b<o.heap.size:=by omega
 have E:w.heap.size<o.heap.size:=by omega
 have BX:=hid P;have M:=hid f;clear P f H
 go_region_held3 (λX:World=>X.cell? ⟨b,d+(96+2*t),none⟩=some (.int .u64 (x:Int))/\X.cell? ⟨b,d+(96+2*t+1),none⟩=some (.int .u64 (y:Int))/\X.cell? ⟨w.heap.size,3,none⟩=some (.int .i64 (t:Int))) (go_keep)
  (first | (go_at_call 117;refine (T.out _).mono ?_;rintro e R ⟨⟨A1,c1,rfl,L,S⟩,j⟩;have m0:=(j.cell (p:=⟨b,d+(96+2*t),none⟩) D).trans u;have m1:=(j.cell (p:=⟨b,d+(96+2*t+1),none⟩) D).trans l;have m2:=(j.cell (p:=⟨w.heap.size,3,none⟩) E).trans b3;have U:=hid L;have k:=hid j;clear L S))
 have s:=uD A1 (bq x y) c1 (bq x y).length R.heap.size R rfl (by omega) U.out;have C:kSz (bq x y)=bg (bq x y).length:=by simp[kSz,g.out]
 rw[g.out,C] at s;have h:=hid s;have G:bg (bq x y).length<=10:=by unfold bg;omega
 have c1x:R.cell? ⟨w.heap.size,1,none⟩=some (.int .i64 xs):=(k.out.cell (p:=⟨w.heap.size,1,none⟩) E).trans (BX.out.cell 1);obtain⟨m,N⟩:=xq ((bq x y).length);rw[N] at a h v G |-;obtain⟨z,Z⟩:=xq (bg m);rw[Z] at h a G;have i:Hid (eX x y=if cD x y=true then 0 else 50):=hid rfl;obtain⟨r,B⟩:=xq (eX x y);obtain⟨V,I⟩:=xq (cD x y);rw[B] at i Q |-;rw[I] at i a Q;clear B I s C N Z m0 m1 m2 u l b3;cases V
 .obtain rfl:r=50:=i.out;go_wp2_with fail;refine h.out.mono ?_;rintro e w6 ⟨rfl,rfl⟩;go_wp2;go_ret;exact⟨by rw[a.out];rfl,M.out.trans ((kqk _ _).drew.trans (k.out.mono (by show _<=o.heap.size;omega)))⟩
 obtain rfl:r=0:=i.out;rw[kzq] at a;go_wp2_with fail;refine h.out.mono ?_;rintro e w6 ⟨rfl,rfl⟩;go_wp2;go_ret;exact⟨by rw[a.out];rfl,M.out.trans ((kqk _ _).drew.trans (k.out.mono (by show _<=o.heap.size;omega)))⟩
theorem dD:(prog.info? 89).map (λi=>(i.zero,i.size,i.bytes))=some (some (.agg #[.int .i64 0,.int .u64 0]),2,16):=by kernel_rfl
def aK (ws:List Nat):List En:=if aj ws=0 then aY (ah ws) 128 else []
theorem ga(h:aj ws=0):cj ws 128=0/\aT ws 128=ah ws/\eJ (ah ws) 128=0/\blocks ws 128=some (ah ws):=by obtain⟨c,l,a,h3,b⟩:=aA h;obtain⟨e,d⟩:=cV c (iI c) (l:=l) a;have hb:=(ab _).1 c;refine⟨e,by rw[d,b],?_,by rw[a,b]⟩;rw[b];exact lD (i:=128) (by omega) a (by omega) (by omega) (by omega) (s:=128) (by omega) (by omega) (by omega)
theorem xD(hk:k<l.length)(s:Int):aY (l.take (k+1)) s=aY (l.take k) s++(if l[k].kind=1/\l[k].next≠bG l[k] (aO (l.take k) s) then [⟨l[k].at_+1,bG l[k] (aO (l.take k) s)⟩] else []):=by rw[kqp hk,tw];simp[aY]
theorem nD(l:List Bk):∀s,(aY l s).length<=l.length:=by
 induction l with
 | nil=>intro s;exact kqa _
 | cons b l ih =>intro s;have:=ih (fg b s);simp only[aY,kqs,kq2];split<;>simp<;>omega
theorem wM(h:eJ l s=0)(hk:k<l.length):∃a:k<(kf l s).length,(kf l s)[k]=((bG l[k] (aO (l.take k) s):Nat):Int)/\bG l[k] (aO (l.take k) s)<=2048:=by
 have e:kf l s=bB l s:=by simp[kf,h]
 have d:k<(kf l s).length:=by rw[e,dF];exact hk
 refine⟨d,?_,?_⟩
 .have:=uE (l:=l) (s:=s) hk;rw[bU l k hk,<-e,kql d] at this;rw[Option.some.inj this];obtain⟨c,a,b,_⟩:=fd h;have f:=lJ c (kjv hk) a b;unfold bG;split<;>omega
 obtain⟨c,a,b,_⟩:=fd h;have f:=lJ c (kjv hk) a b;unfold bG;split<;>omega
theorem wg(h:eJ l s=0)(hk:k<l.length):128<=l[k].at_/\l[k].at_<=2048/\2<=l[k].size/\l[k].size<=2048:=by obtain⟨a,_⟩:=fd h;have:=(eP _).1 (eg (dG a).2 hk).1;rw[bU l k hk] at this;omega
theorem uU(A:Option Addr)(ws:List Nat)(c n:Nat)(w:World)(hn:ws.length=n)(hm:n<=9223372036854775807)(E:RdW w w.heap.size A ws)(ho:∀x∈ws,x<18446744073709551616):
 Calls prog 143 #[.slice A n c] w λe w'=>fL w.heap.size (aj ws) (aK ws) e w'/\Below w.heap.size w w':=by
 have HC:=hid (nv A ws c n w hn hm E ho);have HF:=hid (λW (h:RdW W W.heap.size A ws)=>mV A ws c n 128 W hn hm h ho);have HR:=hid E;have z:Hid (aj ws=0->cj ws 128=0/\aT ws 128=ah ws/\eJ (ah ws) 128=0/\blocks ws 128=some (ah ws)):=hid ga;have U:=gY ws;clear E ho hn;by_cases y:aj ws=0
 .obtain ⟨g1,g2,g3,g4⟩:=z.out y;have N:=hid (show aK ws=aY (ah ws) 128 by simp[aK,y]);have HE:=hid y;rw[y] at HC;unfold rx at HF;rw[g1,g2] at HF;obtain⟨l,hl⟩:=xq (ah ws);rw[hl] at HF U N g3;have K:=hid g3;have I:=hid (λ(A2:Option Addr) (c2:Nat) (W:World) (h:RdB W W.heap.size A2 l)=>wO A2 l c2 l.length 128 W rfl (by omega) h (by omega));unfold Cj at I;rw[g3] at I;clear y g1 g2 g3 g4 hl z;obtain⟨i0,hi,M,p,t⟩:=kzr dD;have HI:=hid hi;have Le:=hid M;have Ld:=hid p;have La:=hid t;clear hi M p t;go_enter func143,ntmps143;go_wp2_with fail;refine HC.out.mono ?_;rintro e w1 ⟨rfl,j⟩;have p:=j.size;go_wp2_with fail;refine (HF.out _ (HR.out.up j p)).mono ?_;rintro e w2 ⟨⟨A1,c1,rfl,S,-⟩,B⟩;have Z:=j.trans (B.mono p);have t:=Z.size;have F:=hid S;clear S;go_wp2_with fail;refine (I.out A1 c1 _ F.out).mono ?_;rintro e w3 ⟨⟨A2,c2,rfl,L,-⟩,H⟩;have J:=Z.trans (H.mono t);have Kz:=J.size;have R:=hid L;have T:=hid (F.out.up H H.size);clear L F;obtain⟨pl,o⟩:=xq (kf l 128);have HPE:=hid o;rw[o] at R |-;have g:pl.length=l.length:=by rw[<-o];simp[kf,K.out,dF]
  have V:=hid (λk (hk:k<l.length)=>wM K.out hk);rw[o] at V;have HPL2:=hid g;rw[g];clear o g;go_wp2_with fail;go_loopw [9,30] (λv i wr=>∃k:Nat,k<=l.length/\i=.int .i64 k/\wr.ownsRow w3.heap.size 89 2 v (aY (l.take k) 128).length ((aY (l.take k) 128).flatMap En.cells)/\Below w3.heap.size w3 wr) (λ_ i _=>l.length-(intOf i).toNat)
  case atStart=>exact⟨0,kqz _,rfl,kq6 _ _ _ _,kqk _ _⟩
  obtain⟨k,hk,rfl,a,D⟩:=hrel;have hz:=D.size;by_cases q:k<l.length
  .obtain ⟨b,off,rfl,hbw,q0,q1,q2,q3,q4,q5⟩:=RdB.at_ (T.out.below D) q;obtain⟨Kw,Eq,Ky⟩:=V.out k q;obtain⟨b2,X,rfl,hbw2,p0⟩:=RdI.at_ (R.out.below D) Kw;rw[Eq] at p0;have d:=hid (xD q 128);have C:=nD (l.take k) 128;rw[kq4] at C;have O:=wg K.out q;obtain⟨m,Q⟩:=xq (aY (l.take k) 128);rw[Q] at a d C;obtain⟨v,hv⟩:=xq (bG l[k] (aO (l.take k) 128));rw[hv] at Ky p0 d;obtain⟨x,hx⟩:=xq (l[k]);rw[hx] at q0 q1 q2 q3 q4 q5 d O;obtain⟨xa,xs,xk,xt,xm,P⟩:=x;dsimp only at q0 q1 q2 q3 q4 q5 d O;have hlm:(k:Int)<(l.length:Int):=by omega
   have hml2:m.length<=1024:=by omega
   have Y:b2<wr.heap.size:=by omega
   have p0':=(kze wr (.cells #[.int .i64 xa,.int .i64 xs,.int .i64 xk,.int .i64 xt,.bool xm,.int .u64 (P:Int)] 55) ⟨b2,X+k,none⟩ Y).trans p0;have hv2:(v:Int)<=2048:=by omega
   have hv0:(0:Int)<=(v:Int):=by omega
   clear hx Q C hv Eq;by_cases u:xk=1
   .subst u;by_cases s:P=v
    .have Lb:((P:Int) != (v:Int))=false:=by rw[kqr];omega
     have f:=hid (show aY (l.take (k+1)) 128=m by rw[d.out,if_neg (λh=>h.2 s)];simp);clear d s;go_wp2;go_roundw
     case rel=>exact⟨k+1,by omega,by go_num,by rw[f.out];exact a.alloc _,D.alloc hz _⟩
     case measure=>simp[intOf];omega
    have Lb:((P:Int) != (v:Int))=true:=by rw[kqv];omega
    have f:=hid (show aY (l.take (k+1)) 128=m++[⟨xa+1,v⟩] by rw[d.out,if_pos ⟨rfl,s⟩]);clear d s;go_wp2_with (at_builtin;refine kzh _ rfl _ _ 26 rfl w3.heap.size 89 i0 _ 2 16 underlying26 HI.out Le.out Ld.out La.out rfl (by decide) _ _ _ rfl ((a.alloc _).alloc _) ⟨_,0,none⟩ 1 1 [.int .i64 (xa+1),.int .u64 (v:Int)] rfl rfl (mn _ _ _ (kqm _ _)) (by simp[Value.oneCell']) (by unfold maxLen;omega) (by omega) (by simp;omega) ?_;intro v1 w2 G Lc _;have B:=aF (D.alloc hz (.cells #[.int .i64 xa,.int .i64 xs,.int .i64 1,.int .i64 xt,.bool xm,.int .u64 (P:Int)] 55)) (by simp;omega) (a.alloc _) Lc);go_roundw
    case rel=>exact⟨k+1,by omega,by go_num,by rw[f.out,kqs,cB];exact G,B⟩
    case measure=>simp[intOf];omega
   have hk2:(xk==1)=false:=by rw[kqi];exact u
   have f:=hid (show aY (l.take (k+1)) 128=m by rw[d.out,if_neg (λh=>u h.1)];simp);clear d u;go_wp2;go_roundw
   case rel=>exact⟨k+1,by omega,by go_num,by rw[f.out];exact a.alloc _,D.alloc hz _⟩
   case measure=>simp[intOf];omega
  rw[kq8 (by omega)] at a;obtain⟨A4,c4,rfl⟩:=aE a;have Kx:=hid (am a J.size);clear a;go_wp2;go_ret2;exact⟨⟨A4,c4,by rw[N.out,HE.out];rfl,by rw[N.out];exact Kx.out⟩,J.trans (D.mono Kz)⟩
 have Lf:(aj ws != 0)=true:=by rw[kqv];exact y
 have N:=hid (show aK ws=[] by simp[aK,y]);obtain⟨r,E⟩:=xq (aj ws);have HE:=hid E;rw[E] at HC Lf;clear y E z;go_enter func143,ntmps143;go_wp2_with fail;refine HC.out.mono ?_;rintro e w1 ⟨rfl,j⟩;go_wp2;go_ret2;exact⟨bN HE.out N.out,j⟩
end Go.Proofs.YtpcajamacpbjcaaGreat
