/- Texts laid together: Knd KndW KndR Mrk Mrk2 Fwt Fww. -/
import Derived.Test.YtpcajamacpbjcaaGreatZKPlain
import Derived.Test.YtpcajamacpbjcaaGreatZKHead
import Derived.Deep.RegionHeld3
import Derived.Deep.DrawnRows
import Derived.Test.YtpcajamacpbjcaaGreatZKPlace
set_option maxHeartbeats 16000000
set_option maxRecDepth 100000
set_option linter.all false
namespace Go.Proofs.YtpcajamacpbjcaaGreat
open Lib (hid)
open Go.RowKit
variable {r s:Int}{l:List Bk}{ws:List Nat}{H a b k:Nat}{v:Value}{w':World}
open Go.Proofs.Tryz
def aZ (x:Nat):List Value:=[.int .u8 (x:Int)]
theorem pt(x:Nat):(aZ x).length=1:=rfl
def RdY (w:World) (B:Nat) (A:Option Addr) (l:List Nat):Prop:=Rd w B A (l.flatMap aZ)
theorem RdY.at_{w:World}{B:Nat}{A:Option Addr}{l:List Nat}(h:RdY w B A l)(hk:k<l.length):
 ∃b a,A=some ⟨b,a,none⟩/\b<B/\w.cell? ⟨b,a+k,none⟩=some (.int .u8 (l[k]:Int)):=by obtain⟨b,a,e,c,d⟩:=Rd.at_flat pt h (by omega) hk;have:=d 0 (by omega);simp only[kx7,kz6] at this;exact⟨b,a,e,c,this⟩
theorem wl{l:List Nat}(hk:k<l.length)(h:fc (l.take k)=true)(h1:1<=l[k])(h2:l[k]<=3):fc (l.take (k+1))=true:=by
 rw[kqq hk];rw[d9] at h |-;intro x a;rw[kzt] at a;rcases a with a|a
 .exact h x a
 simp only[kq0,kzs,or_false] at a;subst a;exact⟨h1,h2⟩
theorem s6(A:Option Addr)(l:List Nat)(c n B:Nat)(w:World)(hn:l.length=n)(hm:n<=9223372036854775807)(hr:RdY w B A l):
 Calls prog 118 #[.slice A n c] w λe w'=>e=.returned (.int .i64 (cR l))/\w=w':=by
 subst hn;have v:=hid hr;clear hr;by_cases o:8<l.length
 .have u:=hid (rA o);go_enter func118,ntmps118;go_wp2;go_ret;exact⟨by rw[u.out];rfl,rfl⟩
 have d:l.length<=8:=by omega
 have p:Hid (fc l=false->cR l=8):=hid λh=>kY d h;have s:Hid (fc l=true->cR l=0):=hid λh=>iQ d h;clear o;go_enter func118,ntmps118;go_wp2_with fail
 go_loop [10] (λi=>∃k:Nat,k<=l.length/\i=.int .i64 k/\Hid (fc (l.take k)=true)) (λi=>l.length-(intOf i).toNat)
 case atStart=>exact⟨0,kqx _,rfl,rfl⟩
 obtain⟨k,hk,rfl,r⟩:=hrel;by_cases a:k<l.length
 .obtain ⟨b,off,rfl,hb,y⟩:=v.out.at_ a;have q:=hid (λg f=>wl a r.out g f);have j:=hid (λh=>z8 a h);obtain⟨x,m⟩:=xq (l[k]);rw[m] at y q j;clear m;by_cases g:x<1
  .have E:=hid (p.out (j.out (.inl g)));go_wp2;go_ret;exact⟨by rw[E.out];rfl,rfl⟩
  by_cases f:3<x
  .have E:=hid (p.out (j.out (.inr f)));go_wp2;go_ret;exact⟨by rw[E.out];rfl,rfl⟩
  have z:1<=x:=by omega
  have t:x<=3:=by omega
  clear g f;go_wp2_with fail
  go_round
  case rel=>exact⟨k+1,by omega,by go_num,q.out z t⟩
  case measure=>simp[intOf];omega
 have E:=hid (s.out (by have:=r.out;rwa [kzb (by omega)] at this));go_wp2;go_ret;exact⟨by rw[E.out];rfl,rfl⟩
def kSz (l:List Nat):Nat:=if cR l=0 then aX l.length else 0
theorem r6(A:Option Addr)(l:List Nat)(c n B:Nat)(w:World)(hn:l.length=n)(hm:n<=9223372036854775807)(hr:RdY w B A l):
 Calls prog 158 #[.slice A n c] w λe w'=>e=.returned (.tuple #[.int .i64 (kSz l:Nat),.int .i64 (cR l)])/\w=w':=by
 have b:=hid (s6 A l c n B w hn hm hr);clear hr;by_cases a:cR l=0
 .have f:=(j9 a).1;have d:=hid (show ((kSz l:Nat):Int)=2+((n:Int)+1)/2*2 by simp only[kSz,a,if_true,aX,hn];omega);rw[hn] at f;rw[a] at b;have g:=hid a;clear a hn;go_enter func158,ntmps158;go_wp2_with fail;refine b.out.mono ?_;rintro e h ⟨rfl,rfl⟩;go_wp2;go_ret2;exact⟨by rw[d.out,g.out];rfl,rfl⟩
 have d:=hid (show kSz l=0 by simp[kSz,a]);have hne:(cR l != 0)=true:=by rw[kqt];exact a
 clear a hn;go_enter func158,ntmps158;go_wp2_with fail;refine b.out.mono ?_;rintro e h ⟨rfl,rfl⟩;go_wp2;go_ret2;exact⟨by rw[d.out];rfl,rfl⟩
def CY (a b:Nat):Value:=.agg #[.int .u64 (a:Int),.int .u64 (b:Int)]
def kwV (l:List Nat):Value:=if cR l=0 then CY (jK l) (iH (jK l)) else CY 0 0
def fw (l:List Nat) (k:Nat):Nat:=l.length+ny (l.take k) 4
theorem nl{fn:Func}{p q:Tmp}(h:fn.results=#[.cell p 157,.tmp q])(tmps:Array Value){W:World}{g:Nat}{t:TypeId}{v0 v1 u:Value}(hb:Bx W g t #[v0,v1])(hp:tmps.getD p undef=.pointer (some ⟨g,0,none⟩))(hq:tmps.getD q undef=u):
 (results fn tmps).run prog W=.ok (.tuple #[.agg #[v0,v1],u]) W:=by obtain⟨a,b,-⟩:=hb.c2;rw[kxl] at hp hq;simp[results,h,hp,hq,go_sem,a,b]
theorem fw_lt{l:List Nat}(h:l.length<=8)(hk:fc l=true)(k:Nat):fw l k<4 ^ (4+k):=by
 have h1:=rN (l.take k) 4 (λx a=>((d9 l).1 hk x (kxq a)).2);have h2:4 ^ (4+(l.take k).length)<=4 ^ (4+k):=kjk (by omega) (by rw[kzd];omega);have h4:(4:Nat) ^ 4=256:=by decide
 unfold fw;omega
theorem D4{l:List Nat}{x:Nat}(h:l.length<=8)(hk:fc l=true)(hlt:k<l.length)(hx:l[k]=x):
 bits BinOp.or .u64 (fw l k:Nat) (IntKind.u64.wrap ((x:Int)*2 ^ (8+2*k)))=((fw l (k+1):Nat):Int):=by
 have b:x<=3:=by rw[<-hx];exact ((d9 l).1 hk l[k] (kqs hlt)).2
 have d:=fw_lt h hk k;have a:(2:Nat) ^ (8+2*k)=4 ^ (4+k):=by rw[show 8+2*k=2*(4+k) by omega,Nat.pow_mul]
 have hp:(4:Nat) ^ (4+k)<=4 ^ 11:=kjk (by omega) (by omega);have h11:(4:Nat) ^ 11=4194304:=by decide
 have hb:x*2 ^ (8+2*k)<=3*4194304:=by rw[a];exact kzv (kx2 _ b) (by omega)
 have e:(x:Int)*2 ^ (8+2*k)=((x*2 ^ (8+2*k):Nat):Int):=by simp
 rw[e,kzi _ (by omega),u64_or_nat _ _ (by omega) (by omega),jP (by rw[a];exact d)];have c:fw l (k+1)=fw l k+x*4 ^ (4+k):=by unfold fw;rw[kqq hlt,mp,hx,kzd,kjr (by omega)];simp only[ny];omega
 rw[c,a]
theorem fw_end(l:List Nat):fw l l.length=jK l:=by unfold fw jK;rw[kzj]
theorem tu(A:Option Addr)(l:List Nat)(c n:Nat)(w:World)(hn:l.length=n)(hm:n<=9223372036854775807)(hr:RdY w w.heap.size A l):
 Calls prog 175 #[.slice A n c] w λe w'=>e=.returned (.tuple #[kwV l,.int .i64 (cR l)])/\Below w.heap.size w w':=by
 subst hn;have U:=hid hr;have G:=Bx.new w 157 #[.int .u64 0,.int .u64 0];have I:=hid (s6 A l c l.length w.heap.size (w.alloc (.cells #[.int .u64 0,.int .u64 0] 157)) rfl hm (hr.alloc (kqb _) _));by_cases a:cR l=0
 .have H:=j9 a;obtain⟨t,r⟩:=H;have f:=hid r;have E:=hid (show kwV l=.agg #[.int .u64 (jK l:Nat),.int .u64 (iH (jK l):Nat)] by simp[kwV,a,CY]);have T:=hid a;rw[a] at I;have N:=hid G;clear a r G hr;go_enter func175,ntmps175;go_wp2_with fail;refine I.out.mono ?_;rintro e R ⟨rfl,rfl⟩;go_wp2_with fail
  go_loop [5,21] (λs i=>∃k:Nat,k<=l.length/\i=.int .i64 k/\s=.int .u64 (fw l k:Nat)) (λ_ i=>l.length-(intOf i).toNat)
  case atStart=>exact⟨0,kqx _,rfl,by simp[fw,ny]⟩
  obtain⟨k,hk,rfl,rfl⟩:=hrel;by_cases g:k<l.length
  .obtain ⟨b,P,rfl,S,a⟩:=U.out.at_ g;replace a:=(kq8 w (.cells #[.int .u64 0,.int .u64 0] 157) ⟨b,P+k,none⟩ S).trans a;obtain⟨x,F⟩:=xq (l[k]);have hx3:x<=3:=by rw[<-F];exact ((d9 l).1 f.out l[k] (kqs g)).2
   have m:=hid (D4 t f.out g F);obtain⟨q,B⟩:=xq (fw l k);rw[F] at a;rw[B] at m |-;clear F B;go_wp2_with fail
   go_round
   case rel=>exact⟨k+1,by omega,by go_num,by rw[m.out]⟩
   case measure=>simp[intOf];omega
  obtain rfl:k=l.length:=by omega
  have u:=Ez t f.out;have p:Hid (bt 14695981039346656037 [jK l]=iH (jK l)):=hid rfl;rw[fw_end];obtain⟨q,B⟩:=xq (jK l);rw[B] at u E p |-;have K:(prog.info? 157).map (·.size)=some 2:=by kernel_rfl
  clear B;go_wp2_with fail;have h:=o9 (w.alloc (.cells #[.int .u64 0,.int .u64 0] 157)) [.int .u64 (q:Int)] 53;refine (rQ _ [q] _ 1 _ rfl (by omega) (by simp only[kqn] at h |-;exact h) (by intro y Q;simp at Q;subst Q;omega)).mono ?_;rintro e R ⟨rfl,d⟩;rw[kqn,kqn] at d;have D:=(((kqk _ _).alloc (kqb _) (.cells #[.int .u64 0,.int .u64 0] 157)).alloc (by simp) (.cells #[.int .u64 (q:Int)] 53)).trans (d.mono (by omega));have C:=(N.out.alloc (.cells #[.int .u64 (q:Int)] 53)).up d (by omega);have L:=hid C;have O:=hid D;rw[p.out];obtain⟨z,H⟩:=xq (iH q);rw[H] at E |-;clear H C D d h;go_wp2_with ((with_reducible refine bq 157 (.tmp 2) _ ?_);refine ai rfl _ _ _ rfl w.heap.size 157 #[.int .u64 0,.int .u64 0] #[.int .u64 (q:Int),.int .u64 (z:Int)] (by rfl) (by rfl) L.out rfl K (by simp[Value.oneCell']) ?_;intro w3 j o;have J:=hid j;have M:=hid o;clear j o);exact kqr (v:=.tuple #[.agg #[.int .u64 (q:Int),.int .u64 (z:Int)],.int .i64 0]) (nl results175 _ J.out rfl rfl) rfl ⟨by rw[E.out,T.out],M.out.below O.out (kqb _)⟩
 have E:=hid (show kwV l=.agg #[.int .u64 0,.int .u64 0] by simp[kwV,a,CY]);have hne:(cR l != 0)=true:=by rw[kqt];exact a
 have N:=hid G;clear a G hr;go_enter func175,ntmps175;go_wp2_with fail;refine I.out.mono ?_;rintro e R ⟨rfl,rfl⟩;go_wp2_with fail;exact kqr (v:=.tuple #[.agg #[.int .u64 0,.int .u64 0],.int .i64 (cR l)]) (nl results175 _ N.out rfl rfl) rfl ⟨by rw[E.out],(kqk _ _).alloc (kqb _) _⟩
def bc (a b:Nat):List Nat:=if bE a b=true then cm a else []
def ei (a b:Nat):Int:=if bE a b=true then 0 else 50
def Cw (a b:Nat) (e:Ending) (w':World):Prop:=∃A c,e=.returned (.tuple #[.slice A (bc a b).length c,.int .i64 (ei a b)])/\RdY w' w'.heap.size A (bc a b)/\(bc a b).length<=c
theorem ma(h:bE a b=false):Cw a b (.returned (.tuple #[.slice none 0 0,.int .i64 50])) w':=by
 have c:bc a b=[]:=by simp[bc,h]
 have d:ei a b=50:=by simp[ei,h]
 exact⟨none,0,by rw[c,d];rfl,by rw[c];exact Rd.nil_,by rw[c];simp⟩
theorem xC(h0:bE a b=true)(h:w'.ownsRow H 5 1 v (cm a).length ((cm a).flatMap aZ)):Cw a b (.returned (.tuple #[v,.int .i64 0])) w':=by
 have f:bc a b=cm a:=by simp[bc,h0]
 have j:ei a b=0:=by simp[ei,h0]
 have i:∃A c,v=.slice A (cm a).length c/\(cm a).length<=c:=by
  rcases h.2 with⟨rfl,e⟩|⟨g,cap,cur,rfl,_,_,d,_⟩
  .exact ⟨none,0,by rw[e],by omega⟩
  exact⟨_,_,rfl,d⟩
 obtain⟨A,c,rfl,d⟩:=i;exact⟨A,c,by rw[f,j],by rw[f];exact Rd.of_own h,by rw[f];exact d⟩
theorem jZ(a b:Nat):bE a b=((decide (a%256<=8)&&fc (cm a))&&(jK (cm a)==a&&iH a==b)):=rfl
theorem s7(a k:Nat)(ha:a<18446744073709551616):bits BinOp.and .u64 ((a:Int)/2 ^ (8+2*k)) 3=((a/4 ^ (k+4)%4:Nat):Int):=by
 have c:(2:Nat) ^ (8+2*k)=4 ^ (k+4):=by rw[show 8+2*k=2*(k+4) by omega,Nat.pow_mul]
 have b:(a:Int)/2 ^ (8+2*k)=((a/4 ^ (k+4):Nat):Int):=by rw[<-c];simp
 have h:a/4 ^ (k+4)<18446744073709551616:=kji (kjz _ _) ha;rw[b];exact r8 (k:=2) (m:=3) h (by decide) (by omega)
theorem ov(p q a b:Int)(W:World):(Op.equalIn 10000 157 (.agg #[.int .u64 p,.int .u64 q]) (.agg #[.int .u64 a,.int .u64 b])).run prog W=.ok (p==a&&q==b) W:=by have h:=underlying157;have d:=underlying53;have c:(Op.equalIn 10000 157 (.agg #[.int .u64 p,.int .u64 q]) (.agg #[.int .u64 a,.int .u64 b]))=(Op.equalIn (9999+1) 157 (.agg #[.int .u64 p,.int .u64 q]) (.agg #[.int .u64 a,.int .u64 b])):=rfl;have e:List.range' 0 2=[0,1]:=rfl;have e1:=λ(x y:Int)=>run_equalIn_int W 9998 53 .u64 .u64 x y d;rw[c];unfold Op.equalIn;simp[go_sem,run_underlying h,Sem.run_bind,e,List.forIn_cons];by_cases g:p=a<;>by_cases f:q=b<;>simp[g,f,go_sem]
theorem py(a b:Nat)(w:World)(ha:a<18446744073709551616)(hb:b<18446744073709551616):
 Calls prog 117 #[.int .u64 (a:Int),.int .u64 (b:Int)] w λe w'=>Cw a b e w'/\Below w.heap.size w w':=by
 have F:=hid (jZ a b);have ha0:(0:Int)<=(a:Int):=by omega
 have e1:=(sq a ha).1;have n:=hid (cV a);have I:=hid (λk h=>lQ a k h);have P:=hid (λk=>s7 a k ha);have Y:a%256<256:=kz1 _ (by omega);obtain⟨m,A⟩:=xq (a%256);rw[A] at e1 n I F Y;by_cases h8:8<m
 .have X:=hid (show bE a b=false by rw[F.out,show decide (m<=8)=false by rw[kqc];omega];rfl);clear A ha hb;go_enter func117,ntmps117;go_wp2;go_ret2;exact⟨ma X.out,kqk _ _⟩
 have J:m<=8:=by omega
 rw[show decide (m<=8)=true by rw[kql];exact J] at F;have hx0:(0:Int)<=(m:Int):=by omega
 have HA:=hid ha;have X:=hid hb;have d8:decide ((8:Int)<(m:Int))=false:=by rw[kqc];omega
 clear A ha hb h8 Y;obtain⟨i0,Z,B,E,D⟩:=kze js;have HI:=hid Z;have S:=hid B;have U:=hid E;have R:=hid D;clear Z B E D;go_enter func117,ntmps117;go_wp2_with fail;go_loopw [7,16] (λv i wr=>∃k:Nat,k<=m/\i=.int .u64 k/\wr.ownsRow w.heap.size 5 1 v k (((cm a).take k).flatMap aZ)/\Below w.heap.size w wr) (λ_ i _=>m-(intOf i).toNat)
 case atStart=>exact⟨0,kqx _,rfl,kq1 _ _ _ _,kqk _ _⟩
 obtain⟨k,hk,rfl,c,y⟩:=hrel;have N:=y.size;by_cases G:k<m
 .have T:=P.out k;have M:=I.out k G;obtain⟨x,O⟩:=xq (a/4 ^ (k+4)%4);have hx3:x<4:=by rw[<-O];exact kz1 _ (by omega)
  rw[O] at T M;have K:=hid (show ((cm a).take (k+1)).flatMap aZ=((cm a).take k).flatMap aZ++[.int .u8 (x:Int)] by
   have hl:k<(cm a).length:=by rw[n.out];exact G
   rw[kqq hl,b9];rw[kqm hl] at M;rw[Option.some.inj M];rfl)
  have hxi:(x:Int)<4:=by omega
  have hx00:(0:Int)<=(x:Int):=by omega
  have hki:(k:Int)<(m:Int):=by omega
  clear O M;go_wp2_with (at_builtin;refine kq9 _ rfl _ _ 113 rfl w.heap.size 5 i0 _ 1 1 underlying113 HI.out S.out U.out R.out rfl (by decide) _ _ _ rfl (c.alloc _) ⟨_,0,none⟩ 1 1 [.int .u8 (x:Int)] rfl rfl (bn _ _ _) (by simp[Value.oneCell']) (by unfold maxLen;omega) (by omega) (aH y.size) ?_;intro v1 L j Q _;have f:=am y y.size c Q);go_roundw
  case rel=>exact⟨k+1,by omega,by go_num,by rw[K.out];exact j,f⟩
  case measure=>simp[intOf];omega
 obtain rfl:k=m:=by omega
 rw[kzb (by rw[n.out];exact kqb _)] at c;obtain⟨A1,c1,rfl⟩:=ap c;have z:=hid (tu A1 (cm a) c1 k wr n.out (by omega) (Rd.of_own c));have g:(cm a).length<=8:=by rw[n.out];exact J
 cases l:fc (cm a)
 .have r:=hid (kY g l);have C:=hid (show bE a b=false by rw[F.out,l];rfl);have V:=hid (show kwV (cm a)=.agg #[.int .u64 0,.int .u64 0] by simp[kwV,r.out,CY]);rw[r.out,V.out] at z;clear l g c;go_wp2_with fail;refine z.out.mono ?_;rintro e L ⟨rfl,f⟩;have d:=y.trans (f.mono N);go_wp2;go_ret2;exact⟨ma C.out,d.alloc d.size _⟩
 have r:=hid (iQ g l);have V:=hid (show kwV (cm a)=.agg #[.int .u64 (jK (cm a):Nat),.int .u64 (iH (jK (cm a)):Nat)] by simp[kwV,r.out,CY]);have t:=hid (show bE a b=(jK (cm a)==a&&iH (jK (cm a))==b) by
  rw[F.out,l];by_cases h:jK (cm a)=a
  .rw[h];simp
  rw[show (jK (cm a)==a)=false by rw[kqi];exact h];simp only[kxt,kjl])
 rw[r.out,V.out] at z;obtain⟨p,W⟩:=xq (jK (cm a));obtain⟨q,hq⟩:=xq (iH p);rw[W,hq] at z t;clear l g W hq;by_cases o:p=a
 .by_cases u:q=b
  .have HY:=hid (show bE a b=true by rw[t.out,o,u];simp);have s:=ov p q a b;rw[show ((p:Int)==(a:Int))=true by rw[kqu];omega,show ((q:Int)==(b:Int))=true by rw[kqu];omega,Bool.and_self] at s;clear o u;go_wp2_with fail;refine z.out.mono ?_;rintro e L ⟨rfl,f⟩;have d:=y.trans (f.mono N);have j:=ae c f (kqb _);go_wp2;go_ret2;refine⟨xC HY.out (H:=w.heap.size) ?_,d.alloc d.size _⟩;rw[n.out];exact j.alloc _
  have C:=hid (show bE a b=false by rw[t.out,show (q==b)=false by rw[kqi];exact u,kjl]);have s:=ov p q a b;rw[show ((q:Int)==(b:Int))=false by rw[kqi];omega,kjl] at s;clear o u c;go_wp2_with fail;refine z.out.mono ?_;rintro e L ⟨rfl,f⟩;have d:=y.trans (f.mono N);go_wp2;go_ret2;exact⟨ma C.out,d.alloc d.size _⟩
 have C:=hid (show bE a b=false by rw[t.out,show (p==a)=false by rw[kqi];exact o,kxt]);have s:=ov p q a b;rw[show ((p:Int)==(a:Int))=false by rw[kqi];omega,kxt] at s;clear o c;go_wp2_with fail;refine z.out.mono ?_;rintro e L ⟨rfl,f⟩;have d:=y.trans (f.mono N);go_wp2;go_ret2;exact⟨ma C.out,d.alloc d.size _⟩
def FlRes (a b:Nat) (e:Ending) (w':World):Prop:=∃A c,e=.returned (.tuple #[.slice A (bc a b).length c,.bool (bE a b)])/\RdY w' w'.heap.size A (bc a b)/\(bc a b).length<=c
theorem lU(a b:Nat):(ei a b==0)=bE a b:=by unfold ei;cases bE a b<;>simp
theorem qd(A:Option Addr)(ws:List Nat)(c n t:Nat)(w:World)(hn:ws.length=n)(hm:n<=1000000)(h2:256<=n)(ht:t<8)(hr:RdW w w.heap.size A ws)(ho:∀x∈ws,x<18446744073709551616):
 Calls prog 110 #[.slice A n c,.int .i64 (t:Int)] w λe w'=>FlRes (wd ws (96+2*t)) (wd ws (96+2*t+1)) e w'/\Below w.heap.size w w':=by
 subst hn;have r:=eX ho (96+2*t);have u:=eX ho (96+2*t+1);have j:=hid (λW=>py (wd ws (96+2*t)) (wd ws (96+2*t+1)) W r u);have o:=hid (lU (wd ws (96+2*t)) (wd ws (96+2*t+1)));obtain⟨b,a,rfl,s,q⟩:=RdW.at_ hr (show 96+2*t<ws.length by omega);obtain⟨b',off',z,-,m⟩:=RdW.at_ hr (show 96+2*t+1<ws.length by omega);cases z;rw[<-bI] at q m;obtain⟨x,h⟩:=xq (wd ws (96+2*t));obtain⟨y,i⟩:=xq (wd ws (96+2*t+1));rw[h] at q j o |-;rw[i] at m j o |-;have t0:(0:Int)<=(t:Int):=by omega
 have t8:(t:Int)<8:=by omega
 have w1:IntKind.i64.wrap (2*(t:Int))=2*(t:Int):=kqo _ (by omega);have w2:IntKind.i64.wrap (96+2*(t:Int))=96+2*(t:Int):=kqo _ (by omega);have w3:IntKind.i64.wrap (96+2*(t:Int)+1)=96+2*(t:Int)+1:=kqo _ (by omega);have i1:(0:Int)<=96+2*(t:Int):=by omega
 have i2:(96:Int)+2*(t:Int)<(ws.length:Int):=by omega
 have i3:(0:Int)<=96+2*(t:Int)+1:=by omega
 have i4:(96:Int)+2*(t:Int)+1<(ws.length:Int):=by omega
 have n1:((96:Int)+2*(t:Int)).toNat=96+2*t:=by omega
 have n2:((96:Int)+2*(t:Int)+1).toNat=96+2*t+1:=by omega
 clear hr r u h i ho ht;go_enter func110,ntmps110;go_wp2_with fail
 go_region_held3 (λX:World=>X.cell? ⟨b,a+(96+2*t),none⟩=some (.int .u64 (x:Int))/\X.cell? ⟨b,a+(96+2*t+1),none⟩=some (.int .u64 (y:Int))) (go_keep)
  (first | (go_at_call 117;refine (j.out _).mono ?_;rintro e w5 ⟨⟨B,v,rfl,g,f⟩,d⟩;have m0:=(d.cell (p:=⟨b,a+(96+2*t),none⟩) s).trans q;have m1:=(d.cell (p:=⟨b,a+(96+2*t+1),none⟩) s).trans m;have k:=hid g;have l:=hid f;clear g f))
 go_wp2;go_ret2;exact⟨⟨B,v,by rw[o.out];rfl,k.out,l.out⟩,(kqk _ _).drew.trans d⟩
def MhRes (ws:List Nat) (e:Ending) (w':World):Prop:=∃A c,e=.returned (.tuple #[.slice A (aa ws).length c,.int .i64 (ag ws)])/\RdB w' w'.heap.size A (aa ws)/\(aa ws).length<=c
theorem me(hr:ag ws=r)(h0:r≠0):MhRes ws (.returned (.tuple #[.slice none 0 0,.int .i64 r])) w':=by
 subst hr;have:aa ws=[]:=by simp[aa,h0]
 exact⟨none,0,by rw[this];rfl,by rw[this];exact Rd.nil_,by rw[this];simp⟩
theorem ia(h:ak (ws.length:Int)=true):eB ws.length 128=false:=by have:=(af _).1 h;simp only[eB,kzo,kqc,kqp];omega
theorem tp(h:co ws 128=r)(h0:r≠0):ag ws=r:=by
 subst h;cases a:ak (ws.length:Int) with
 | false=>rw[mw a,fp a]
 | true =>
  cases b:blocks ws 128 with
  | none=>rw[vS a b,eN a (ia a) b]
  | some l=>exact absurd (ci a (ia a) b).1 h0
theorem zh(h:co ws 128=0):ak (ws.length:Int)=true/\blocks ws 128=some (aU ws 128):=by
 cases a:ak (ws.length:Int) with
 | false=>rw[fp a] at h;cases h
 | true =>
  cases b:blocks ws 128 with
  | none=>rw[eN a (ia a) b] at h;cases h
  | some l=>rw[(ci a (ia a) b).2];exact⟨rfl,rfl⟩
theorem sH(hk:k<l.length)(h:(l.take k).all (dA ws)=true)(h1:dA ws l[k]=true):(l.take (k+1)).all (dA ws)=true:=by rw[kqq hk,List.all_append,h];simp[h1]
theorem yY(hk:k<l.length)(h1:dA ws l[k]=false):l.all (dA ws)=false:=by
 cases a:l.all (dA ws) with
 | false=>rfl
 | true=>rw[kzq] at a;rw[a _ (kqs hk)] at h1;cases h1
theorem wQ(h:bE a b=true):(bc a b).length=a%256:=by simp[bc,h,cV]
theorem gI{b:Bk}(hk:b.kind=1):dA ws b=(bE (wd ws (tyA b)) (wd ws (tyA b+1))&&b.size==((aX (bc (wd ws (tyA b)) (wd ws (tyA b+1))).length:Nat):Int)):=by
 unfold dA db;rw[hk];cases a:bE (wd ws (tyA b)) (wd ws (tyA b+1)) with
 | false=>rfl
 | true=>rw[wQ a];rfl
theorem d6{b:Bk}(hk:b.kind≠1):dA ws b=true:=by unfold dA;rw[show (b.kind != 1)=true by rw[kqt];exact hk];rfl
theorem fW{i:Nat}(h:blocks ws i=some l)(h2:i%2=0)(hk:k<l.length)(h1:l[k].kind=1):0<=l[k].typ/\l[k].typ<8:=by obtain⟨a,e,-,-,-,b,-⟩:=bC _ _ h h2 k hk;have h7:=(bj _).1 (fM b);have e1:(bkAt ws a).kind=(ah (wd ws a)).kind:=rfl;have e2:(bkAt ws a).typ=(ah (wd ws a)).typ:=rfl;rw[e] at h1 |-;omega
theorem de(ws:List Nat)(h:ak (ws.length:Int)=true):256<=ws.length/\ws.length<=2048/\ws.length%8=0:=by have:=(af _).1 h;omega
theorem D1(A:Option Addr)(ws:List Nat)(c n:Nat)(w:World)(hn:ws.length=n)(hm:n<=9223372036854775807)(D:RdW w w.heap.size A ws)(ho:∀x∈ws,x<18446744073709551616):
 Calls prog 62 #[.slice A n c] w λe w'=>MhRes ws e w'/\Below w.heap.size w w':=by
 subst hn;have HR:=hid D;have HO:=hid ho;have Ft:=hid (lz A ws c ws.length 128 w rfl hm D ho);clear D ho;cases C:ak (ws.length:Int)
 .have HI:=hid (bJ C);have HE:=hid (mw C);clear C;go_enter func62,ntmps62;go_wp2_with fail;refine (aJ A ws.length c w hm).mono ?_;rintro e Z ⟨rfl,rfl⟩;rw[HI.out];go_wp2;go_ret2;exact⟨me HE.out (by omega),kqk _ _⟩
 have HI:=hid (aW C);obtain⟨Fu,E,Fs⟩:=de ws C;have HS:=hid C;clear C Fs;go_enter func62,ntmps62;go_wp2_with fail;refine (aJ A ws.length c w hm).mono ?_;rintro e Z ⟨rfl,rfl⟩;rw[HI.out];go_wp2_with fail;refine Ft.out.mono ?_;rintro e Z ⟨⟨A1,c1,rfl,H,z⟩,f⟩;have j:=f.size;have U:=gQ ws 128;have a:Hid (co ws 128=0->ak (ws.length:Int)=true/\blocks ws 128=some (aU ws 128)):=hid zh;have B:Hid (∀r,co ws 128=r->r≠0->ag ws=r):=hid (λ_ h h0=>tp h h0);obtain⟨l,hl⟩:=xq (aU ws 128);rw[hl] at H z U a |-;have P:=hid H;have Fr:=hid z;obtain⟨r,D⟩:=xq (co ws 128);have Fq:=hid D;rw[D] at a |-;clear D H z hl;by_cases o:r=0
 .subst o;have I:=hid (a.out rfl).2;clear a B;go_wp2_with fail;go_loopw [26] (λi wr=>∃k:Nat,k<=l.length/\i=.int .i64 k/\Hid ((l.take k).all (dA ws)=true)/\Below Z.heap.size Z wr) (λi _=>l.length-(intOf i).toNat)
  case atStart=>exact⟨0,kqx _,rfl,rfl,kqk _ _⟩
  obtain⟨k,hk,rfl,Q,J⟩:=hrel;have hz:=J.size;by_cases q:k<l.length
  .obtain ⟨b,off,rfl,hbw,q0,q1,q2,q3,q4,q5⟩:=RdB.at_ (P.out.below J) q;have u:=hid (λh=>fW I.out (by omega) q h);have L:=hid (λh=>sH q Q.out h);have K:=hid (λh=>qD HS.out I.out (yY q h));obtain⟨x,hx⟩:=xq (l[k]);rw[hx] at q0 q1 q2 q3 q4 q5 u L K;have p:=hid (λh=>gI (ws:=ws) (b:=x) h);have R:=hid (λh=>d6 (ws:=ws) (b:=x) h);have Y:tyA x=96+2*x.typ.toNat:=rfl;rw[Y] at p;obtain⟨xa,xs,xk,xt,xm,xn⟩:=x;dsimp only at q0 q1 q2 q3 q4 q5 u p;have hlm:(k:Int)<(l.length:Int):=by omega
   clear hx Y;have v:=Bx.new wr 55 #[.int .i64 xa,.int .i64 xs,.int .i64 xk,.int .i64 xt,.bool xm,.int .u64 (xn:Int)];by_cases g:xk=1
   .obtain ⟨t0,t8⟩:=u.out g;obtain⟨t,rfl⟩:=kq2 t0;have y:=hid (p.out g);simp only[kqj] at y;subst g;have HC:=hid (λW (h:RdW W W.heap.size A ws)=>qd A ws c ws.length t W rfl (by omega) Fu (by omega) h HO.out);have hz1w:=j;have Fp:=hid ((((HR.out.up f j).up J hz).alloc (kqb _) (.cells #[.int .i64 xa,.int .i64 xs,.int .i64 1,.int .i64 (t:Int),.bool xm,.int .u64 (xn:Int)] 55)).more (B':=(wr.alloc (.cells #[.int .i64 xa,.int .i64 xs,.int .i64 1,.int .i64 (t:Int),.bool xm,.int .u64 (xn:Int)] 55)).heap.size) (by simp));obtain⟨V,N⟩:=xq (wd ws (96+2*t));obtain⟨fy,O⟩:=xq (wd ws (96+2*t+1));rw[N,O] at HC y;clear v N O p R u;go_wp2_with fail;refine (HC.out _ Fp.out).mono ?_;rintro e w2 ⟨⟨A2,c2,rfl,X,M⟩,s⟩;rw[kqn] at s;have S:=Bx.of_new s;have E:=J.trans ((ao s).mono hz);obtain⟨c0,c1',c2',c3,c4,c5,cf,cz⟩:=S.c6;have F:=hid E;clear X M S s E cf;obtain⟨ok,T⟩:=xq (bE V fy);obtain⟨m,G⟩:=xq ((bc V fy).length);have hm8:m<=255:=by
     rw[<-G];unfold bc;split
     .rw[cV];have:=kz1 V (show 0<256 by omega);omega
     simp
    rw[T,G] at y |-;clear T G;cases ok
    .have HB:=hid (K.out (by rw[y.out];rfl));go_wp2;go_ret2;exact⟨me HB.out (by omega),f.trans (F.out.mono j)⟩
    rw[kzz] at y;have Fo:((aX m:Nat):Int)=((m:Int)+3)/2*2:=by unfold aX;omega
    rw[Fo] at y;by_cases d:xs=((m:Int)+3)/2*2
    .have Eq:(xs != ((m:Int)+3)/2*2)=false:=by rw[kqp];exact d
     have HY:=hid (L.out (by rw[y.out,kqu];exact d));clear d;go_wp2;go_roundw
     case rel=>exact⟨k+1,by omega,by go_num,HY.out,F.out⟩
     case measure=>simp[intOf];omega
    have Eq:(xs != ((m:Int)+3)/2*2)=true:=by rw[kqt];exact d
    have HB:=hid (K.out (by rw[y.out,kqi];exact d));clear d;go_wp2;go_ret2;exact⟨me HB.out (by omega),f.trans (F.out.mono j)⟩
   have hk2:(xk != 1)=true:=by rw[kqt];exact g
   have HY:=hid (L.out (R.out g));clear g v;go_wp2;go_roundw
   case rel=>exact⟨k+1,by omega,by go_num,HY.out,J.alloc hz _⟩
   case measure=>simp[intOf];omega
  have HP:=hid (fT HS.out I.out (by have:=Q.out;rwa [kzb (by omega)] at this));go_wp2;go_ret2;exact⟨⟨A1,c1,by rw[HP.out.1,HP.out.2];rfl,by rw[HP.out.2];exact P.out.up J hz,by rw[HP.out.2];exact Fr.out⟩,f.trans (J.mono j)⟩
 have hn1:(r != 0)=true:=by rw[kqt];exact o
 have HN:=hid (B.out r Fq.out o);have Fv:=hid o;clear o a B;go_wp2;go_ret2;exact⟨me HN.out Fv.out,f⟩
theorem l9(A:Option Addr)(ws:List Nat)(c n:Nat)(w:World)(hn:ws.length=n)(hm:n<=9223372036854775807)(a:RdW w w.heap.size A ws)(ho:∀x∈ws,x<18446744073709551616):
 Calls prog 162 #[.slice A n c] w λe w'=>e=.returned (.int .i64 (ag ws))/\Below w.heap.size w w':=by have d:=hid (D1 A ws c n w hn hm a ho);clear a ho hn;obtain⟨r,a⟩:=xq (ag ws);have f:=hid a;rw[a];clear a;go_enter func162,ntmps162;go_wp2_with fail;refine d.out.mono ?_;rintro e w1 ⟨⟨A1,c1,rfl,-,-⟩,b⟩;go_wp2;go_ret;exact⟨by rw[<-f.out];rfl,b⟩
theorem qs(hk:k<l.length):ed (l.take (k+1))=ed (l.take k)++(if l[k].mark=true then [l[k].at_] else []):=by rw[kqq hk];unfold ed;rw[kxj,kxu];cases h:l[k].mark<;>simp[h]
theorem Bf(l:List Bk):(ed l).length<=l.length:=by unfold ed;rw[kzl];exact kxm _ _
theorem dl(ws:List Nat):(aa ws).length<=1024:=by
 unfold aa;split
 .rename_i h;obtain⟨b,l,a,-⟩:=al h;have hb:=(af _).1 b;have:=(a9 (by omega) _ _ a (by omega) (by omega) (by omega)).1;rw[a];simp only[kq4];omega
 simp
theorem kI{n:Nat}{e:TypeId}{sz:Nat}{xs:List Value}(h:w'.ownsRow H e sz v n xs):∃A c,v=.slice A n c/\n<=c/\Rd w' w'.heap.size A xs:=by
 have b:∃A c,v=.slice A n c/\n<=c:=by
  rcases h.2 with⟨rfl,hnil⟩|⟨g,cap,cur,rfl,_,_,a,_⟩
  .have h0:n=0\/0<n:=by omega
   exact⟨none,0,by
    have:=ap h;obtain⟨A,c,e⟩:=this;injection e with _ e2 _;rw[<-e2],by
    have:=ap h;obtain⟨A,c,e⟩:=this;injection e with _ e2 _;omega⟩
  exact⟨_,_,rfl,a⟩
 obtain⟨A,c,rfl,a⟩:=b;exact⟨A,c,rfl,a,Rd.of_own h⟩
theorem tV(ws:List Nat)(xa xs xk:Int)(t:Nat)(xm:Bool)(xn:Nat):db ws ⟨xa,xs,xk,(t:Int),xm,xn⟩=(bE (wd ws (96+2*t)) (wd ws (96+2*t+1))&&xs==((aX (bc (wd ws (96+2*t)) (wd ws (96+2*t+1))).length:Nat):Int)):=by have h:=gI (ws:=ws) (b:=⟨xa,xs,1,(t:Int),xm,xn⟩) rfl;unfold dA at h;exact h
theorem mz(a b:Nat):cR (bc a b)=0:=by
 unfold bc;split
 .rename_i h;unfold bE at h;simp only[kqw,kzw] at h;exact iQ (by rw[cV];exact h.1.1) h.1.2
 rfl
theorem jA(a b:Nat):(bc a b).length<=8:=(j9 (mz a b)).1
theorem xH(A:Option Addr)(ws:List Nat)(c n t:Nat)(xa xs xk:Int)(xm:Bool)(xn:Nat)(w:World)(hn:ws.length=n)(hm:n<=1000000)(h2:256<=n)(ht:t<8)(B:RdW w w.heap.size A ws)(ho:∀x∈ws,x<18446744073709551616):
 Calls prog 216 #[.slice A n c,.agg #[.int .i64 xa,.int .i64 xs,.int .i64 xk,.int .i64 (t:Int),.bool xm,.int .u64 (xn:Int)]] w λe w'=>e=.returned (.bool (db ws ⟨xa,xs,xk,(t:Int),xm,xn⟩))/\Below w.heap.size w w':=by
 subst hn;have Z:=eX ho (96+2*t);have hy:=eX ho (96+2*t+1);have a:=hid (tV ws xa xs xk t xm xn);have R:=hid (λW=>py (wd ws (96+2*t)) (wd ws (96+2*t+1)) W Z hy);have Q:=hid (lU (wd ws (96+2*t)) (wd ws (96+2*t+1)));have k:=jA (wd ws (96+2*t)) (wd ws (96+2*t+1));have g:=hid (mz (wd ws (96+2*t)) (wd ws (96+2*t+1)));obtain⟨b,d,rfl,hb,u⟩:=RdW.at_ B (show 96+2*t<ws.length by omega);obtain⟨b',off',e',-,o⟩:=RdW.at_ B (show 96+2*t+1<ws.length by omega);cases e';rw[<-bI] at u o;obtain⟨x,K⟩:=xq (wd ws (96+2*t));obtain⟨y,L⟩:=xq (wd ws (96+2*t+1));obtain⟨q,M⟩:∃q,db ws ⟨xa,xs,xk,(t:Int),xm,xn⟩=q:=⟨_,rfl⟩;rw[K] at u R Q a g k;rw[L] at o R Q a g k;rw[M] at a |-;have t0:(0:Int)<=(t:Int):=by omega
 have t8:(t:Int)<8:=by omega
 have w1:IntKind.i64.wrap (2*(t:Int))=2*(t:Int):=kqo _ (by omega);have w2:IntKind.i64.wrap (96+2*(t:Int))=96+2*(t:Int):=kqo _ (by omega);have w3:IntKind.i64.wrap (96+2*(t:Int)+1)=96+2*(t:Int)+1:=kqo _ (by omega);have i1:(0:Int)<=96+2*(t:Int):=by omega
 have i2:(96:Int)+2*(t:Int)<(ws.length:Int):=by omega
 have i3:(0:Int)<=96+2*(t:Int)+1:=by omega
 have i4:(96:Int)+2*(t:Int)+1<(ws.length:Int):=by omega
 have n1:((96:Int)+2*(t:Int)).toNat=96+2*t:=by omega
 have n2:((96:Int)+2*(t:Int)+1).toNat=96+2*t+1:=by omega
 obtain⟨cs,V⟩:∃cs,cs=#[Value.int .i64 xa,.int .i64 xs,.int .i64 xk,.int .i64 (t:Int),.bool xm,.int .u64 (xn:Int)]:=⟨_,rfl⟩;have P:=Bx.new w 55 #[.int .i64 xa,.int .i64 xs,.int .i64 xk,.int .i64 (t:Int),.bool xm,.int .u64 (xn:Int)];have f:=(kqk w.heap.size w).alloc (kqb _) (.cells #[.int .i64 xa,.int .i64 xs,.int .i64 xk,.int .i64 (t:Int),.bool xm,.int .u64 (xn:Int)] 55);replace u:=(f.cell (p:=⟨b,d+(96+2*t),none⟩) hb).trans u;replace o:=(f.cell (p:=⟨b,d+(96+2*t+1),none⟩) hb).trans o;have I:(w.alloc (.cells #[.int .i64 xa,.int .i64 xs,.int .i64 xk,.int .i64 (t:Int),.bool xm,.int .u64 (xn:Int)] 55)).heap.size=w.heap.size+1:=by simp
 clear B Z hy K L ho ht M V;go_enter func216,ntmps216;go_wp2_with fail;obtain⟨l,N⟩:∃l,w.alloc (.cells #[.int .i64 xa,.int .i64 xs,.int .i64 xk,.int .i64 (t:Int),.bool xm,.int .u64 (xn:Int)] 55)=l:=⟨_,rfl⟩;rw[N] at u o P f I |-;clear N;have b3:l.cell? ⟨w.heap.size,3,none⟩=some (.int .i64 (t:Int)):=P.cell 3;have D:b<l.heap.size:=by omega
 have F:w.heap.size<l.heap.size:=by omega
 have BX:=hid P;have E:=hid f;clear P f I
 go_region_held3 (λX:World=>X.cell? ⟨b,d+(96+2*t),none⟩=some (.int .u64 (x:Int))/\X.cell? ⟨b,d+(96+2*t+1),none⟩=some (.int .u64 (y:Int))/\X.cell? ⟨w.heap.size,3,none⟩=some (.int .i64 (t:Int))) (go_keep)
  (first | (go_at_call 117;refine (R.out _).mono ?_;rintro e T ⟨⟨A1,c1,rfl,J,U⟩,j⟩;have m0:=(j.cell (p:=⟨b,d+(96+2*t),none⟩) D).trans u;have m1:=(j.cell (p:=⟨b,d+(96+2*t+1),none⟩) D).trans o;have m2:=(j.cell (p:=⟨w.heap.size,3,none⟩) F).trans b3;have S:=hid J;have v:=hid j;clear J U))
 have s:=r6 A1 (bc x y) c1 (bc x y).length T.heap.size T rfl (by omega) S.out;have G:kSz (bc x y)=aX (bc x y).length:=by simp[kSz,g.out]
 rw[g.out,G] at s;have h:=hid s;have O:aX (bc x y).length<=10:=by unfold aX;omega
 have c1x:T.cell? ⟨w.heap.size,1,none⟩=some (.int .i64 xs):=(v.out.cell (p:=⟨w.heap.size,1,none⟩) F).trans (BX.out.cell 1);obtain⟨m,H⟩:=xq ((bc x y).length);rw[H] at a h k O |-;obtain⟨z,hz⟩:=xq (aX m);rw[hz] at h a O;have i:Hid (ei x y=if bE x y=true then 0 else 50):=hid rfl;obtain⟨r,B⟩:=xq (ei x y);obtain⟨Y,C⟩:=xq (bE x y);rw[B] at i Q |-;rw[C] at i a Q;clear B C s G H hz m0 m1 m2 u o b3;cases Y
 .obtain rfl:r=50:=i.out;go_wp2_with fail;refine h.out.mono ?_;rintro e w6 ⟨rfl,rfl⟩;go_wp2;go_ret;exact⟨by rw[a.out];rfl,E.out.trans ((kqk _ _).drew.trans (v.out.mono (by show _<=l.heap.size;omega)))⟩
 obtain rfl:r=0:=i.out;rw[kzz] at a;go_wp2_with fail;refine h.out.mono ?_;rintro e w6 ⟨rfl,rfl⟩;go_wp2;go_ret;exact⟨by rw[a.out];rfl,E.out.trans ((kqk _ _).drew.trans (v.out.mono (by show _<=l.heap.size;omega)))⟩
theorem bB:(prog.info? 89).map (λi=>(i.zero,i.size,i.bytes))=some (some (.agg #[.int .i64 0,.int .u64 0]),2,16):=by kernel_rfl
def aG (ws:List Nat):List En:=if ag ws=0 then aT (aa ws) 128 else []
theorem fa(h:ag ws=0):co ws 128=0/\aU ws 128=aa ws/\d7 (aa ws) 128=0/\blocks ws 128=some (aa ws):=by obtain⟨c,l,b,h3,a⟩:=al h;obtain⟨d,e⟩:=ci c (ia c) (l:=l) b;have hb:=(af _).1 c;refine⟨d,by rw[e,a],?_,by rw[b,a]⟩;rw[a];exact ja (i:=128) (by omega) b (by omega) (by omega) (by omega) (s:=128) (by omega) (by omega) (by omega)
theorem oH(hk:k<l.length)(s:Int):aT (l.take (k+1)) s=aT (l.take k) s++(if l[k].kind=1/\l[k].next≠br l[k] (aD (l.take k) s) then [⟨l[k].at_+1,br l[k] (aD (l.take k) s)⟩] else []):=by rw[kqq hk,qu];simp[aT]
theorem kP(l:List Bk):∀s,(aT l s).length<=l.length:=by
 induction l with
 | nil=>intro s;exact kqb _
 | cons b l ih =>intro s;have:=ih (eP b s);simp only[aT,kqz,kq3];split<;>simp<;>omega
theorem tF(h:d7 l s=0)(hk:k<l.length):∃a:k<(je l s).length,(je l s)[k]=((br l[k] (aD (l.take k) s):Nat):Int)/\br l[k] (aD (l.take k) s)<=2048:=by
 have d:je l s=aL l s:=by simp[je,h]
 have e:k<(je l s).length:=by rw[d,cN];exact hk
 refine⟨e,?_,?_⟩
 .have:=jX (l:=l) (s:=s) hk;rw[bo l k hk,<-d,kqm e] at this;rw[Option.some.inj this];obtain⟨c,a,b,_⟩:=cZ h;have f:=gA c (kjf hk) a b;unfold br;split<;>omega
 obtain⟨c,a,b,_⟩:=cZ h;have f:=gA c (kjf hk) a b;unfold br;split<;>omega
theorem sX(h:d7 l s=0)(hk:k<l.length):128<=l[k].at_/\l[k].at_<=2048/\2<=l[k].size/\l[k].size<=2048:=by obtain⟨a,_⟩:=cZ h;have:=(eh _).1 (dK (dg a).2 hk).1;rw[bo l k hk] at this;omega
theorem sd(A:Option Addr)(ws:List Nat)(c n:Nat)(w:World)(hn:ws.length=n)(hm:n<=9223372036854775807)(E:RdW w w.heap.size A ws)(ho:∀x∈ws,x<18446744073709551616):
 Calls prog 143 #[.slice A n c] w λe w'=>dx w.heap.size (ag ws) (aG ws) e w'/\Below w.heap.size w w':=by
 have HC:=hid (l9 A ws c n w hn hm E ho);have HF:=hid (λW (h:RdW W W.heap.size A ws)=>lz A ws c n 128 W hn hm h ho);have HR:=hid E;have J:Hid (ag ws=0->co ws 128=0/\aU ws 128=aa ws/\d7 (aa ws) 128=0/\blocks ws 128=some (aa ws)):=hid fa;have V:=dl ws;clear E ho hn;by_cases y:ag ws=0
 .obtain ⟨g1,g2,g3,g4⟩:=J.out y;have S:=hid (show aG ws=aT (aa ws) 128 by simp[aG,y]);have HE:=hid y;rw[y] at HC;unfold pm at HF;rw[g1,g2] at HF;obtain⟨l,hl⟩:=xq (aa ws);rw[hl] at HF V S g3;have C:=hid g3;have B:=hid (λ(A2:Option Addr) (c2:Nat) (W:World) (h:RdB W W.heap.size A2 l)=>sI A2 l c2 l.length 128 W rfl (by omega) h (by omega));unfold xW at B;rw[g3] at B;clear y g1 g2 g3 g4 hl J;obtain⟨i0,hi,P,p,q⟩:=kze bB;have HI:=hid hi;have Fr:=hid P;have Fp:=hid p;have Fs:=hid q;clear hi P p q;go_enter func143,ntmps143;go_wp2_with fail;refine HC.out.mono ?_;rintro e w1 ⟨rfl,j⟩;have p:=j.size;go_wp2_with fail;refine (HF.out _ (HR.out.up j p)).mono ?_;rintro e w2 ⟨⟨A1,c1,rfl,Z,-⟩,H⟩;have T:=j.trans (H.mono p);have q:=T.size;have G:=hid Z;clear Z;go_wp2_with fail;refine (B.out A1 c1 _ G.out).mono ?_;rintro e w3 ⟨⟨A2,c2,rfl,L,-⟩,D⟩;have I:=T.trans (D.mono q);have Fu:=I.size;have M:=hid L;have Y:=hid (G.out.up D D.size);clear L G;obtain⟨pl,o⟩:=xq (je l 128);have HPE:=hid o;rw[o] at M |-;have g:pl.length=l.length:=by rw[<-o];simp[je,C.out,cN]
  have Q:=hid (λk (hk:k<l.length)=>tF C.out hk);rw[o] at Q;have HPL2:=hid g;rw[g];clear o g;go_wp2_with fail;go_loopw [9,30] (λv i wr=>∃k:Nat,k<=l.length/\i=.int .i64 k/\wr.ownsRow w3.heap.size 89 2 v (aT (l.take k) 128).length ((aT (l.take k) 128).flatMap En.cells)/\Below w3.heap.size w3 wr) (λ_ i _=>l.length-(intOf i).toNat)
  case atStart=>exact⟨0,kqx _,rfl,kq1 _ _ _ _,kqk _ _⟩
  obtain⟨k,hk,rfl,a,K⟩:=hrel;have hz:=K.size;by_cases t:k<l.length
  .obtain ⟨b,off,rfl,hbw,q0,q1,q2,q3,q4,q5⟩:=RdB.at_ (Y.out.below K) t;obtain⟨Fq,N,Ft⟩:=Q.out k t;obtain⟨b2,Eq,rfl,hbw2,p0⟩:=RdI.at_ (M.out.below K) Fq;rw[N] at p0;have d:=hid (oH t 128);have F:=kP (l.take k) 128;rw[kzd] at F;have U:=sX C.out t;obtain⟨m,X⟩:=xq (aT (l.take k) 128);rw[X] at a d F;obtain⟨v,hv⟩:=xq (br l[k] (aD (l.take k) 128));rw[hv] at Ft p0 d;obtain⟨x,hx⟩:=xq (l[k]);rw[hx] at q0 q1 q2 q3 q4 q5 d U;obtain⟨xa,xs,xk,xt,xm,R⟩:=x;dsimp only at q0 q1 q2 q3 q4 q5 d U;have hlm:(k:Int)<(l.length:Int):=by omega
   have hml2:m.length<=1024:=by omega
   have O:b2<wr.heap.size:=by omega
   have p0':=(kq8 wr (.cells #[.int .i64 xa,.int .i64 xs,.int .i64 xk,.int .i64 xt,.bool xm,.int .u64 (R:Int)] 55) ⟨b2,Eq+k,none⟩ O).trans p0;have hv2:(v:Int)<=2048:=by omega
   have hv0:(0:Int)<=(v:Int):=by omega
   clear hx X F hv N;by_cases u:xk=1
   .subst u;by_cases s:R=v
    .have Fv:((R:Int) != (v:Int))=false:=by rw[kqp];omega
     have f:=hid (show aT (l.take (k+1)) 128=m by rw[d.out,if_neg (λh=>h.2 s)];simp);clear d s;go_wp2;go_roundw
     case rel=>exact⟨k+1,by omega,by go_num,by rw[f.out];exact a.alloc _,K.alloc hz _⟩
     case measure=>simp[intOf];omega
    have Fv:((R:Int) != (v:Int))=true:=by rw[kqt];omega
    have f:=hid (show aT (l.take (k+1)) 128=m++[⟨xa+1,v⟩] by rw[d.out,if_pos ⟨rfl,s⟩]);clear d s;go_wp2_with (at_builtin;refine kq9 _ rfl _ _ 26 rfl w3.heap.size 89 i0 _ 2 16 underlying26 HI.out Fr.out Fp.out Fs.out rfl (by decide) _ _ _ rfl ((a.alloc _).alloc _) ⟨_,0,none⟩ 1 1 [.int .i64 (xa+1),.int .u64 (v:Int)] rfl rfl (kX _ _ _ (kqn _ _)) (by simp[Value.oneCell']) (by unfold maxLen;omega) (by omega) (by simp;omega) ?_;intro v1 w2 z Fo _;have H:=am (K.alloc hz (.cells #[.int .i64 xa,.int .i64 xs,.int .i64 1,.int .i64 xt,.bool xm,.int .u64 (R:Int)] 55)) (by simp;omega) (a.alloc _) Fo);go_roundw
    case rel=>exact⟨k+1,by omega,by go_num,by rw[f.out,kqz,b9];exact z,H⟩
    case measure=>simp[intOf];omega
   have hk2:(xk==1)=false:=by rw[kqi];exact u
   have f:=hid (show aT (l.take (k+1)) 128=m by rw[d.out,if_neg (λh=>u h.1)];simp);clear d u;go_wp2;go_roundw
   case rel=>exact⟨k+1,by omega,by go_num,by rw[f.out];exact a.alloc _,K.alloc hz _⟩
   case measure=>simp[intOf];omega
  rw[kzb (by omega)] at a;obtain⟨A4,c4,rfl⟩:=ap a;have Fw:=hid (ar a I.size);clear a;go_wp2;go_ret2;exact⟨⟨A4,c4,by rw[S.out,HE.out];rfl,by rw[S.out];exact Fw.out⟩,I.trans (K.mono Fu)⟩
 have Fx:(ag ws != 0)=true:=by rw[kqt];exact y
 have S:=hid (show aG ws=[] by simp[aG,y]);obtain⟨r,E⟩:=xq (ag ws);have HE:=hid E;rw[E] at HC Fx;clear y E J;go_enter func143,ntmps143;go_wp2_with fail;refine HC.out.mono ?_;rintro e w1 ⟨rfl,j⟩;go_wp2;go_ret2;exact⟨bH HE.out S.out,j⟩
end Go.Proofs.YtpcajamacpbjcaaGreat
