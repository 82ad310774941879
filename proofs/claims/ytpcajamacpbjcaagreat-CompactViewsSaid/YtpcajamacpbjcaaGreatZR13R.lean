/- The reference's types, read: what it returns for right types. -/
import Derived.Test.YtpcajamacpbjcaaGreatZKImage
import Derived.Test.YtpcajamacpbjcaaGreatZKHeap
set_option maxHeartbeats 16000000
set_option maxRecDepth 100000
set_option linter.all false
namespace Go.Proofs.YtpcajamacpbjcaaGreat
open Lib (hid)
open Go.RowKit
open Go.Proofs.Tryz
theorem fC{a b:Nat}(h:bE a b=true):a%256<=8/\fc (cm a)=true/\iH a=b/\a/256/4 ^ (a%256)=0:=by
 have c:=h;rw[jZ] at c;simp only[kqw,kzw,kqu] at c;obtain⟨⟨j,d⟩,h4,i⟩:=c;refine⟨j,d,i,?_⟩;have g:=rN (cm a) 4 (λk e=>((d9 _).1 d k e).2);rw[cV] at g;have h7:a=(a%256)+ny (cm a) 4:=by have:jK (cm a)=(cm a).length+ny (cm a) 4:=rfl;rw[cV] at this;omega
 have h8:(4:Nat) ^ (4+a%256)=256*4 ^ (a%256):=by rw[kjx]
 have f:a<256*4 ^ (a%256):=by omega
 rw[kxb];exact Nat.div_eq_of_lt f
theorem rr(a k:Nat):a/256/4 ^ k%4=a/4 ^ (k+4)%4/\a/256/4 ^ k/4=a/256/4 ^ (k+1):=by
 refine⟨?_,?_⟩
 .rw[kxb,show (4:Nat) ^ (k+4)=256*4 ^ k by rw[kjx,kjm]]
 rw[kxb (a/256),kju]
theorem zE(a b:Nat)(w:World)(ha:a<18446744073709551616)(h:bE a b=true):
 Calls prog 287 #[.int .u64 (a:Int)] w λe w'=>(∃A c,e=.returned (.tuple #[.slice A (cm a).length c,.bool true])/\RdY w' w'.heap.size A (cm a))/\Below w.heap.size w w':=by
 obtain⟨R,P,-,O⟩:=fC h;have f:=hid (cV a);have q:=hid (λk h=>lQ a k h);have E:=hid (λk=>rr a k);have Z:=hid P;have y:=hid O;obtain⟨m,B⟩:=xq (a%256);rw[B] at f q y R;have j:(a:Int)%256=(m:Int):=by omega
 have z:=hid j;have w1':IntKind.u64.wrap ((a:Int)/256)=(a:Int)/256:=kzi _ (by omega);have ha0:(0:Int)<=(a:Int):=by omega
 have d8:decide ((a:Int)%256<=8)=true:=by rw[kql];omega
 have W:=hid ha;clear B h P O ha j;obtain⟨V,S,l,o,n⟩:=kze js;have X:=hid S;have J:=hid l;have K:=hid o;have G:=hid n;clear S l o n;go_enter func287,ntmps287;go_wp2_with fail;go_loopw [5,6,7] (λv r i wr=>∃k:Nat,k<=m/\i=.int .u64 k/\r=.int .u64 ((a/256/4 ^ k:Nat):Int)/\wr.ownsRow w.heap.size 5 1 v k (((cm a).take k).flatMap aZ)/\Below w.heap.size w wr) (λ_ _ i _=>m-(intOf i).toNat)
 case atStart=>exact⟨0,kqx _,rfl,by simp,kq1 _ _ _ _,kqk _ _⟩
 obtain⟨k,hk,rfl,rfl,d,t⟩:=hrel;have hz:=t.size;by_cases p:k<m
 .obtain ⟨I,D⟩:=E.out k;have u:=q.out k p;rw[<-I] at u;have s:a/256/4 ^ k<18446744073709551616:=kji (kjz _ _) (kji (kjz _ _) W.out);obtain⟨r,H⟩:=xq (a/256/4 ^ k);rw[H] at I D u s;simp only[H];have L:=hid (show (((a/256/4 ^ (k+1):Nat)):Int)=(r:Int)/4 by rw[<-D];omega);have x:=hid (show ((cm a).take (k+1)).flatMap aZ=((cm a).take k).flatMap aZ++[.int .u8 ((r:Int)%4)] by
   have T:k<(cm a).length:=by rw[f.out];exact p
   rw[kqq T,b9];rw[kqm T] at u;rw[Option.some.inj u];rfl)
  have w2':IntKind.u64.wrap ((r:Int)/4)=(r:Int)/4:=kzi _ (by omega);have hr00:(0:Int)<=(r:Int):=by omega
  have hki:(k:Int)<(a:Int)%256:=by rw[z.out];omega
  have hk8:(k:Int)<8:=by omega
  have hw8:IntKind.u8.wrap ((r:Int)%4)=(r:Int)%4:=IntWalk.u8_in _ (by omega);clear u H I D s;go_wp2_with (at_builtin;refine kq9 _ rfl _ _ 113 rfl w.heap.size 5 V _ 1 1 underlying113 X.out J.out K.out G.out rfl (by decide) _ _ _ rfl (d.alloc _) ⟨_,0,none⟩ 1 1 [.int .u8 ((r:Int)%4)] rfl rfl (bn _ _ _) (by simp[Value.oneCell']) (by unfold maxLen;omega) (by omega) (aH t.size) ?_;intro v1 Y g F _;have M:=am t t.size d F);go_roundw
  case rel=>exact⟨k+1,by omega,by go_num,by rw[L.out],by rw[x.out];exact g,M⟩
  case measure=>simp[intOf];omega
 obtain rfl:k=m:=by omega
 rw[y.out];rw[kzb (by rw[f.out];exact kqb _)] at d;obtain⟨Q,N,rfl⟩:=ap d;have U:=hid (nO Q (cm a) N k wr.heap.size wr f.out R Z.out (Rd.of_own d));have C:=hid (Rd.of_own d);have hkn:decide ((k:Int)<(a:Int)%256)=false:=by rw[kqc,z.out];omega
 clear d;go_wp2_with fail;refine U.out.mono ?_;rintro e Y ⟨rfl,rfl⟩;go_wp2;go_ret2;exact⟨⟨Q,N,by rw[f.out];rfl,C.out⟩,t⟩
theorem zf(a b:Nat)(w:World)(ha:a<18446744073709551616)(h:bE a b=true):
 Calls prog 261 #[.int .u64 (a:Int),.int .u64 (b:Int)] w λe w'=>(∃A c,e=.returned (.tuple #[.slice A (cm a).length c,.int .i64 0])/\RdY w' w'.heap.size A (cm a))/\Below w.heap.size w w':=by
 have p:=hid (zE a b w ha h);have r:=hid (λA W (v:RdW W W.heap.size A [a])=>oO A [a] 1 1 W rfl (by omega) v (λx q=>by rw[kq7] at q;rw[q];exact ha));have t:=(fC h).2.2.1;rw[show bt 14695981039346656037 [a]=b from t] at r;obtain⟨l,s⟩:=xq (cm a);rw[s] at p |-;have hne:((b:Int) != (b:Int))=false:=by simp
 clear h t s ha;go_enter func261,ntmps261;go_wp2_with fail;refine p.out.mono ?_;rintro e z ⟨⟨B,u,rfl,i⟩,f⟩;have k:=f.size;have j:=hid i;have n:=hid f;clear i f;go_wp2_with fail;have o:=Bx.new z 53 #[.int .u64 (a:Int)];refine (r.out _ _ (show Rd _ _ _ _ from Rd.of_bx o o.lt)).mono ?_;rintro e y ⟨rfl,d⟩;have m:=hid ((n.out.alloc k (.cells #[.int .u64 (a:Int)] 53)).trans (d.mono (by simp;omega)));have g:=hid ((j.out.alloc (kqb _) (.cells #[.int .u64 (a:Int)] 53)).up (B':=y.heap.size) (d.mono (by simp)) (by have:=d.size;simp at this;omega));clear o d;go_wp2;go_ret2;exact⟨⟨B,u,rfl,g.out⟩,m.out⟩
theorem mm(A:Option Addr)(ws:List Nat)(c n t:Nat)(w:World)(hn:ws.length=n)(hm:n<=1000000)(h2:256<=n)(ht:t<8)(h:bE (wd ws (96+2*t)) (wd ws (96+2*t+1))=true)(hr:RdW w w.heap.size A ws)(ho:∀x∈ws,x<18446744073709551616):
 Calls prog 279 #[.slice A n c,.int .i64 (t:Int)] w λe w'=>(∃A c,e=.returned (.tuple #[.slice A (cm (wd ws (96+2*t))).length c,.bool true])/\RdI w' w'.heap.size A ((cm (wd ws (96+2*t))).map λx:Nat=>(x:Int)))/\Below w.heap.size w w':=by
 subst hn;have I:=eX ho (96+2*t);have G:=hid (λW=>zf (wd ws (96+2*t)) (wd ws (96+2*t+1)) W I h);obtain⟨b,f,rfl,V,K⟩:=RdW.at_ hr (show 96+2*t<ws.length by omega);obtain⟨b',off',e',-,J⟩:=RdW.at_ hr (show 96+2*t+1<ws.length by omega);cases e';rw[<-bI] at K J;have R:(cm (wd ws (96+2*t))).length<=8:=by rw[cV];exact (fC h).1
 have T:=hid (λx (I:x∈cm (wd ws (96+2*t)))=>((d9 _).1 (fC h).2.1 x I).2);obtain⟨l,Y⟩:=xq (cm (wd ws (96+2*t)));rw[Y] at G R T |-;obtain⟨x,u⟩:=xq (wd ws (96+2*t));obtain⟨y,z⟩:=xq (wd ws (96+2*t+1));rw[u] at K G;rw[z] at J G;have t0:decide ((t:Int)<0)=false:=by rw[kqc];omega
 have t8:decide ((8:Int)<=(t:Int))=false:=by rw[kqc];omega
 have t8n:decide (8<=t)=false:=by rw[kqc];omega
 have w1:IntKind.i64.wrap (2*(t:Int))=2*(t:Int):=kqo _ (by omega);have w2:IntKind.i64.wrap (96+2*(t:Int))=96+2*(t:Int):=kqo _ (by omega);have w3:IntKind.i64.wrap (96+2*(t:Int)+1)=96+2*(t:Int)+1:=kqo _ (by omega);have i1:(0:Int)<=96+2*(t:Int):=by omega
 have i2:(96:Int)+2*(t:Int)<(ws.length:Int):=by omega
 have i3:(0:Int)<=96+2*(t:Int)+1:=by omega
 have i4:(96:Int)+2*(t:Int)+1<(ws.length:Int):=by omega
 have n1:((96:Int)+2*(t:Int)).toNat=96+2*t:=by omega
 have n2:((96:Int)+2*(t:Int)+1).toNat=96+2*t+1:=by omega
 clear hr I u z ho ht h Y h2;obtain⟨i0,S,s,D,r⟩:=kze mO;have HI:=hid S;have N:=hid s;have M:=hid D;have P:=hid r;clear S s D r;go_enter func279,ntmps279;go_wp2_with fail
 go_region_held3 (λX:World=>X.cell? ⟨b,f+(96+2*t),none⟩=some (.int .u64 (x:Int))/\X.cell? ⟨b,f+(96+2*t+1),none⟩=some (.int .u64 (y:Int))) (go_keep)
  (first | (go_at_call 261;refine (G.out _).mono ?_;rintro e H ⟨⟨A1,c1,rfl,E⟩,d⟩;have m0:=(d.cell (p:=⟨b,f+(96+2*t),none⟩) V).trans K;have m1:=(d.cell (p:=⟨b,f+(96+2*t+1),none⟩) V).trans J;have O:=hid E;clear E))
 have C:=hid ((kqk _ _).drew.trans d);clear d m0 m1 K J;go_wp2_with fail;go_loopw [8,9] (λv i wr=>∃k:Nat,k<=l.length/\i=.int .i64 k/\wr.ownsRow H.heap.size 3 1 v k (((l.take k).map λx:Nat=>(x:Int)).flatMap a8)/\Below H.heap.size H wr) (λ_ i _=>l.length-(intOf i).toNat)
 case atStart=>exact⟨0,kqx _,rfl,kq1 _ _ _ _,kqk _ _⟩
 obtain⟨k,hk,rfl,a,m⟩:=hrel;have hz:=m.size;by_cases j:k<l.length
 .obtain ⟨b2,o2,rfl,hb2,r0⟩:=RdY.at_ (Rd.below O.out m) j;have F:=hid (show (((l.take (k+1)).map λx:Nat=>(x:Int)).flatMap a8)=((l.take k).map λx:Nat=>(x:Int)).flatMap a8++[.int .i64 (l[k]:Int)] by rw[kqq j,kxu,kz0];rfl);have o:=T.out _ (kqs j);obtain⟨q,U⟩:=xq (l[k]);rw[U] at r0 F o;have hwq:wrap64 (q:Int)=(q:Int):=IntWalk.wrap64_in _ (by omega);have hlm:(k:Int)<(l.length:Int):=by omega
  have hl0:(0:Int)<=(k:Int):=by omega
  clear U o;go_wp2_with (at_builtin;refine kq9 _ rfl _ _ 42 rfl H.heap.size 3 i0 _ 1 8 underlying42 HI.out N.out M.out P.out rfl (by decide) _ _ _ rfl (a.alloc _) ⟨_,0,none⟩ 1 1 [.int .i64 (q:Int)] rfl rfl (bn _ _ _) (by simp[Value.oneCell']) (by unfold maxLen;omega) (by omega) (aH m.size) ?_;intro v1 w2 g L _;have Q:=am m m.size a L);go_roundw
  case rel=>exact⟨k+1,by omega,by go_num,by rw[F.out];exact g,Q⟩
  case measure=>simp[intOf];omega
 obtain rfl:k=l.length:=by omega
 rw[kzb (kqb _)] at a;obtain⟨A2,Z,rfl⟩:=ap a;have B:=hid (Rd.of_own a);clear a;go_wp2;go_ret2;exact⟨⟨A2,Z,rfl,B.out⟩,C.out.trans (m.mono C.out.size)⟩
end Go.Proofs.YtpcajamacpbjcaaGreat
