/- References: the slots' words that are wanted. -/
import Derived.Test.YtpcajamacpbjcaaGreatZGVb
import Derived.Test.YtpcajamacpbjcaaGreatZGVa
import Derived.Test.YtpcajamacpbjcaaGreatZKFix
import Derived.Test.YtpcajamacpbjcaaGreatZKR19
import Derived.Test.YtpcajamacpbjcaaGreatZKStg2
import Derived.Test.YtpcajamacpbjcaaGreatZKHeap
set_option maxHeartbeats 16000000
set_option maxRecDepth 100000
set_option linter.all false
namespace Go.Proofs.YtpcajamacpbjcaaGreat
open Lib (hid)
open Go.RowKit
variable {a:Int}{o:List En}{l:List Int}{ws:List Nat}{k t:Nat}
open Go.Proofs.Tryz
def MvO (H:Nat) (l:List (Int × Int)) (e:Ending) (w':World):Prop:=∃B d,e=.returned (.tuple #[.slice B l.length d,.int .i64 0])/\w'.ownsRow H 275 2 (.slice B l.length d) l.length (l.flatMap fI)
theorem qN(A:Option Addr)(ws:List Nat)(c n:Nat)(w:World)(hn:ws.length=n)(he:cu ws=0)(hr:RdW w w.heap.size A ws)(ho:∀x∈ws,x<18446744073709551616):
 Calls prog 277 #[.slice A n c] w λe w'=>MvO w.heap.size (cX ws) e w'/\Below w.heap.size w w':=by obtain⟨q,p,o⟩:=cj he;have l:=hid (fo A ws c n w hn q hr ho);have g:=hid (λW (h:RdW W W.heap.size A ws)=>pe A ws c n 128 128 W hn p h ho);rw[<-o] at g;have r:=hid hr;clear hr ho q p o he hn;unfold MvO;go_enter func277,ntmps277;go_wp2_with fail;refine l.out.mono ?_;rintro e s ⟨rfl,a⟩;have f:=hid a;have k:=hid (r.out.up a a.size);clear a;go_wp2_with fail;refine (g.out s k.out).mono ?_;rintro e w2 ⟨⟨B,d,rfl,b⟩,i⟩;have m:=hid (f.out.trans (i.mono f.out.size));have j:=hid (ar b f.out.size);clear i b;go_wp2;go_ret2;exact⟨⟨B,d,rfl,j.out⟩,m.out⟩
def fsP (ws:List Nat) (k:Nat):List En:=(dE ws (cX ws) k).getD []
theorem fs_at(h:dm ws=0)(hk:k<16):
 ((slAt ws k).used=false/\fsP ws (k+1)=fsP ws k)\/((slAt ws k).used=true/\∃t V:Nat,fO (cX ws) (slAt ws k).at_=some (t:Int)/\t<2048/\V=wd ws (112+k)/4294967296*4294967296+t/\V<18446744073709551616/\fsP ws (k+1)=fsP ws k++(if wd ws (112+k)=V then [] else [⟨((112+k:Nat):Int),V⟩])):=by
 have l:cu ws=0:=by
  unfold dm at h;split at h
  .assumption
  exact absurd h (by assumption)
 have b:∀j,j<=16->∃o,dE ws (cX ws) j=some o:=by
  intro j r;cases u:dE ws (cX ws) j with
  | some o=>exact⟨o,rfl⟩
  | none =>
   have f:=oh u r;unfold dm at h;rw[if_pos l] at h;split at h
   .rw[f] at h;simp at h
   simp at h
 obtain⟨o,p⟩:=b k (by omega);obtain⟨o2,m⟩:=b (k+1) (by omega);have c:=m;simp only[dE,p] at c;unfold fsP;rw[p,m];simp only[kq4];cases a:ie ws (cX ws) k with
 | none=>rw[a] at c;cases c
 | some y =>
  rw[a] at c;simp only[kzp,Option.some.injEq] at c;subst c;unfold ie at a;cases i:(slAt ws k).used
  .left;rw[i] at a;simp only[kzn,if_false,Option.some.injEq] at a;subst a;exact⟨rfl,by simp⟩
  right;rw[i] at a;simp only[if_true] at a;have d:(slAt ws k).at_=((wd ws (112+k)%4294967296:Nat):Int):=rfl;have g:(slAt ws k).gen=((wd ws (112+k)/4294967296%2147483648:Nat):Int):=rfl;have hus:wd ws (112+k)/9223372036854775808=1:=by
   have:(wd ws (112+k)/9223372036854775808==1)=true:=i
   simpa using this
  rw[d,kqj] at a;unfold fG at a;split at a
  .cases a
  rename_i t ht;split at ht
  .cases ht
  obtain⟨n,rfl,n1,n2,q,-⟩:=uy l ht;refine⟨rfl,n,wd ws (112+k)/4294967296*4294967296+n,by rw[d];exact ht,q,rfl,by omega,?_⟩;have s:mF ⟨(slAt ws k).gen,true,(n:Int)⟩=wd ws (112+k)/4294967296*4294967296+n:=by unfold mF;rw[g];simp only[kqj,if_true];omega
  rw[s] at a;split at a
  .rename_i e;rw[if_pos e];simp only[Option.some.injEq] at a;rw[a]
  rename_i e;rw[if_neg e];simp only[Option.some.injEq] at a;rw[a]
theorem yX(h:dm ws=0):fsP ws 16=dd ws:=by unfold fsP dd;rw[if_pos h]
theorem yE(ws:List Nat)(k:Nat):(fsP ws k).length<=k:=by
 unfold fsP;cases h:dE ws (cX ws) k with
 | none=>simp
 | some o=>exact nm h
theorem fsv_ok(h:dm ws=0):cu ws=0/\slsOk ws=true:=by
 unfold dm at h;split at h
 .rename_i h1;refine⟨h1,?_⟩;cases a:slsOk ws
  .rw[a] at h;simp at h
  rfl
 exact absurd h (by assumption)
theorem sK(h:cu ws=0):(cX ws).length<=1024:=by obtain⟨h0,f,d⟩:=cj h;obtain⟨l,a,b,-,-,-,-,-,-,-,-,-,-,-,c,e⟩:=sL f;rw[d,e];exact kzv (gp _ _) c.few
theorem or_lo{g:Nat}(hg:g<4294967296)(ht:t<4294967296):bits BinOp.or .u64 ((g:Int)*4294967296) (t:Int)=((g*4294967296+t:Nat):Int):=by
 have h:=u64_or_nat (g*4294967296) t (by omega) (by omega);have e:g*4294967296 ||| t=g*4294967296+t:=by rw[Nat.or_comm,show (4294967296:Nat)=2 ^ 32 by decide,jP (i:=32) (by omega),kxs]
 rw[e] at h;rw[kka] at h;exact h
theorem or_hi{v V:Nat}(hv:v<18446744073709551616)(ht:t<2048)(hV:V=v/4294967296*4294967296+t):bits BinOp.or .u64 ((v:Int)/4294967296*4294967296) (t:Int)=(V:Int):=by have h:=or_lo (g:=v/4294967296) (t:=t) (by omega) (by omega);rw[Int.natCast_ediv] at h;rw[hV];exact h
theorem zz(A:Option Addr)(ws:List Nat)(c n:Nat)(w:World)(hn:ws.length=n)(he:dm ws=0)(hr:RdW w w.heap.size A ws)(ho:∀x∈ws,x<18446744073709551616):
 Calls prog 244 #[.slice A n c] w λe w'=>dx w.heap.size 0 (dd ws) e w'/\Below w.heap.size w w':=by
 obtain⟨hx,Z⟩:=fsv_ok he;obtain⟨h0,-,-⟩:=cj hx;have hb:=de ws (al h0).1;rw[hn] at hb;have K:=hid (qN A ws c n w hn hx hr ho);have H:=hid (λW (h:RdW W W.heap.size A ws)=>li A ws c n W hn (by omega) (by omega) h ho);unfold yr at H;rw[Z] at H;have hml:=sK hx;obtain⟨m,hm⟩:=xq ((cX ws).length);have Gf:=hid (λB d a W (h:RdM W W.heap.size B (cX ws))=>CO B (cX ws) d m a W hm (by omega) h);have Ft:=hid (λk (hk:k<16)=>fs_at he hk);have Fo:=hid (yX he);have Gd:=hid (yE ws);have Gj:Hid (∀k,wd ws k<18446744073709551616):=hid (eX ho);have Fr:Hid (fsP ws 0=[]):=hid (by simp[fsP,dE]);have Fv:Hid (∀W r,r<n->RdW W W.heap.size A ws->∃b z,A=some ⟨b,z,none⟩/\b<W.heap.size/\W.cell? ⟨b,z+r,none⟩=some (.int .u64 (wd ws r:Int))):=hid λW r hr2 h=>by
  obtain⟨b,z,e,Fp,hc⟩:=RdW.at_ h (show r<ws.length by omega);rw[<-bI] at hc;exact⟨b,z,e,Fp,hc⟩
 have HR:=hid hr;clear hr ho h0 hn he hx Z;unfold MvO at K;rw[hm] at K;obtain⟨i0,hi,S,Fq,Q⟩:=kze bB;have HI:=hid hi;have Fx:=hid S;have Fu:=hid Fq;have Ga:=hid Q;clear hi S Fq Q;go_enter func244,ntmps244;go_wp2_with fail;refine K.out.mono ?_;rintro e w1 ⟨⟨BM,dM,rfl,f⟩,C⟩;have X:=hid C;have P:=hid (HR.out.up C C.size);have Fw:=hid (show RdM w1 w1.heap.size BM (cX ws) from Rd.of_own f);clear C f;go_wp2_with fail;refine (H.out w1 P.out).mono ?_;rintro e M ⟨⟨AS,nS,cS,rfl,j⟩,q⟩;obtain⟨rfl,-,j⟩:=j trivial;have L:=hid (X.out.trans (q.mono X.out.size));have Ge:=hid (P.out.up q q.size);have Gh:=hid (Rd.up Fw.out q q.size);have Fs:=hid (show RdS M M.heap.size AS (slL ws) from Rd.of_own j);clear q j;go_wp2_with fail;go_loopw [8,9] (λvo vi wr=>∃k:Nat,k<=16/\vi=.int .i64 k/\wr.ownsRow M.heap.size 89 2 vo (fsP ws k).length ((fsP ws k).flatMap En.cells)/\Below M.heap.size M wr) (λ_ i _=>16-(intOf i).toNat)
 case atStart=>exact⟨0,kqx _,rfl,by rw[Fr.out];exact kq1 _ _ _ _,kqk _ _⟩
 obtain⟨k,hk,rfl,g,G⟩:=hrel;have hz:=G.size;have hkl:=Gd.out k;by_cases J:k<16
 .obtain ⟨b,z,rfl,Fp,q0,Y,q2⟩:=RdS.at_ (Rd.below Fs.out G) (show k<(slL ws).length by rw[el];exact J);rw[lk] at q0 Y q2;have I:=Ft.out k J;obtain⟨bA,oA,hA,Eq,R⟩:=Fv.out wr (112+k) (by omega) (Ge.out.up G hz);subst hA;have U:=Gj.out (112+k);obtain⟨v,hv⟩:=xq (wd ws (112+k));obtain⟨s,hs⟩:=xq (slAt ws k);rw[hv,hs] at I;rw[hv] at R U;rw[hs] at q0 Y q2;obtain⟨sg,su,sa⟩:=s;dsimp only at q0 Y q2 I;have hk0:(0:Int)<=(k:Int):=by omega
  have hk1:(k:Int)<16:=by omega
  have hwa:IntKind.i64.wrap (112+(k:Int))=112+(k:Int):=kqo _ (by omega);have ha0:(0:Int)<=112+(k:Int):=by omega
  have ha1:112+(k:Int)<(n:Int):=by omega
  have htn:(112+(k:Int)).toNat=112+k:=by omega
  have y:=hid g;have T:=hid G;have Gg:=hid (Rd.up Gh.out G hz);clear g G hv hs;rcases I with⟨rfl,o⟩|⟨rfl,t,V,ht,Fz,hV,hV2,o⟩
  .have u:=hid o;clear o;go_wp2;go_roundw
   case rel=>exact⟨k+1,by omega,by go_num,by rw[u.out];exact y.out,T.out⟩
   case measure=>simp[intOf];omega
  have HT:=hid (Gf.out BM dM sa wr Gg.out);rw[ht] at HT;simp only[kq4,kxk] at HT;have hor:=or_hi U Fz hV;by_cases F:v=V
  .rw[if_pos F,kzm] at o;subst F;have u:=hid o;have Fy:((v:Int) != (v:Int))=false:=by rw[kqp]
   clear o ht hV;go_wp2_with fail;refine HT.out.mono ?_;rintro e w5 ⟨rfl,l⟩;have v5:=(l.cell (p:=⟨bA,oA+(112+k),none⟩) Eq).trans R;have E:=hid (T.out.trans (l.mono hz));have D:=hid (ae y.out l (kqb _));clear l R q0 Y q2;go_wp2;go_roundw
   case rel=>exact⟨k+1,by omega,by go_num,by rw[u.out];exact D.out,E.out⟩
   case measure=>simp[intOf];omega
  rw[if_neg F] at o;have Fy:((V:Int) != (v:Int))=true:=by rw[kqt];omega
  have hnn:(V != v)=true:=by rw[kqt];omega
  have u:=hid (show (fsP ws (k+1)).flatMap En.cells=(fsP ws k).flatMap En.cells++[.int .i64 (112+(k:Int)),.int .u64 (V:Int)]/\(fsP ws (k+1)).length=(fsP ws k).length+1 by rw[o,kz0,kqz];exact⟨rfl,rfl⟩);clear o ht hV F;go_wp2_with fail;refine HT.out.mono ?_;rintro e w5 ⟨rfl,l⟩;have v5:=(l.cell (p:=⟨bA,oA+(112+k),none⟩) Eq).trans R;have E:=hid (T.out.trans (l.mono hz));have D:=hid (ae y.out l (kqb _));have Gb:=E.out.size;clear l R q0 Y q2;go_wp2_with (at_builtin;refine kq9 _ rfl _ _ 26 rfl M.heap.size 89 i0 _ 2 16 underlying26 HI.out Fx.out Fu.out Ga.out rfl (by decide) _ _ _ rfl (D.out.alloc _) ⟨_,0,none⟩ 1 1 [.int .i64 (112+(k:Int)),.int .u64 (V:Int)] rfl rfl (bn _ _ _) (by simp[Value.oneCell']) (by unfold maxLen;omega) (by omega) (by simp;omega) ?_;intro v1 w6 f O _;have Gc:=hid (am E.out Gb D.out O);have Gi:=hid f;clear f O);go_roundw
  case rel=>exact⟨k+1,by omega,by go_num,by rw[u.out.1,u.out.2];exact Gi.out,Gc.out⟩
  case measure=>simp[intOf];omega
 have N:k=16:=by omega
 have hE:fsP ws k=dd ws:=by rw[N];exact Fo.out
 rw[hE] at g;obtain⟨Av,dv,rfl⟩:=ap g;have y:=hid g;have T:=hid G;have hkd:decide ((k:Int)<16)=false:=by rw[kqc];omega
 have hkn:decide (k<16)=false:=by rw[kqc];exact J
 clear N hE g G;go_wp2;go_ret2;exact⟨⟨Av,dv,rfl,ar y.out L.out.size⟩,L.out.trans (T.out.mono L.out.size)⟩
theorem Ee{l:List Bk}{b:Bk}(h:jJ l a=some b):∃k,∃c:k<l.length,l[k]=b/\wz l a=(k:Int):=by unfold jJ at h;obtain⟨g,k,c,d,f⟩:=List.find?_eq_some_iff_getElem.1 h;refine⟨k,c,d,?_⟩;unfold wz;rw[kks.2 ⟨c,by rw[d];exact g,λj e=>by have:=f j e;rw[kxo] at this;rw[this];simp⟩]
theorem uW(A:Option Addr)(ws:List Nat)(c n:Nat)(a:Int)(b:Bk)(w:World)(hn:ws.length=n)(h0:ag ws=0)(hb:jJ (aa ws) a=some b)(hr:RdW w w.heap.size A ws)(ho:∀x∈ws,x<18446744073709551616):
 Calls prog 280 #[.slice A n c,.int .i64 a] w λe w'=>e=.returned (.tuple #[qM b,.int .i64 0])/\Below w.heap.size w w':=by
 obtain⟨k,Y,z,u⟩:=Ee hb;have J:=dl ws;obtain⟨m,L⟩:=xq ((aa ws).length);have j:=hid (iz A ws c n (w.alloc (.cells #[.int .i64 0,.int .i64 0,.int .i64 0,.int .i64 0,.bool false,.int .u64 0] 55)) hn h0 ((hr.alloc (kqb _) _).more (by simp)) ho);rw[kqn,L] at j;have g:=hid (λC d W (h:RdB W W.heap.size C (aa ws))=>CM C (aa ws) d m a W L (by omega) h);rw[u] at g;obtain⟨l,B⟩:=xq (aa ws);rw[B] at j g L J;have G:k<l.length:=by rw[<-B];exact Y
 have s:l[k]=b:=by rw[<-z];congr 1<;>exact B.symm
 have hkm:k<m:=by omega
 clear hr ho hb u hn h0 Y z B;have E:=l6;obtain⟨N,xs,P,Q,T,Z⟩:=b;unfold qM;dsimp only;go_enter func280,ntmps280;go_wp2_with fail;refine j.out.mono ?_;rintro e w1 ⟨⟨C,dL,rfl,t,-⟩,i⟩;have o:=ao i;have F:=o.size;have O:=hid (Bx.of_new i);have y:=O.out.lt;have M:=hid o;have r:=hid t;clear t i o;go_wp2_with fail;refine (g.out C dL w1 r.out).mono ?_;rintro e w2 ⟨rfl,f⟩;have hz2:=f.size;have b2:=hid (O.out.up f y);have I:=hid (M.out.trans (f.mono F));obtain⟨bb,off,rfl,hbw,S,q1,U,R,V,X⟩:=RdB.at_ (Rd.below r.out f) G;rw[s] at S q1 U R V X;dsimp only at S q1 U R V X;have hk0:(0:Int)<=(k:Int):=by omega
 have hk1:(k:Int)<(m:Int):=by omega
 have hkd:decide ((k:Int)<0)=false:=by rw[kqc];omega
 have H:=hid b2.out;clear f s;go_wp2_with (first
  | ((with_reducible refine bq 55 (.tmp 4) _ ?_);refine ai rfl _ _ _ rfl w.heap.size 55 #[.int .i64 0,.int .i64 0,.int .i64 0,.int .i64 0,.bool false,.int .u64 0] #[.int .i64 N,.int .i64 xs,.int .i64 P,.int .i64 Q,.bool T,.int .u64 (Z:Int)] (by rfl) (by rfl) H.out rfl E (mW _ _ _ _ _ _) ?_;intro w3 p q;have D:=hid p;have K:=hid q;clear p q))
 exact kqr (v:=.tuple #[.agg #[.int .i64 N,.int .i64 xs,.int .i64 P,.int .i64 Q,.bool T,.int .u64 (Z:Int)],.int .i64 0]) (aS results280 _ D.out rfl rfl) rfl ⟨rfl,K.out.below I.out (kqb _)⟩
theorem E7(h:cG ws a=0):cu ws=0/\∃b,jJ (aa ws) a=some b/\b.mark=true/\∃o,cD ws (cX ws) (cU ws b)=some o/\cr ws a=o:=by
 have c:cu ws=0:=by
  unfold cG at h;split at h
  .assumption
  exact absurd h (by assumption)
 refine⟨c,?_⟩;rw[<-(fa (cj c).1).2.1];cases d:jJ (aU ws 128) a with
 | none=>rw[(pg c d).1] at h;cases h
 | some b =>
  refine⟨b,rfl,?_⟩;cases e:b.mark
  .rw[(pu c d e).1] at h;cases h
  refine⟨rfl,?_⟩;cases f:cD ws (cX ws) (cU ws b) with
  | none=>rw[(tK c d e f).1] at h;cases h
  | some o=>exact⟨o,rfl,(v7 c d e f).2⟩
def obP (ws:List Nat) (l:List Int) (k:Nat):List En:=(cD ws (cX ws) (l.take k)).getD []
theorem ob_at(hx:cu ws=0)(h:cD ws (cX ws) l=some o)(hk:k<l.length){r:Nat}(hr:l[k]=(r:Int)):
 (wd ws r=0/\obP ws l (k+1)=obP ws l k)\/(wd ws r≠0/\wd ws r<=2048/\∃t:Nat,fO (cX ws) (wd ws r:Int)=some (t:Int)/\t<2048/\obP ws l (k+1)=obP ws l k++(if wd ws r=t then [] else [⟨(r:Int),t⟩])):=by
 have b:∀j,∃o,cD ws (cX ws) (l.take j)=some o:=by
  intro j;cases d:cD ws (cX ws) (l.take j) with
  | some o=>exact⟨o,rfl⟩
  | none =>rw[<-kz2 j l,gD,d] at h;cases h
 obtain⟨o1,i⟩:=b k;obtain⟨o2,g⟩:=b (k+1);have a:=jr hk i;rw[g,hr,kqj] at a;unfold obP;rw[i,g];simp only[kq4];unfold fu at a;by_cases e:wd ws r=0
 .left;rw[if_pos e] at a;simp only[kzp,Option.some.injEq,kzm] at a;exact⟨e,a⟩
 right;rw[if_neg e] at a;unfold fG at a;by_cases c:2048<wd ws r
 .rw[if_pos c] at a;cases a
 rw[if_neg c] at a;cases f:fO (cX ws) (wd ws r:Int) with
 | none=>rw[f] at a;cases a
 | some t =>
  rw[f] at a;obtain⟨q,rfl,q1,q2,m,-⟩:=uy hx f;refine⟨e,by omega,q,rfl,m,?_⟩;by_cases d:wd ws r=q
  .rw[if_pos d];simp only[d,if_true,kzp,Option.some.injEq] at a;exact a
  rw[if_neg d];simp only[show ¬ ((wd ws r:Int)=(q:Int)) by omega,if_false,kzp,Option.some.injEq,kqj] at a;exact a
theorem EY(h:cD ws (cX ws) l=some o):obP ws l l.length=o:=by unfold obP;rw[kzj,h];rfl
theorem Es(ws:List Nat)(l:List Int)(k:Nat):(obP ws l k).length<=k:=by
 unfold obP;cases h:cD ws (cX ws) (l.take k) with
 | none=>simp
 | some o=>exact kzv (nt h) (kkm _ _)
theorem so(A:Option Addr)(ws:List Nat)(c n:Nat)(a:Int)(w:World)(hn:ws.length=n)(he:cG ws a=0)(E:RdW w w.heap.size A ws)(ho:∀x∈ws,x<18446744073709551616):
 Calls prog 246 #[.slice A n c,.int .i64 a] w λe w'=>dx w.heap.size 0 (cr ws a) e w'/\Below w.heap.size w w':=by
 obtain⟨hx,b,V,Ga,o,X,O⟩:=E7 he;obtain⟨h0,-,-⟩:=cj hx;have hb:=de ws (al h0).1;rw[hn] at hb;obtain⟨p,rfl,eb,y⟩:=xw h0 (by rw[(fa h0).2.1];exact V);rw[O];have S:=hid (qN A ws c n w hn hx E ho);have Eq:=hid (λW (h:RdW W W.heap.size A ws)=>uW A ws c n (p:Int) b W hn h0 V h ho);have u:=hid (λW (h:RdW W W.heap.size A ws)=>rP (ws:=ws) (a:=p) A c n W hn (by omega) (by omega) h0 y h ho);have Q:Hid (∀k (hk:k<(cU ws (bkAt ws p)).length),∃r:Nat,(cU ws (bkAt ws p))[k]=(r:Int)/\r<n):=hid λk hk=>by
  obtain⟨i,h1,h2⟩:=C1 hk;exact⟨_,h2,by rw[<-hn];exact nh y (kzc.1 h1).1⟩
 rw[<-eb] at u Q;have hml:=sK hx;obtain⟨m,hm⟩:=xq ((cX ws).length);have Gu:=hid (λB d a W (h:RdM W W.heap.size B (cX ws))=>CO B (cX ws) d m a W hm (by omega) h);have Gb:=hid (λk (hk:k<(cU ws b).length) (r:Nat) (E:(cU ws b)[k]=(r:Int))=>ob_at hx X hk E);have N:=hid (EY X);have Fz:=hid (Es ws (cU ws b));have Fp:Hid (obP ws (cU ws b) 0=[]):=hid (by simp[obP,cD]);have Fw:(cU ws b).length<=8:=by rw[eb];exact kzv (kn _ _ _) (rE ws p)
 clear X;generalize cU ws b=R at u Q Gb N Fz Fp Fw;obtain⟨H,Z⟩:=xq R.length;rw[Z] at Fw;have Fs:=hid Z;have Gh:Hid (∀W r,r<n->RdW W W.heap.size A ws->∃b M,A=some ⟨b,M,none⟩/\b<W.heap.size/\W.cell? ⟨b,M+r,none⟩=some (.int .u64 (wd ws r:Int))):=hid λW r hr2 h=>by
  obtain⟨b,M,e,Gt,hc⟩:=RdW.at_ h (show r<ws.length by omega);rw[<-bI] at hc;exact⟨b,M,e,Gt,hc⟩
 have HR:=hid E;clear E ho h0 hn he hx V O y;obtain⟨xa,xs,xk,xt,xm,xn⟩:=b;dsimp only at Ga;subst Ga;unfold qM at Eq u;dsimp only at Eq u;clear eb;unfold MvO at S;rw[hm] at S;rw[Z] at u;obtain⟨i0,hi,Ft,Gc,Fr⟩:=kze bB;have HI:=hid hi;have Gk:=hid Ft;have Ge:=hid Gc;have Gm:=hid Fr;clear hi Ft Gc Fr;go_enter func246,ntmps246;go_wp2_with fail;refine S.out.mono ?_;rintro e w1 ⟨⟨BM,dM,rfl,f⟩,F⟩;have Fx:=hid F;have Gd:=hid (HR.out.up F F.size);have Gi:=hid (show RdM w1 w1.heap.size BM (cX ws) from Rd.of_own f);clear F f;go_wp2_with fail;refine (Eq.out w1 Gd.out).mono ?_;rintro e w2 ⟨rfl,I⟩;have T:=Fx.out.trans (I.mono Fx.out.size);have J:=hid (T.alloc T.size (.cells #[.int .i64 xa,.int .i64 xs,.int .i64 xk,.int .i64 xt,.bool true,.int .u64 (xn:Int)] 55));have Gs:=hid (HR.out.up J.out J.out.size);have Gw:=hid (Rd.more (Rd.alloc (Gi.out.up I I.size) (kqb _) (.cells #[.int .i64 xa,.int .i64 xs,.int .i64 xk,.int .i64 xt,.bool true,.int .u64 (xn:Int)] 55)) (show w2.heap.size<=(w2.alloc (.cells #[.int .i64 xa,.int .i64 xs,.int .i64 xk,.int .i64 xt,.bool true,.int .u64 (xn:Int)] 55)).heap.size by simp));clear I T;go_wp2_with fail;refine (u.out _ Gs.out).mono ?_;rintro e U ⟨⟨A3,c3,rfl,z⟩,D⟩
 have Gr:=hid (show RdI U U.heap.size A3 R from Rd.of_own z);have q:=hid (J.out.trans (D.mono J.out.size));have Gf:=hid (Rd.up Gw.out D D.size);have Gj:=hid (HR.out.up q.out q.out.size);have hz3:=q.out.size;clear z D;go_wp2_with fail;go_loopw [10,11] (λvo vi wr=>∃k:Nat,k<=H/\vi=.int .i64 k/\wr.ownsRow U.heap.size 89 2 vo (obP ws R k).length ((obP ws R k).flatMap En.cells)/\Below U.heap.size U wr) (λ_ i _=>H-(intOf i).toNat)
 case atStart=>exact⟨0,kqx _,rfl,by rw[Fp.out];exact kq1 _ _ _ _,kqk _ _⟩
 obtain⟨k,hk,rfl,g,P⟩:=hrel;have hz:=P.size;have hkl:=Fz.out k;by_cases Fu:k<H
 .have Y:k<R.length:=by rw[Fs.out];exact Fu
  obtain⟨bR,oR,rfl,hbR,q0⟩:=RdI.at_ (show RdI wr U.heap.size A3 R from Rd.below Gr.out P) Y;obtain⟨r,E,Gg⟩:=Q.out k Y;have Fv:=Gb.out k Y r E;rw[E] at q0;obtain⟨bA,oA,hA,hbA,v0⟩:=Gh.out wr r Gg (Gj.out.up P hz);subst hA;obtain⟨v,hv⟩:=xq (wd ws r);rw[hv] at v0 Fv;have hri:(r:Int)<(n:Int):=by omega
  have hr0:(0:Int)<=(r:Int):=by omega
  have hki:(k:Int)<(H:Int):=by omega
  have hk0:(0:Int)<=(k:Int):=by omega
  have Gv:=hid (Rd.up Gf.out P hz);have C:=hid g;have HB:=hid P;clear E hv g P;rcases Fv with⟨rfl,j⟩|⟨Gp,hv2,t,ht,ht2,j⟩
  .have s:=hid j;clear j;go_wp2;go_roundw
   case rel=>exact⟨k+1,by omega,by go_num,by rw[s.out];exact C.out,HB.out⟩
   case measure=>simp[intOf];omega
  have e0:((v:Int)==0)=false:=by rw[kqi];omega
  have e0n:(v==0)=false:=by rw[kqi];exact Gp
  have hvl:decide ((v:Int)<4294967296)=true:=by rw[kzw];omega
  have hvln:decide (v<4294967296)=true:=by rw[kzw];omega
  have hwv:IntKind.i64.wrap (v:Int)=(v:Int):=kqo _ (by omega);have HT:=hid (Gu.out BM dM (v:Int) wr Gv.out);rw[ht] at HT;simp only[kq4,kxk] at HT;by_cases L:v=t
  .rw[if_pos L,kzm] at j;subst L;have s:=hid j;have Gl:((v:Int) != (v:Int))=false:=by rw[kqp]
   clear j ht;go_wp2_with fail;refine HT.out.mono ?_;rintro e w5 ⟨rfl,l⟩;have K:=hid (HB.out.trans (l.mono hz));have G:=hid (ae C.out l (kqb _));clear l v0 q0;go_wp2;go_roundw
   case rel=>exact⟨k+1,by omega,by go_num,by rw[s.out];exact G.out,K.out⟩
   case measure=>simp[intOf];omega
  rw[if_neg L] at j;have Gl:((t:Int) != (v:Int))=true:=by rw[kqt];omega
  have hnn:(t != v)=true:=by rw[kqt];omega
  have s:=hid (show (obP ws R (k+1)).flatMap En.cells=(obP ws R k).flatMap En.cells++[.int .i64 (r:Int),.int .u64 (t:Int)]/\(obP ws R (k+1)).length=(obP ws R k).length+1 by rw[j,kz0,kqz];exact⟨rfl,rfl⟩);clear j ht L;go_wp2_with fail;refine HT.out.mono ?_;rintro e w5 ⟨rfl,l⟩;have Fy:bR<wr.heap.size:=by omega
  have q5:=(l.cell (p:=⟨bR,oR+k,none⟩) Fy).trans q0;have K:=hid (HB.out.trans (l.mono hz));have G:=hid (ae C.out l (kqb _));have Gn:=K.out.size;clear l v0 q0;go_wp2_with (at_builtin;refine kq9 _ rfl _ _ 26 rfl U.heap.size 89 i0 _ 2 16 underlying26 HI.out Gk.out Ge.out Gm.out rfl (by decide) _ _ _ rfl (G.out.alloc _) ⟨_,0,none⟩ 1 1 [.int .i64 (r:Int),.int .u64 (t:Int)] rfl rfl (bn _ _ _) (by simp[Value.oneCell']) (by unfold maxLen;omega) (by omega) (by simp;omega) ?_;intro v1 w6 f Fq _;have Gq:=hid (am K.out Gn G.out Fq);have Gx:=hid f;clear f Fq);go_roundw
  case rel=>exact⟨k+1,by omega,by go_num,by rw[s.out.1,s.out.2];exact Gx.out,Gq.out⟩
  case measure=>simp[intOf];omega
 have Fo:k=H:=by omega
 have hE:obP ws R k=o:=by rw[Fo,<-Fs.out];exact N.out
 rw[hE] at g;obtain⟨Av,dv,rfl⟩:=ap g;have C:=hid g;have HB:=hid P;have hkd:decide ((k:Int)<(H:Int))=false:=by rw[kqc];omega
 have hkn:decide (k<H)=false:=by rw[kqc];exact Fu
 clear Fo hE g P;go_wp2;go_ret2;exact⟨⟨Av,dv,rfl,ar C.out q.out.size⟩,q.out.trans (HB.out.mono q.out.size)⟩
def wnP (ws:List Nat) (k:Nat):List En:=aT ((aa ws).take k) 128
theorem wn_at(h0:ag ws=0)(hk:k<(aa ws).length):∃a V:Nat,(aa ws)[k].at_=(a:Int)/\a+1<ws.length/\(aa ws)[k].next=wd ws (a+1)/\V<=2048/\(aL (aa ws) 128)[k]? = some (V:Int)/\wnP ws (k+1)=wnP ws k++(if (aa ws)[k].kind=1/\wd ws (a+1)≠V then [⟨(a:Int)+1,V⟩] else []):=by
 obtain⟨-,-,d,h⟩:=fa h0;obtain⟨f,e,g,hs3⟩:=cZ d;obtain⟨a,b,h2,h3,h4,l,-⟩:=bC _ _ h (by omega) k hk;have c:=ax l;have he:=gA f (k:=k) (by omega) e g;have i:=jX (s:=128) hk;have j:=oH hk 128;rw[bo _ _ hk] at i;refine⟨a,br (aa ws)[k] (aD ((aa ws).take k) 128),by rw[b];rfl,by unfold szAt at c;omega,by rw[b];rfl,by unfold br;split<;>omega,?_,?_⟩
 .rw[i];unfold br;split<;>simp<;>omega
 unfold wnP;rw[j,show (aa ws)[k].next=wd ws (a+1) by rw[b];rfl,show (aa ws)[k].at_=(a:Int) by rw[b];rfl]
theorem DL(h0:ag ws=0):wnP ws (aa ws).length=aG ws:=by unfold wnP aG;rw[if_pos h0,kzj]
theorem D2(ws:List Nat)(k:Nat):(wnP ws k).length<=k:=kzv (kP _ _) (kkm _ _)
theorem vP(A:Option Addr)(ws:List Nat)(c n:Nat)(w:World)(hn:ws.length=n)(h0:ag ws=0)(hr:RdW w w.heap.size A ws)(ho:∀x∈ws,x<18446744073709551616):
 Calls prog 192 #[.slice A n c] w λe w'=>dx w.heap.size 0 (aG ws) e w'/\Below w.heap.size w w':=by
 have hb:=de ws (al h0).1;rw[hn] at hb;obtain⟨-,-,Gb,-⟩:=fa h0;obtain⟨Ga,Eq,Fy,Gk⟩:=cZ Gb;have Gt:=hid (fo A ws c n w hn h0 hr ho);have Fw:=hid (λW (h:RdW W W.heap.size A ws)=>iz A ws c n W hn h0 h ho);obtain⟨m,hm⟩:=xq ((aa ws).length);have hml:m<=1024:=by rw[<-hm];exact dl ws
 have Gi:=hid (λLB d W (h:RdB W W.heap.size LB (aa ws))=>wD LB (aa ws) d m 128 W hm (by omega) (λk hk=>by have:=gA Ga hk Eq Fy;omega) h);have Gm:=hid (λk (hk:k<(aa ws).length)=>wn_at h0 hk);have Fx:=hid (DL h0);have Gw:=hid (D2 ws);have Gf:Hid (wnP ws 0=[]):=hid (by simp[wnP,aT]);have Gl:Hid (∀W r,r<n->RdW W W.heap.size A ws->∃b f,A=some ⟨b,f,none⟩/\b<W.heap.size/\W.cell? ⟨b,f+r,none⟩=some (.int .u64 (wd ws r:Int))):=hid λW r hr2 h=>by
  obtain⟨b,f,e,E,hc⟩:=RdW.at_ h (show r<ws.length by omega);rw[<-bI] at hc;exact⟨b,f,e,E,hc⟩
 rw[hm] at Fw;have Fs:=hid hm;have Jb:=hid hn;have HR:=hid hr;clear hr ho h0 hm hn Gb Ga Eq Fy Gk;obtain⟨i0,hi,Fp,Fz,L⟩:=kze bB;have HI:=hid hi;have Gn:=hid Fp;have Gj:=hid Fz;have Gs:=hid L;clear hi Fp Fz L;go_enter func192,ntmps192;go_wp2_with fail;refine Gt.out.mono ?_;rintro e w1 ⟨rfl,z⟩;have Fr:=hid z;have T:=hid (HR.out.up z z.size);clear z;go_wp2_with fail;refine (Fw.out w1 T.out).mono ?_;rintro e w2 ⟨⟨LB,dL,rfl,Z,-⟩,B⟩;have Fv:=hid (Fr.out.trans (B.mono Fr.out.size));have Gy:=hid (T.out.up B B.size);have U:=hid Z;clear B Z;go_wp2_with fail;refine (Gi.out LB dL w2 U.out).mono ?_;rintro e I ⟨⟨BP,dP,rfl,y⟩,t⟩;have M:=hid (Fv.out.trans (t.mono Fv.out.size));have Gx:=hid (Gy.out.up t t.size);have Ja:=hid (U.out.up t t.size);have Gr:=hid (show RdI I I.heap.size BP (aL (aa ws) 128) from Rd.of_own y);clear t y;go_wp2_with fail;go_loopw [9,10] (λvo vi wr=>∃k:Nat,k<=m/\vi=.int .i64 k/\wr.ownsRow I.heap.size 89 2 vo (wnP ws k).length ((wnP ws k).flatMap En.cells)/\Below I.heap.size I wr) (λ_ i _=>m-(intOf i).toNat)
 case atStart=>exact⟨0,kqx _,rfl,by rw[Gf.out];exact kq1 _ _ _ _,kqk _ _⟩
 obtain⟨k,hk,rfl,l,J⟩:=hrel;have hz:=J.size;have hkl:=Gw.out k;by_cases Fq:k<m
 .have Gc:k<(aa ws).length:=by rw[Fs.out];exact Fq
  obtain⟨b,f,rfl,E,q0,q1,q2,q3,q4,q5⟩:=RdB.at_ (Rd.below Ja.out J) Gc;obtain⟨a,V,e1,e2,e3,e4,e5,j⟩:=Gm.out k Gc;rw[Jb.out] at e2;rw[e1] at q0;obtain⟨bA,oA,hA,hbA,v0⟩:=Gl.out wr (a+1) e2 (Gx.out.up J hz);subst hA;obtain⟨Fo,ekp⟩:=kzc.1 e5;obtain⟨H,P,Gg,Fu,p0⟩:=RdI.at_ (show RdI wr I.heap.size BP (aL (aa ws) 128) from Rd.below Gr.out J) Fo;subst Gg;rw[ekp] at p0;obtain⟨v,hv⟩:=xq (wd ws (a+1));obtain⟨K,F⟩:=xq ((aa ws)[k].kind);rw[hv,F] at j;rw[hv] at v0;rw[F] at q2;have hk0:(0:Int)<=(k:Int):=by omega
  have hk1:(k:Int)<(m:Int):=by omega
  have hwa:IntKind.i64.wrap ((a:Int)+1)=(a:Int)+1:=kqo _ (by omega);have hwu:IntKind.u64.wrap (V:Int)=(V:Int):=kzi _ (by omega);have ha0:(0:Int)<=(a:Int)+1:=by omega
  have ha1:(a:Int)+1<(n:Int):=by omega
  have htn:((a:Int)+1).toNat=a+1:=by omega
  have hbW:b<wr.heap.size:=by omega
  have hbPW:H<wr.heap.size:=by omega
  have o:=hid l;have O:=hid J;clear l J hv F e1 e3 e5 ekp Fo q1 q3 q4 q5;by_cases D:K=1
  .subst D;by_cases G:v=V
   .subst G;rw[if_neg (by simp),kzm] at j;have u:=hid j;have Gp:((v:Int) != (v:Int))=false:=by rw[kqp]
    clear j;go_wp2_with fail;go_quiet (fail);go_wp2;go_roundw
    case rel=>exact⟨k+1,by omega,by go_num,by rw[u.out];exact⟨o.out.1,o.out.2⟩,az O.out nq⟩
    case measure=>simp[intOf];omega
   rw[if_pos ⟨rfl,G⟩] at j;have u:=hid (show (wnP ws (k+1)).flatMap En.cells=(wnP ws k).flatMap En.cells++[.int .i64 ((a:Int)+1),.int .u64 (V:Int)]/\(wnP ws (k+1)).length=(wnP ws k).length+1 by rw[j,kz0,kqz];exact⟨rfl,rfl⟩);have Gp:((v:Int) != (V:Int))=true:=by rw[kqt];omega
   have hnn:(v != V)=true:=by rw[kqt];exact G
   have Gv:=hid (And.intro q0 p0);clear j G;go_wp2_with fail;go_quiet (fail);go_wp2_with fail;obtain⟨Av,cv,rfl⟩:=ap o.out;have L:=O.out.size;have q:=hid (az O.out nq).drew;have N:=hid (show (wr.drewN nq).drew.ownsRow I.heap.size 89 2 (.slice Av (wnP ws k).length cv) (wnP ws k).length ((wnP ws k).flatMap En.cells) from ⟨o.out.1,o.out.2⟩);refine kz9 (S:=λX:World=>X.cell? ⟨b,f+k*6,none⟩=some (.int .i64 (a:Int))/\X.cell? ⟨H,P+k,none⟩=some (.int .i64 (V:Int))) (by kernel_rfl) Gv.out (λg=>?_);show wpAnyH _ _ _ _ _ 16 #[false,false,false,false,false,false,false,false,false,false,false,false,false,false,false,false] _ _;refine tj 0 (.slice Av (wnP ws k).length cv) ?_;dsimp only[Act.put,kqh,kqe,kqd,kqa,kqg,kqf];refine tj 1 (.slice (some ⟨b,f,none⟩) m dL) ?_;dsimp only[Act.put,kqh,kqe,kqd,kqa,kqg,kqf];refine tj 2 (.int .i64 (k:Int)) ?_;dsimp only[Act.put,kqh,kqe,kqd,kqa,kqg,kqf];refine tj 3 (.pointer (some ⟨b,f+k*6,none⟩)) ?_;dsimp only[Act.put,kqh,kqe,kqd,kqa,kqg,kqf];refine tj 4 (.pointer (some ⟨b,f+k*6,none⟩)) ?_;dsimp only[Act.put,kqh,kqe,kqd,kqa,kqg,kqf];refine tj 5 (.int .i64 (a:Int)) ?_;dsimp only[Act.put,kqh,kqe,kqd,kqa,kqg,kqf];refine tj 6 (.int .i64 ((a:Int)+1)) ?_;dsimp only[Act.put,kqh,kqe,kqd,kqa,kqg,kqf];refine tj 7 (.slice (some ⟨H,P,none⟩) m dP) ?_;dsimp only[Act.put,kqh,kqe,kqd,kqa,kqg,kqf];refine tj 8 (.int .i64 (k:Int)) ?_
   dsimp only[Act.put,kqh,kqe,kqd,kqa,kqg,kqf];refine tj 9 (.pointer (some ⟨H,P+k,none⟩)) ?_;dsimp only[Act.put,kqh,kqe,kqd,kqa,kqg,kqf];refine tj 10 (.int .i64 (V:Int)) ?_;dsimp only[Act.put,kqh,kqe,kqd,kqa,kqg,kqf];refine tj 11 (.int .u64 (V:Int)) ?_;dsimp only[Act.put,kqh,kqe,kqd,kqa,kqg,kqf];refine tj 12 (.agg #[.int .i64 ((a:Int)+1),.int .u64 (V:Int)]) ?_;dsimp only[Act.put,kqh,kqe,kqd,kqa,kqg,kqf];obtain⟨W,hW⟩:=xq ((wr.drewN nq).drew);rw[hW] at q N g |-;have Gq:=q.out.size;have Ft:b<W.heap.size:=by omega
   have Ge:H<W.heap.size:=by omega
   clear hW;refine kz4 (rs:=[13]) (by kernel_rfl) (by simp) ?_;refine AllReadyH.cons rfl (λK F=>?_) AllReadyH.nil;go_simp;refine F.out _ _ ⟨(kq8 W _ ⟨b,f+k*6,none⟩ Ft).trans g.1,(kq8 W _ ⟨H,P+k,none⟩ Ge).trans g.2⟩ (λGu=>?_);clear F K;refine kz4 (rs:=[14]) (by kernel_rfl) (by simp) ?_;refine AllReadyH.cons rfl (λK F=>?_) AllReadyH.nil;refine fA _ _ _ 26 (by rfl) I.heap.size 89 i0 _ 2 16 underlying26 HI.out Gn.out Gj.out Gs.out rfl (by decide) (.slice Av (wnP ws k).length cv) (wnP ws k).length ((wnP ws k).flatMap En.cells) (by rfl) (N.out.alloc _) (W.alloc (.cells #[.int .i64 ((a:Int)+1),.int .u64 (V:Int)] 89)).heap.size (some ⟨W.heap.size,0,none⟩) 1 1 [.int .i64 ((a:Int)+1),.int .u64 (V:Int)] (by rfl) (by rfl) (Rd.of_own (bh (n:=1) (sz:=2) W 89 #[.int .i64 ((a:Int)+1),.int .u64 (V:Int)] (kqb _) (by rfl) (by unfold maxLen;omega))) (by simp[Value.oneCell']) (by unfold maxLen;omega) (by omega) (by rw[kqn];omega) ?_;intro v1 w8 s R;have C:=aM (q.out.alloc Gq _) (by rw[kqn];omega) (N.out.alloc _) R;have Y:=hid (And.intro ((C.cell (p:=⟨b,f+k*6,none⟩) E)) ((C.cell (p:=⟨H,P+k,none⟩) Fu)));have Gd:=hid (And.intro ((q.out.cell (p:=⟨b,f+k*6,none⟩) E)) ((q.out.cell (p:=⟨H,P+k,none⟩) Fu)))
   refine F.out _ _ ⟨Y.out.1.trans (Gd.out.1.symm.trans g.1),Y.out.2.trans (Gd.out.2.symm.trans g.2)⟩ (λHS4=>?_);have Gz:=hid C;rw[<-u.out.1,<-u.out.2] at s;have Gh:=hid s;clear F K Gu C s R;simp only[Act.put,kqa,kqg,kqf];refine tj 15 (v1) ?_;dsimp only[Act.put,kqh,kqe,kqd,kqa,kqg,kqf];refine kjd (by kernel_rfl) ?_ _;go_simp;go_wp2;go_roundw
   case rel=>exact⟨k+1,by omega,by go_num,Gh.out,Gz.out⟩
   case measure=>simp[intOf];omega
  rw[if_neg (λh=>D h.1),kzm] at j;have u:=hid j;have hk2:(K==1)=false:=by rw[kqi];exact D
  clear j D;go_wp2_with fail;go_quiet (fail);go_wp2;go_roundw
  case rel=>exact⟨k+1,by omega,by go_num,by rw[u.out];exact⟨o.out.1,o.out.2⟩,az O.out nq⟩
  case measure=>simp[intOf];omega
 have Q:k=m:=by omega
 have hE:wnP ws k=aG ws:=by rw[Q,<-Fs.out];exact Fx.out
 rw[hE] at l;obtain⟨Av,dv,rfl⟩:=ap l;have o:=hid l;have O:=hid J;have hkd:decide ((k:Int)<(m:Int))=false:=by rw[kqc];omega
 have hkn:decide (k<m)=false:=by rw[kqc];exact Fq
 clear Q hE l J;go_wp2;go_ret2;exact⟨⟨Av,dv,rfl,ar o.out M.out.size⟩,M.out.trans (O.out.mono M.out.size)⟩
end Go.Proofs.YtpcajamacpbjcaaGreat
