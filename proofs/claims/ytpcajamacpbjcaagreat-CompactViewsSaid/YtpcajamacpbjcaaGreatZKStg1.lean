/- Texts laid together: SldM SldU CurP StgP RmkP MkPP SlP WnB StgQ StgD StgS. -/
import Derived.Test.YtpcajamacpbjcaaGreatZKMove
import Derived.WalkSpells
import Derived.Test.YtpcajamacpbjcaaGreatZKCursor
import Derived.Test.YtpcajamacpbjcaaGreatZKWnt
import Derived.Test.YtpcajamacpbjcaaGreatZKFix
import Derived.Test.YtpcajamacpbjcaaGreatZKHeap
set_option maxHeartbeats 16000000
set_option maxRecDepth 100000
set_option linter.all false
namespace Go.Proofs.YtpcajamacpbjcaaGreat
open Lib (hid)
open Go.RowKit
variable {b:Bk}{f t:Int}{E l:List En}{ws x xs:List Nat}{a i j m n p u v:Nat}
open Go.Proofs.Tryz
def gm (ws:List Nat) (a u n i:Nat):List En:=(List.range n).map λj=>if j<i then ⟨((u+j:Nat):Int),wd ws (a+j)⟩ else ⟨0,0⟩
def iG (ws:List Nat) (a u:Nat):List En:=(List.range (szAt ws a)).map λj=>⟨((u+j:Nat):Int),if j=0 then cC { ah (wd ws a) with mark:=false } else if j=1 then 0 else wd ws (a+j)⟩
def jH (ws:List Nat) (f t:Int):List En:=if eW ws f t=0 then iG ws f.toNat t.toNat else []
theorem pC{r:Int}(hr:eW ws f t=r)(h0:r≠0):jH ws f t=[]:=by subst hr;simp[jH,h0]
theorem fq(ws:List Nat)(a u n i:Nat):(gm ws a u n i).length=n:=by simp[gm]
theorem hU(ws:List Nat)(a u n i j:Nat)(hj:j<n):(gm ws a u n i)[j]? = some (if j<i then ⟨((u+j:Nat):Int),wd ws (a+j)⟩ else ⟨0,0⟩):=by simp[gm,hj]
theorem uC(ws:List Nat)(a u n i:Nat)(hi:i<n):gm ws a u n (i+1)=(gm ws a u n i).set i ⟨((u+i:Nat):Int),wd ws (a+i)⟩:=by
 apply kx9;intro j;rw[kxe];by_cases b:j<n
 .rw[hU _ _ _ _ _ _ b,hU _ _ _ _ _ _ b];by_cases e:i=j
  .subst e;rw[if_pos (show i<i+1 by omega),if_pos rfl,if_pos (show i<(gm ws a u n i).length by rw[fq];exact hi)]
  rw[if_neg e];by_cases h:j<i
  .rw[if_pos h,if_pos (by omega)]
  rw[if_neg h,if_neg (by omega)]
 rw[kzg (by rw[fq];omega),if_neg (by omega),kzg (by rw[fq];omega)]
theorem en_set(l:List En)(k:Nat)(x:En):(l.set k x).flatMap En.cells=((l.flatMap En.cells).set (k*2) (.int .i64 x.a)).set (k*2+1) (.int .u64 (x.v:Int)):=by
 have d:=fi En.cells 2 En.len l k 0 (by omega) ⟨x.a,(l[k]?.getD default).v⟩ (.int .i64 x.a) (λy b=>by rw[b];rfl);have c:=fi En.cells 2 En.len (l.set k ⟨x.a,(l[k]?.getD default).v⟩) k 1 (by omega) x (.int .u64 (x.v:Int)) (λy b=>by
  rw[kxe] at b;simp only[if_true] at b;split at b
  .cases b;rfl
  cases b)
 rw[List.set_set] at c;rw[c,d];rfl
theorem yq(l:List En)(k:Nat)(x:En)(v:Nat)(hk:l[k]? = some x):(l.set k ⟨x.a,v⟩).flatMap En.cells=(l.flatMap En.cells).set (k*2+1) (.int .u64 (v:Int)):=
 fi En.cells 2 En.len l k 1 (by omega) ⟨x.a,v⟩ (.int .u64 (v:Int)) (λy b=>by rw[hk] at b;cases b;rfl)
theorem Dt(hn:szAt ws a=n)(h2:2<=n):iG ws a u=((gm ws a u n n).set 0 ⟨(u:Int),cC { ah (wd ws a) with mark:=false }⟩).set 1 ⟨((u+1:Nat):Int),0⟩:=by
 apply kx9;intro j;rw[kxe,kxe];unfold iG;rw[hn];by_cases b:j<n
 .rw[hU _ _ _ _ _ _ b,if_pos b];simp only[kxd,kva b,kzp,kza,fq];by_cases c:j=0
  .subst c;simp[b]
  by_cases d:j=1
  .subst d;simp[b]
  rw[if_neg c,if_neg d,if_neg (λh=>d h.symm),if_neg (λh=>c h.symm)]
 rw[if_neg (by omega),if_neg (by omega),kzg (by simp;omega),kzg (by rw[fq];omega)]
theorem Ey(n:Nat):(madeCells #[Value.int .i64 0,.int .u64 0] (n*2)).toList=(List.replicate n (⟨0,0⟩:En)).flatMap En.cells:=by
 apply kx9;intro j;by_cases b:j<n*2
 .have c:j/2<(List.replicate n (⟨0,0⟩:En)).length:=by rw[kxx];omega
  have a:=iq En.cells 2 En.len (List.replicate n ⟨0,0⟩) (j/2) (j%2) c (by omega);rw[show j/2*2+j%2=j by omega,List.getElem_replicate] at a;rw[a];have d:(madeCells #[Value.int .i64 0,.int .u64 0] (n*2)).toList[j]? = some (#[Value.int .i64 0,.int .u64 0][j%2]!):=by simp[madeCells,b]
  rw[d];rcases (show j%2=0\/j%2=1 by omega) with h|h<;>rw[h]<;>rfl
 rw[kzg (by rw[kvb,size_madeCells];omega),kzg (by rw[bY En.cells 2 En.len,kxx];omega)]
theorem uJ(ws:List Nat)(a u n:Nat):gm ws a u n 0=List.replicate n ⟨0,0⟩:=by
 apply kx9;intro j;by_cases b:j<n
 .rw[hU _ _ _ _ _ _ b];simp[b]
 rw[kzg (by rw[fq];omega),kzg (by simp;omega)]
theorem rl(h:bi ws f t=0){l:List Bk}(hl:blocks ws f.toNat=some l)(a:l=[]\/(gk l 0).mark=false):eW ws f t=6:=by
 unfold eW;rw[if_pos h,hl];cases l with
 | nil=>rfl
 | cons b l =>
  rcases a with a|a
  .cases a
  rw[nu] at a;simp[a]
theorem uE(h:bi ws f t=0){l:List Bk}(hl:blocks ws f.toNat=some l)(h0:0<l.length)(h2:(gk l 0).mark=true):eW ws f t=0:=by
 unfold eW;rw[if_pos h,hl];cases l with
 | nil=>simp at h0
 | cons b l=>rw[nu] at h2;simp[h2]
theorem BG(A:Option Addr)(ws:List Nat)(c n:Nat)(f t:Int)(w:World)(hn:ws.length=n)(hm:n<=9223372036854775807)(hf : -9223372036854775808<=f/\f<=9223372036854775807)(ht : -9223372036854775808<=t/\t<=9223372036854775807)(hr:RdW w w.heap.size A ws)(ho:∀x∈ws,x<18446744073709551616):
 Calls prog 146 #[.slice A n c,.int .i64 f,.int .i64 t] w λe w'=>dx w.heap.size (eW ws f t) (jH ws f t) e w'/\Below w.heap.size w w':=by
 subst hn;have HR:=hid hr;have HO:=hid ho;have V:=hid (ph A ws c ws.length f t w rfl hm hf ht hr ho);unfold vX at V;have v:=hid (λW (h:RdW W W.heap.size A ws)=>lz A ws c ws.length f W rfl hm h ho);unfold pm at v;clear hr ho;by_cases z:bi ws f t=0
 .obtain ⟨g1,g2,l,I,g4,g5⟩:=bU z;rw[eJ] at g1;obtain⟨f1,f2⟩:=ci g1 (pF g2) I;rw[z] at V;rw[f1,f2] at v;obtain⟨q,hq⟩:=xq ((gj ws f t).length);rw[hq] at V;by_cases s:l.length=0
  .have J:=hid (rl z I (.inl (kxa s)));rw[s] at v;clear g1 g2 I g4 g5 f1 f2 z hq s;go_enter func146,ntmps146;go_wp2_with fail;refine V.out.mono ?_;rintro e w1 ⟨⟨A1,c1,rfl,-,-⟩,g⟩;go_wp2_with fail;refine (v.out _ (HR.out.up g g.size)).mono ?_;rintro e w2 ⟨⟨A2,c2,rfl,-,-⟩,o⟩;go_wp2;go_ret2;exact⟨bH J.out (pC J.out (by omega)),g.trans (o.mono g.size)⟩
  have m:0<l.length:=by omega
  have hne:((l.length:Int)==0)=false:=by rw[kqi];omega
  have hnen:(l.length==0)=false:=by rw[kqi];exact s
  have hl1i:(0:Int)<(l.length:Int):=by omega
  cases j:(gk l 0).mark
  .have J:=hid (rl z I (.inr j));rw[bo l 0 m] at j;clear g1 g2 I g4 g5 f1 f2 z hq s;go_enter func146,ntmps146;go_wp2_with fail;refine V.out.mono ?_;rintro e w1 ⟨⟨A1,c1,rfl,-,-⟩,g⟩;go_wp2_with fail;refine (v.out _ (HR.out.up g g.size)).mono ?_;rintro e w2 ⟨⟨A2,c2,rfl,G,-⟩,o⟩;obtain⟨b,off,rfl,hb,q0,q1,q2,q3,q4,q5⟩:=RdB.at_ G m;rw[j] at q4;simp only[kkz,kz6] at q4;clear q0 q1 q2 q3 q5 G j;go_wp2;go_ret2;exact⟨bH J.out (pC J.out (by omega)),g.trans (o.mono g.size)⟩
  have O:=uE z I m j;obtain⟨a,u,n,rfl,rfl,Z,n2,n10,hu,hua,han,R,Gl,-,-,Fz⟩:=fg O;rw[kqj] at I;have Y:=(bN I (by omega)).2.1;have Fu:l[0]=bkAt ws a:=by rw[<-bo l 0 m,Y]
  have Fw:l[0].size=((n:Nat):Int):=by rw[Fu,aP,Z]
  rw[bo l 0 m] at j;have Fq:ay (wd ws a)=true:=by unfold stands at R;simp only[kqw] at R;exact R.1
  have Eq:fR (wd ws a) false=cC { ah (wd ws a) with mark:=false }/\nD (wd ws a) false=0:=by unfold fR nD;rw[if_pos Fq,if_pos Fq];have h1:iF (gC (wd ws a) false)=true:=Fz;exact⟨by unfold iJ;rw[if_pos h1];rfl,iB h1⟩
  have M:=hid (λW=>od (wd ws a) false W (eX HO.out a));rw[Eq.1,Eq.2] at M;have Fp:=hid (Dt (u:=u) Z.symm n2);have B:Hid (eW ws (a:Int) (u:Int)=0/\jH ws (a:Int) (u:Int)=iG ws a u):=hid ⟨O,by simp[jH,O]⟩;obtain⟨K,Gc⟩:∃K,cC { ah (wd ws a) with mark:=false }=K:=⟨_,rfl⟩;rw[Gc] at M Fp;obtain⟨b0,Fx,Fs,Gh,p0⟩:=RdW.at_ HR.out (show a<ws.length by omega);subst Fs;rw[<-bI] at p0;have Gb:=de ws g1;have hlen:ws.length<=2048:=Gb.2.1;have ha0:(0:Int)<=(a:Int):=by omega
  have ha1:(a:Int)<(ws.length:Int):=by omega
  have hn0:(0:Int)<=(n:Int):=by omega
  obtain⟨x,hx⟩:=xq (wd ws a);rw[hx] at p0 M;clear g1 g2 I g4 g5 f1 f2 z O hq s Y Fu Fq Eq Fz Gc R Gl hx Gb hf ht Z;obtain⟨i0,hi,Fy,Gd,Ft⟩:=kze bB;have N:=hid (And.intro hi (And.intro Fy (And.intro Gd Ft)));clear hi Fy Gd Ft;go_enter func146,ntmps146;go_wp2_with fail;refine V.out.mono ?_;rintro e w1 ⟨⟨A1,c1,rfl,-,-⟩,g⟩;go_wp2_with fail;refine (v.out _ (HR.out.up g g.size)).mono ?_;rintro e w2 ⟨⟨A2,c2,rfl,G,-⟩,o⟩;have Q:=g.trans (o.mono g.size);obtain⟨b,off,rfl,hb,q0,q1,q2,q3,q4,q5⟩:=RdB.at_ G m;rw[j] at q4;rw[Fw] at q1;simp only[kkz,kz6] at q4 q1;have p2:=(Q.cell (p:=⟨b0,Fx+a,none⟩) Gh).trans p0;clear q0 q2 q3 q5 G j Fw;go_wp2_with fail;refine (M.out _).mono ?_;rintro e X ⟨rfl,Fo⟩;have Fr:=Q.trans (Fo.mono Q.size);have q1':=(Fo.cell (p:=⟨b,off+1,none⟩) hb).trans q1;obtain⟨W0,j,D,Ge⟩:=run_make_full (P:=prog) X w.heap.size 26 89 i0 (.agg #[.int .i64 0,.int .u64 0]) 2 underlying26 N.out.1 N.out.2.1 N.out.2.2.1 .i64 .i64 n (by rw[N.out.2.2.2];omega) (by unfold maxLen;omega) Fr.size;have C:W0.ownsRow w.heap.size 89 2 (.slice (some ⟨X.heap.size,0,none⟩) n n) n ((gm ws a u n 0).flatMap En.cells):=by rw[uJ,<-Ey];exact D
  have Gk:=hid C;have Gg:=hid (Fr.grown Ge Fr.size (λk hk=>by cases hk));clear D Ge C Fo Q o g q4 q1 p2;go_wp2_with fail;clear j q1';have Gj:Hid (∀i,i<n->gm ws a u n (i+1)=(gm ws a u n i).set i ⟨((u+i:Nat):Int),wd ws (a+i)⟩):=hid λi hi=>uC ws a u n i hi;have L:Hid (∀i,((gm ws a u n i).flatMap En.cells).length=n*2):=hid λi=>by rw[bY En.cells 2 En.len,fq]
  go_loopw [57] (λi wr=>∃k:Nat,k<=n/\i=.int .i64 k/\wr.ownsRow w.heap.size 89 2 (.slice (some ⟨X.heap.size,0,none⟩) n n) n ((gm ws a u n k).flatMap En.cells)/\Below w.heap.size w wr) (λi _=>n-(intOf i).toNat)
  case atStart=>exact⟨0,kqx _,rfl,Gk.out,Gg.out⟩
  obtain⟨k,hk,rfl,d,hB⟩:=hrel;have S:=lX d;by_cases Gi:k<n
  .obtain ⟨b0',off0',Fs,hb0',p0⟩:=RdW.at_ (Rd.below HR.out hB) (show a+k<ws.length by omega);cases Fs;rw[<-bI] at p0;have HS:=hid (Gj.out k Gi);obtain⟨y,hy⟩:=xq (wd ws (a+k));rw[hy] at p0 HS;obtain⟨u0,Gf⟩:∃u0,((gm ws a u n k).flatMap En.cells)[k*2]? = some u0:=⟨_,kqm (by rw[L.out];omega)⟩;obtain⟨u1,E⟩:∃u1,((gm ws a u n k).flatMap En.cells)[k*2+1]? = some u1:=⟨_,kqm (by rw[L.out];omega)⟩;have d0:=(d.cellAt (k*2) (by omega)).trans Gf;have d1:=(d.cellAt (k*2+1) (by omega)).trans E;have e0:=d.frozenAt (k*2);have e1:=d.frozenAt (k*2+1);have F:=hid d;have hk1:(k:Int)<(n:Int):=by omega
   have hk0:(0:Int)<=(k:Int):=by omega
   have hak:(a:Int)+(k:Int)<(ws.length:Int):=by omega
   have hak0:(0:Int)<=(a:Int)+(k:Int):=by omega
   have hakt:((a:Int)+(k:Int)).toNat=a+k:=by omega
   have hwa:IntKind.i64.wrap ((a:Int)+(k:Int))=(a:Int)+(k:Int):=kqo _ (by omega);have hwu:IntKind.i64.wrap ((u:Int)+(k:Int))=(u:Int)+(k:Int):=kqo _ (by omega);clear hy Gf E d;go_wp2;go_roundw
   case rel =>
    refine⟨k+1,by omega,by go_num,?_,(hB.setCell (p:=⟨X.heap.size,k*2,none⟩) S _).setCell (p:=⟨X.heap.size,k*2+1,none⟩) S _⟩;rw[HS.out,en_set];have h5:=(((F.out.stored (k*2) (.int .i64 ((u:Int)+(k:Int)))).1).stored (k*2+1) (.int .u64 (y:Int))).1;rw[show (((u+k:Nat)):Int)=(u:Int)+(k:Int) by omega];exact h5
   case measure=>simp[intOf];omega
  obtain rfl:k=n:=by omega
  have g0:(gm ws a u k k)[0]? = some ⟨((u+0:Nat):Int),wd ws (a+0)⟩:=by rw[hU _ _ _ _ _ _ (by omega),if_pos (by omega)]
  obtain⟨u1,E⟩:∃u1,((gm ws a u k k).flatMap En.cells)[1]? = some u1:=⟨_,kqm (by rw[L.out];omega)⟩;obtain⟨u3,Fv⟩:∃u3,((gm ws a u k k).flatMap En.cells)[3]? = some u3:=⟨_,kqm (by rw[L.out];omega)⟩;have d1:=(d.cellAt 1 (by omega)).trans E;have d3:=(d.cellAt 3 (by omega)).trans Fv;have e1:=d.frozenAt 1;have e3:=d.frozenAt 3;have hn1i:(1:Int)<(k:Int):=by omega
  have hn0i:(0:Int)<(k:Int):=by omega
  have U:(((gm ws a u k k).set 0 ⟨(u:Int),K⟩).set 1 ⟨((u+1:Nat):Int),0⟩).flatMap En.cells=(((gm ws a u k k).flatMap En.cells).set 1 (.int .u64 (K:Int))).set 3 (.int .u64 0):=by rw[yq ((gm ws a u k k).set 0 ⟨(u:Int),K⟩) 1 ⟨((u+1:Nat):Int),wd ws (a+1)⟩ 0 (by rw[kxe,if_neg (by omega),hU _ _ _ _ _ _ (by omega),if_pos (by omega)])];rw[show (⟨(u:Int),K⟩:En)=⟨(⟨((u+0:Nat):Int),wd ws (a+0)⟩:En).a,K⟩ from rfl,yq _ 0 _ K g0];rfl
  have Ga:=hid U;have F:=hid d;have H:(iG ws a u).length=k:=by rw[Fp.out,kza,kza,fq]
  have T:=hid H;clear g0 E Fv U d H;go_wp2;go_ret2;have h5:=(((F.out.stored 1 (.int .u64 (K:Int))).1).stored 3 (.int .u64 0)).1;rw[<-Ga.out,<-Fp.out] at h5;refine⟨⟨some ⟨X.heap.size,0,none⟩,k,by rw[B.out.1,B.out.2,T.out];rfl,?_⟩,(hB.setCell (p:=⟨X.heap.size,1,none⟩) S _).setCell (p:=⟨X.heap.size,3,none⟩) S _⟩;rw[B.out.2,T.out];exact h5
 have J:=hid (show eW ws f t=bi ws f t by unfold eW;rw[if_neg z]);have Gm:(bi ws f t != 0)=true:=by rw[kqt];exact z
 have H0:=hid z;obtain⟨r,hr⟩:=xq (bi ws f t);obtain⟨q,hq⟩:=xq ((gj ws f t).length);rw[hr,hq] at V;rw[hr] at Gm J H0;clear z hr hq;go_enter func146,ntmps146;go_wp2_with fail;refine V.out.mono ?_;rintro e w1 ⟨⟨A1,c1,rfl,-,-⟩,g⟩;go_wp2;go_ret2;exact⟨bH J.out (pC J.out H0.out),g⟩
theorem D5(A:Option Addr)(ws:List Nat)(c n H:Nat)(w:World)(hn:ws.length=n)(h0:0<n)(hm:n<=1000000)(hr:RdW w H A ws)(hH:H<=w.heap.size):
 Calls prog 70 #[.slice A n c] w λe w'=>OwnW w ws e w':=by have z:=hid (hr.more hH);have r:=hid hn;have o:=hid (ki ws);obtain⟨b,m,rfl,y,-⟩:=RdW.at_ hr (show 0<ws.length by omega);have i:=λ(W:World)=>Lib.run_eql_slice_nil (P:=prog) (w:=W) 22 53 (some ⟨b,m,none⟩) n c 0 0 underlying22;simp only[Option.isNone_some] at i;clear hr hH hn y;obtain⟨v,u,j,l,k⟩:=kze lZ;have B:=hid u;have s:=hid j;have t:=hid l;have q:=hid k;clear u j l k;go_enter func70,ntmps70;go_wp2_with (at_builtin;refine aI _ (by rfl) _ _ 22 rfl w.heap.size 53 v _ 1 8 underlying22 B.out s.out t.out q.out rfl (by decide) (.slice (some ⟨w.heap.size,0,none⟩) 0 0) 0 [] (by rfl) (fm w _ _ _ (kqb _)) w.heap.size (some ⟨b,m,none⟩) n _ (ws.flatMap au) (by rfl) (by rw[o.out,r.out];omega) (Rd.alloc z.out (kqb _) _) (cn lP _) (by unfold maxLen;omega) (by omega) (by simp) ?_;intro v1 wa a f;have d:=aM ((kqk w.heap.size w).alloc (kqb _) _) (by simp) (fm w w.heap.size 53 1 (kqb _)) f;simp only[kx5,kz5] at a;obtain⟨g,x,rfl⟩:=jw a (by omega);have h:=hid a;have p:=hid d;clear a d f);go_ret;exact⟨g,x,by rw[r.out];rfl,by rw[r.out];exact h.out,p.out⟩
def OwnV (w:World) (xs:List Nat) (e:Ending) (w':World):Prop:=∃g c,e=.returned (.tuple #[.slice (some ⟨g,0,none⟩) xs.length c,.int .i64 0])/\w'.ownsRow w.heap.size 53 1 (.slice (some ⟨g,0,none⟩) xs.length c) xs.length (xs.flatMap au)/\Below w.heap.size w w'
theorem xK(A B:Option Addr)(ws:List Nat)(E:List En)(c d n m H:Nat)(w:World)(hn:ws.length=n)(hm:E.length=m)(hs:ak (n:Int)=true)(hm2:m<=32)(hE:∀e∈E,0<=e.a/\e.a<(n:Int))(hr:RdW w H A ws)(he:RdE w H B E)(hH:H<=w.heap.size):
 Calls prog 53 #[.slice A n c,.slice B m d] w λe w'=>OwnV w (aj ws E) e w':=by
 subst hm;obtain⟨b1,b2,-⟩:=(af _).1 hs;have HI:=hid (aW hs);have Y:=hid (hr.more hH);have X:=hid (he.more hH);have HN:=hid hn;have y:Hid (∀k,(aj ws (E.take k)).length=n):=hid λk=>by rw[aE,hn]
 have K:Hid (∀k (h:k<E.length),0<=E[k].a/\E[k].a<(n:Int)):=hid λk h=>hE _ (kqs h);have F:Hid (∀k (h:k<E.length),aj ws (E.take (k+1))=(aj ws (E.take k)).set E[k].a.toNat E[k].v):=hid λk h=>by rw[qb h,hn,if_pos (hE _ (kqs h))]
 have o:=hid (λW (h:RdW W W.heap.size A ws)=>D5 A ws c n W.heap.size W hn (by omega) (by omega) h (kqb _));unfold OwnW at o;rw[hn] at o;have h32:decide ((32:Int)<(E.length:Int))=false:=by rw[kqc];omega
 clear hr he hH hn hE hs;go_enter func53,ntmps53;go_wp2_with fail;refine (aJ A n c w (by omega)).mono ?_;rintro e w1 ⟨rfl,rfl⟩;rw[HI.out];go_wp2_with fail;refine (o.out _ Y.out).mono ?_;rintro e w2 ⟨g,Q,rfl,f,t⟩;have r:=hid f;have D:=hid t;clear f t;go_wp2_with fail;go_loopw [22] (λi wr=>∃k:Nat,k<=E.length/\i=.int .i64 k/\wr.ownsRow w.heap.size 53 1 (.slice (some ⟨g,0,none⟩) n Q) n ((aj ws (E.take k)).flatMap au)/\Below w.heap.size w wr) (λi _=>E.length-(intOf i).toNat)
 case atStart=>exact⟨0,kqx _,rfl,r.out,D.out⟩
 obtain⟨k,hk,rfl,f,z⟩:=hrel;have hz:=z.size;have N:=lX f;by_cases q:k<E.length
 .obtain ⟨b,off,rfl,hb,U,R⟩:=RdE.at_ (Rd.below X.out z) q;have s:=hid (F.out k q);obtain⟨L,S⟩:=K.out k q;obtain⟨x,P⟩:=xq (E[k]);rw[P] at U R s L S;obtain⟨xa,J⟩:=x;dsimp only at U R s L S;obtain⟨a,rfl⟩:=kq2 L;rw[kqj] at s;have hk1:(k:Int)<(E.length:Int):=by omega
  have hk0:(0:Int)<=(k:Int):=by omega
  obtain⟨j,l⟩:=xq (aj ws (E.take k));have C:=y.out k;rw[l] at s f C;have I:=(f.cellAt a (by omega)).trans (qW j a (by omega));have Z:=f.frozenAt a;obtain⟨u,T⟩:∃u,((j[a]'(by omega):Nat):Int)=u:=⟨_,rfl⟩;rw[T] at I;have O:g<wr.heap.size:=(f.lt g rfl).2;have c0':=(kq8 wr (.cells #[.int .i64 (a:Int),.int .u64 (J:Int)] 89) ⟨g,a,none⟩ O).trans I;have V:=hid (f.alloc (.cells #[.int .i64 (a:Int),.int .u64 (J:Int)] 89));have f0':=V.out.frozenAt a;have G:=hid f;clear P T f l I Z;go_wp2;go_roundw
  case rel =>
   refine⟨k+1,by omega,by go_num,?_,(z.setCell (p:=⟨g,a,none⟩) N _).alloc (by rw[kxz];exact hz) _⟩;rw[s.out,qE];exact (G.out.stored a (.int .u64 (J:Int))).1.alloc _
  case measure=>simp[intOf];omega
 rw[kzb (by omega)] at f;have M:=y.out E.length;rw[kzj] at M;go_wp2;go_ret2;exact⟨g,Q,by rw[M];rfl,by rw[M];exact f,z⟩
theorem lm(l:List Bk):(∃k,k<l.length/\eM l k/\(gk l k).mark=true)\/eM l l.length:=by
 have a:∀n,n<=l.length->(∃k,k<l.length/\eM l k/\(gk l k).mark=true)\/eM l n:=by
  intro n
  induction n with
  | zero=>intro _;exact .inr (nk l)
  | succ n ih =>
   intro hn;rcases ih (by omega) with h|h
   .exact .inl h
   cases b:(gk l n).mark with
   | true=>exact .inl ⟨n,by omega,h,b⟩
   | false=>exact .inr (mH h b)
 exact a l.length (kqb _)
theorem rK(a b:List Bk):ed (a++b)=ed a++ed b:=by unfold ed;rw[kxj,kxu]
theorem rh{l:List Bk}:∀ {k},k<=l.length->eM l k->ed (l.take k)=[]:=by
 intro k
 induction k with
 | zero=>intro _ _;rfl
 | succ k ih =>
  intro hk h;have a:k<l.length:=by omega
  rw[qs a,ih (by omega) (λj hj=>h j (by omega))];have:=h k (by omega);rw[bo l k a] at this;simp[this]
theorem yN(b:Bk)(l:List Bk):(ed (b::l)).length=(if b.mark=true then 1 else 0)+(ed l).length:=by
 unfold ed;cases h:b.mark
 .simp[h]
 simp[h];omega
theorem mr(hs:ak (ws.length:Int)=true){l:List Bk}(h1:128<=a)(h2:a<=ws.length)(h3:a%2=0)(hb:blocks ws a=some l)(hm:0<(ed l).length):
 ∃(m z:Nat) (l':List Bk),bp ws (a:Int)=0/\(iE ws (a:Int)).at_=(m:Int)/\(iE ws (a:Int)).size=(z:Int)/\a<=m/\2<=z/\m+z<=ws.length/\(m+z)%2=0/\blocks ws (m+z)=some l'/\(ed l').length+1=(ed l).length:=by
 have c:eB ws.length (a:Int)=false:=by simp only[eB,kzo,kqc,kqp];omega
 obtain⟨s,r⟩:=ci (a:=(a:Int)) hs c (by rw[kqj];exact hb);rcases lm l with⟨k,d,f,b⟩|f
 .obtain ⟨g,q⟩:=pL s r d f b;obtain⟨m,j,f2,p,t,o,n⟩:=bC _ _ hb h3 k d;have i:=ax o;rw[bo l k d] at g b;have h:=bN n t;refine⟨m,szAt ws m,l.drop (k+1),q,by rw[g,j];rfl,by rw[g,j];rfl,p,i.1,i.2.2,by omega,?_,?_⟩
  .rw[h.2.2.2,kxv]
  have e:l=l.take k++(l[k]::l.drop (k+1)):=by rw[<-kxh d,kz2]
  have:(ed l).length=(ed (l.take k++(l[k]::l.drop (k+1)))).length:=by rw[<-e]
  rw[this,rK,kqz,rh (by omega) f,yN,b];simp;omega
 have:=rh (kqb _) f;rw[kzj] at this;rw[this] at hm;simp at hm
theorem vB(h:aw ws=0)(hp:¬ wd ws 16<3):ak (ws.length:Int)=true/\(wd ws 16=3\/wd ws 16=4)/\∃a:Nat,fN ws=(a:Int)/\128<=a/\a<=ws.length/\a%2=0/\∃l,blocks ws a=some l/\lfN ws=(ed l).length:=by
 have t:=iX h;obtain⟨F,C⟩:=dt t;obtain⟨n,K,A⟩:=cK F;obtain⟨⟨l0,r,l2⟩,-⟩:=(aY ws).1 K;have hbd:=de ws n;have J:=zT h hp;have d:∀a:Nat,fN ws=(a:Int)->128<=a->a<=ws.length->a%2=0->∀l,blocks ws a=some l->∃a:Nat,fN ws=(a:Int)/\128<=a/\a<=ws.length/\a%2=0/\∃l,blocks ws a=some l/\lfN ws=(ed l).length:=by
  intro a y I E B l g;refine⟨a,y,I,E,B,l,g,?_⟩;have j:eB ws.length (a:Int)=false:=by simp only[eB,kzo,kqc,kqp];omega
  rw[J,y,(ci (a:=(a:Int)) n j (by rw[kqj];exact g)).2]
 rcases (b8 _ _ _).1 A with⟨z,v,x,i3⟩|⟨p,v,x⟩|⟨H,-⟩
 .refine ⟨n,.inr z,?_⟩;have f:=(aQ _).1 v;have q:bi ws (wd ws 17:Nat) (wd ws 18:Nat)=0:=by
   unfold aw at h;rw[if_pos t,if_pos z] at h;split at h
   .exact h
   simp at h
  obtain⟨-,-,l,g,-⟩:=bU q;rw[kqj] at g;exact d (wd ws 17) (by unfold fN;rw[if_neg (by omega)]) f.1 r f.2.2 l g
 .refine ⟨n,.inl p,?_⟩;have q:bi ws 128 128=0:=by unfold aw at h;rwa [if_pos t,if_neg (by omega),if_pos p] at h
  obtain⟨-,-,l,g,-⟩:=bU q;have e:blocks ws 128=some l:=g;by_cases w:wd ws 17=0
  .exact d 128 (by unfold fN;rw[if_pos (by omega)];rfl) (by omega) (by omega) (by omega) l e
  have f:=(aQ _).1 (x.resolve_left w);have i:fN ws=((wd ws 17:Nat):Int):=by unfold fN;rw[if_neg (by omega)]
  have c:=C p w;unfold nn at c;rw[e] at c;have c:(l.any (λb=>b.at_==((wd ws 17:Nat):Int))||wd ws 17==ws.length)=true:=c;rw[kje,kxn] at c;rcases c with⟨b,G,o⟩|o
  .obtain ⟨k,D,rfl⟩:=kqv G;obtain⟨m,L,f2,f3,f4,f5,u⟩:=bC _ _ e (by omega) k D;rw[kqu,L] at o;have s:m=wd ws 17:=by have:((m:Nat):Int)=((wd ws 17:Nat):Int):=o;omega
   rw[s] at u;exact d (wd ws 17) i f.1 r f.2.2 _ u
  rw[kqu] at o;exact d (wd ws 17) i f.1 r f.2.2 [] (aC (by omega))
 exact absurd H hp
def phE (p f t:Nat):List En:=[⟨16,p⟩,⟨17,f⟩,⟨18,t⟩]
theorem fK(j v:Nat)(l:List En)(h:j<ws.length):aj ws (⟨(j:Int),v⟩::l)=aj (ws.set j v) l:=by simp only[aj];rw[if_pos (by omega),kqj]
def gE (l:List En) (p:Nat):List En:=if 32<=l.length then l.take 31 else ⟨16,p⟩::l
def bG:List En:=[⟨16,4⟩,⟨17,128⟩,⟨18,128⟩]
theorem eK(h:bp ws (a:Int)=0):ak (ws.length:Int)=true/\128<=a/\a%2=0/\∃m:Nat,iE ws (a:Int)=bkAt ws m/\a<=m/\m%2=0/\2<=szAt ws m/\szAt ws m%2=0/\m+szAt ws m<=ws.length/\stands ws m=true/\(bkAt ws m).mark=true/\(bkAt ws m).kind=1/\∃l,blocks ws a=some l/\co ws (a:Int)=0/\aU ws (a:Int)=l/\∃k,k<l.length/\eM l k/\blocks ws m=some (l.drop k):=by
 have d:co ws (a:Int)=0:=by
  by_cases o:co ws (a:Int)=0
  .exact o
  rw[(tM rfl o).2] at h;exact absurd h o
 have i:ak (ws.length:Int)=true:=by
  cases q:ak (ws.length:Int) with
  | true=>rfl
  | false=>rw[fp q] at d;cases d
 have c:eB ws.length (a:Int)=false:=by
  cases q:eB ws.length (a:Int) with
  | false=>rfl
  | true=>rw[iL i q] at d;cases d
 have ha:=lY c;cases n:blocks ws a with
 | none=>rw[eN i c (by rw[kqj];exact n)] at d;cases d
 | some l =>
  have e:=ci (a:=(a:Int)) i c (l:=l) (by rw[kqj];exact n);rcases lm l with⟨k,f,j,g⟩|j
  .obtain ⟨r,-⟩:=pL d e.2 f j g;obtain⟨m,t,u,w,f4,s,v⟩:=bC _ _ n (by omega) k f;have p:=ax s;have b:=DZ d (k:=k) (by rw[e.2];exact f);rw[e.2] at b;rw[bo l k f] at r g b;rw[t] at g b;rw[g] at b;simp only[kvd,kk6,kqu] at b;exact⟨i,by omega,by omega,m,by rw[r,t],w,u,p.1,p.2.1,p.2.2,s,g,b,l,rfl,d,e.2,k,f,j,v⟩
  rw[(zw d e.2 j).2] at h;cases h
def Bu (ws:List Nat):Nat->Nat->Int × List En
 | 0,_=>(0,bG)
 | f+1,a=>if bp ws (a:Int)=0 then (if bK ws (iE ws (a:Int)).at_=[] then Bu ws f ((iE ws (a:Int)).at_+(iE ws (a:Int)).size).toNat
  else if cG ws (iE ws (a:Int)).at_=0 then (0,⟨17,((iE ws (a:Int)).at_+(iE ws (a:Int)).size).toNat⟩::cr ws (iE ws (a:Int)).at_)
  else (cG ws (iE ws (a:Int)).at_,[])) else (0,bG)
theorem z6 :∀ {f a g:Nat},ws.length-a<f->ws.length-a<g->Bu ws f a=Bu ws g a:=by
 intro f
 induction f with
 | zero=>intro a g h;omega
 | succ f ih =>
  intro a g h hg;cases g with
  | zero=>omega
  | succ g =>
   simp only[Bu];by_cases b:bp ws (a:Int)=0
   .obtain ⟨hs,a1,a2,m,e,m1,m2,m3,m4,m5,-⟩:=eK b;have d:((iE ws (a:Int)).at_+(iE ws (a:Int)).size).toNat=m+szAt ws m:=by rw[e,ab,aP];omega
    rw[if_pos b,if_pos b,d];by_cases c:bK ws (iE ws (a:Int)).at_=[]
    .rw[if_pos c,if_pos c];exact ih (by omega) (by omega)
    rw[if_neg c,if_neg c]
   rw[if_neg b,if_neg b]
def iK (ws:List Nat) (a:Nat):Int × List En:=Bu ws (ws.length+1) a
theorem iu(h:bp ws (a:Int)≠0):iK ws a=(0,bG):=by unfold iK;rw[Bu,if_neg h]
theorem iZ(h:bp ws (a:Int)=0)(e:iE ws (a:Int)=bkAt ws m)(h2:bK ws (m:Int)=[]):iK ws a=iK ws (m+szAt ws m):=by
 obtain⟨hs,a1,a2,b,d,m1,m2,m3,m4,m5,-⟩:=eK h;have c:b=m:=by have:=congrArg Bk.at_ (e.symm.trans d);rw[ab,ab] at this;omega
 subst c;unfold iK;rw[Bu,if_pos h,e,ab,if_pos h2,aP,show (((b:Int)+((szAt ws b:Nat):Int)).toNat)=b+szAt ws b by omega];exact z6 (by omega) (by omega)
theorem pA(h:bp ws (a:Int)=0)(e:iE ws (a:Int)=bkAt ws m)(h2:bK ws (m:Int)≠[])(h3:cG ws (m:Int)≠0):iK ws a=(cG ws (m:Int),[]):=by unfold iK;rw[Bu,if_pos h,e,ab,if_neg h2,if_neg h3]
theorem mC(h:bp ws (a:Int)=0)(e:iE ws (a:Int)=bkAt ws m)(h2:bK ws (m:Int)≠[])(h3:cG ws (m:Int)=0):iK ws a=(0,⟨17,m+szAt ws m⟩::cr ws (m:Int)):=by unfold iK;rw[Bu,if_pos h,e,ab,if_neg h2,if_pos h3,aP,show (((m:Int)+((szAt ws m:Nat):Int)).toNat)=m+szAt ws m by omega]
def dp (ws:List Nat):Int × List En:=if wd ws 17=0 then (if dm ws=0 then (0,⟨17,128⟩::dd ws) else (dm ws,[])) else iK ws (wd ws 17)
def eO (ws:List Nat):Int × List En:=if bp ws ((wd ws 17:Nat):Int)=0 then
 (if eW ws (iE ws ((wd ws 17:Nat):Int)).at_ ((wd ws 18:Nat):Int)=0 then (0,⟨17,((iE ws ((wd ws 17:Nat):Int)).at_+(iE ws ((wd ws 17:Nat):Int)).size).toNat⟩::⟨18,(((wd ws 18:Nat):Int)+(iE ws ((wd ws 17:Nat):Int)).size).toNat⟩::jH ws (iE ws ((wd ws 17:Nat):Int)).at_ ((wd ws 18:Nat):Int))
 else (eW ws (iE ws ((wd ws 17:Nat):Int)).at_ ((wd ws 18:Nat):Int),[])) else (6,[])
noncomputable def ac (ws:List Nat):Int × List En:=if aw ws=0 then
 (if wd ws 16=1 then (if aF ws=0 then (0,gE (aN ws) 2) else (aF ws,[]))
 else if wd ws 16=2 then (if ag ws=0 then (0,gE (aG ws) 3) else (ag ws,[]))
 else if wd ws 16=3 then dp ws
 else if wd ws 16=4 then eO ws else (6,[])) else (aw ws,[])
theorem ce(h:32<=l.length):gE l p=l.take 31:=by unfold gE;rw[if_pos h]
theorem gq(h:¬ 32<=l.length):gE l p=⟨16,p⟩::l:=by unfold gE;rw[if_neg h]
theorem ij{x:Nat}(h:ay x=true)(hk:(ah x).kind=1)(m:Bool):ay (fR x m)=true/\ah (fR x m)={ ah x with mark:=m }/\nD x m=0/\fR x m<18446744073709551616:=by
 have e:iF (ah x)=true:=by unfold ay at h;simp only[kqw] at h;exact h.1
 have a:iF (gC x m)=true:=by
  have d:=(bj _).1 e;rw[bj];unfold gC;dsimp only;refine⟨d.1,.inl ?_⟩;rcases d.2 with b|b
  .exact b
  rw[hk] at b;exact absurd b.1 (by decide)
 have c:fR x m=cC (gC x m):=by unfold fR iJ;rw[if_pos h,if_pos a]
 refine⟨by rw[c];exact nW a,?_,by unfold nD;rw[if_pos h];exact iB a,by rw[c];exact po a⟩;rw[c,kF a];rfl
theorem mD{x:Nat}(h:ay x=true):2048<x:=by unfold ay at h;simp only[kqw] at h;have a:=(bj _).1 h.1;have b:(ah x).size=((x/65536%65536:Nat):Int):=rfl;rw[b] at a;omega
structure Rm (ws xs:List Nat):Prop where
 len:xs.length=ws.length
 at_:∀i,wd xs i=wd ws i\/(128<=i/\i%2=0/\ay (wd ws i)=true/\(ah (wd ws i)).kind=1/\∃m,wd xs i=fR (wd ws i) m)
section
variable {ws xs:List Nat}
theorem Rm.low(h:Rm ws xs)(hi:i<128):wd xs i=wd ws i:=by
 rcases h.at_ i with a|a
 .exact a
 omega
theorem Rm.odd(h:Rm ws xs)(hi:i%2=1):wd xs i=wd ws i:=by
 rcases h.at_ i with a|a
 .exact a
 omega
theorem Rm.sp(h:Rm ws xs)(i:Nat):ay (wd xs i)=ay (wd ws i):=by
 rcases h.at_ i with d|⟨-,-,a,b,m,c⟩
 .rw[d]
 rw[c,a,(ij a b m).1]
def qL (xs:List Nat) (i:Nat):Bool:=(ah (wd xs i)).mark
theorem Rm.raw(h:Rm ws xs)(i:Nat):ah (wd xs i)={ ah (wd ws i) with mark:=qL xs i }:=by
 unfold qL;rcases h.at_ i with d|⟨-,-,c,a,m,b⟩
 .rw[d]
 rw[b,(ij c a m).2.1]
theorem Rm.sz(h:Rm ws xs)(i:Nat):(ah (wd xs i)).size=(ah (wd ws i)).size:=by rw[h.raw i]
theorem Rm.szAt(h:Rm ws xs)(i:Nat):szAt xs i=szAt ws i:=by have a:=h.sz i;have e:∀w,(ah w).size=((w/65536%65536:Nat):Int):=λ_=>rfl;rw[e,e] at a;unfold Proofs.YtpcajamacpbjcaaGreat.szAt;exact Int.ofNat.inj a
theorem Rm.stands(h:Rm ws xs)(i:Nat):stands xs i=stands ws i:=by unfold Proofs.YtpcajamacpbjcaaGreat.stands;rw[h.sp,h.sz,h.len]
def mkB (xs:List Nat) (b:Bk):Bk:={ b with mark:=qL xs b.at_.toNat }
theorem Rm.bkAt(h:Rm ws xs)(hi:i%2=0):bkAt xs i=mkB xs (bkAt ws i):=by
 unfold mkB;have a:(Proofs.YtpcajamacpbjcaaGreat.bkAt ws i).at_.toNat=i:=by rw[ab,kqj]
 rw[a];unfold Proofs.YtpcajamacpbjcaaGreat.bkAt;rw[h.raw i,h.odd (i:=i+1) (by omega)]
theorem Rm.blocks(h:Rm ws xs):∀i l,blocks ws i=some l->i%2=0->blocks xs i=some (l.map (mkB xs)):=by
 refine dr (λi l=>i%2=0->Proofs.YtpcajamacpbjcaaGreat.blocks xs i=some (l.map (mkB xs))) (λi a _=>?_) (λi l a c hb b d=>?_)
 .exact aC (by rw[h.len];exact a)
 have hsz:=ax c;have b:=b (by omega);rw[aO (by rw[h.len];exact a) (by rw[h.stands];exact c),h.szAt,b,h.bkAt d];rfl
theorem xP(n:Nat)(l:List Bk):pV n (l.map (mkB xs))=pV n l:=by unfold pV;rw[List.foldl_map];rfl
theorem EK(h:Rm ws xs)(hb:b.kind=1->tyA b+1<128):dA xs (mkB xs b)=dA ws b:=by
 have e:=xp (ws:=ws) (xs:=xs) (λj c=>h.low c) hb;by_cases a:b.kind=1
 .have h2:=hb a;unfold dA db;show (b.kind != 1||(bE (wd xs (tyA b)) (wd xs (tyA b+1))&&b.size==((aX (wd xs (tyA b)%256):Nat):Int)))=_;rw[h.low (by omega),h.low (by omega)]
 rw[d6 a,d6 (b:=mkB xs b) a]
theorem Rm.heap(h:Rm ws xs)(h0:ag ws=0):ag xs=0/\aa xs=(aa ws).map (mkB xs):=by obtain⟨g,l,d,c,f⟩:=al h0;have e:=h.blocks 128 l d (by omega);rw[f];refine fT (by rw[h.len];exact g) e ?_;rw[List.all_map,kzq];rw[kzq] at c;intro b a;show dA xs (mkB xs b)=true;rw[EK h (iO d (by omega) b a)];exact c b a
theorem Rm.tb(h:Rm ws xs)(h0:ag ws=0)(a:Nat):tb xs a=tb ws a:=by unfold Proofs.YtpcajamacpbjcaaGreat.tb;rw[(h.heap h0).2,h.len,xP]
theorem Rm.slAt(h:Rm ws xs)(hi:i<16):slAt xs i=slAt ws i:=by unfold Proofs.YtpcajamacpbjcaaGreat.slAt;rw[h.low (by omega)]
theorem Rm.slsOk(h:Rm ws xs):slsOk xs=slsOk ws:=by
 rw[kzk,cw,cw];unfold nC;constructor
 .intro b i a;rw[<-h.slAt a];exact b i a
 intro b i a;rw[h.slAt a];exact b i a
theorem mS(h:eg ws a):(ah (wd ws a)).typ.toNat<8:=by have h7:=(bj _).1 (fM h.2.2.2.1);have h5:=h.2.2.2.2.1;omega
theorem Rm.flds(h:Rm ws xs)(h0:ag ws=0)(ha:Proofs.YtpcajamacpbjcaaGreat.tb ws a≠0):flds xs a=flds ws a:=by obtain⟨b,-⟩:=gO h0 ha;have:=mS b;unfold Proofs.YtpcajamacpbjcaaGreat.flds;rw[h.raw a];dsimp only;rw[h.low (by omega),h.low (by omega)]
theorem Rm.ref(h:Rm ws xs)(hg:rz ws)(h0:ag ws=0)(ha:Rch ws a)(ht:Proofs.YtpcajamacpbjcaaGreat.tb ws a≠0)(hf:(Proofs.YtpcajamacpbjcaaGreat.flds ws a)[i]? = some 3):wd xs (a+2+i)=wd ws (a+2+i):=by
 rcases h.at_ (a+2+i) with c|⟨-,-,d,-⟩
 .exact c
 exfalso;have hb:=mD d;have b:=hg _ (Rch.ref a i ha ht hf (by omega));rw[kk3 (by omega)] at b;have:=qO b;have:=(de ws (al h0).1).2.1;omega
theorem Rm.rch(h:Rm ws xs)(hg:rz ws)(h0:ag ws=0)(a:Nat):Rch xs a↔Rch ws a:=by
 constructor
 .intro b
  induction b with
  | slot i hi hu=>rw[h.slAt hi] at hu |-;exact Rch.slot i hi hu
  | ref a i b ht hf hv ih =>rw[h.tb h0] at ht;rw[h.flds h0 ht] at hf;rw[h.ref hg h0 ih ht hf] at hv |-;exact Rch.ref a i ih ht hf hv
 intro b
 induction b with
 | slot i hi hu=>rw[<-h.slAt hi] at hu |-;exact Rch.slot i hi hu
 | ref a i b ht hf hv ih =>rw[<-h.ref hg h0 b ht hf] at hv |-;exact Rch.ref a i ih (by rw[h.tb h0];exact ht) (by rw[h.flds h0 ht];exact hf) hv
theorem av(h:aF ws=0):ag ws=0/\slsOk ws=true/\rz ws:=by
 unfold aF at h;by_cases a:ag ws=0
 .rw[if_pos a] at h;by_cases b:Proofs.YtpcajamacpbjcaaGreat.slsOk ws=true
  .rw[if_pos b] at h;by_cases c:rz ws
   .exact ⟨a,b,c⟩
   rw[if_neg c] at h;cases h
  rw[if_neg b] at h;cases h
 rw[if_neg a] at h;exact absurd h a
theorem Rm.same(h:Rm ws xs)(h0:aF ws=0):aF xs=0/\dY xs=dY ws/\seenL xs=seenL ws/\ag xs=0/\aa xs=(aa ws).map (mkB xs):=by
 obtain⟨b,j,g⟩:=av h0;have e:=h.rch g b;have f:=h.heap b;have i:rz xs:=λa k=>by rw[h.tb b];exact g a ((e a).1 k)
 have d:aF xs=0:=BA f.1 (by rw[h.slsOk];exact j) i;have c:seenL xs=seenL ws:=by unfold seenL;rw[h.len];refine kz8 λa _=>?_;exact decide_eq_decide.2 (e a)
 refine⟨d,?_,c,f⟩;rw[eE d,eE h0,c,h.len]
end
theorem E5:∀ {a b:List Int},a.Pairwise (· < ·)->b.Pairwise (· < ·)->(∀x,x∈a↔x∈b)->a=b:=by
 intro a
 induction a with
 | nil =>
  intro b _ _ h;cases b with
  | nil=>rfl
  | cons y b=>exact absurd ((h y).2 (by simp)) (by simp)
 | cons x a ih =>
  intro b f e h;cases b with
  | nil=>exact absurd ((h x).1 (by simp)) (by simp)
  | cons y b =>
   rw[kj9] at f e;have i:x=y:=by
    have c:=(h x).1 (by simp);have d:=(h y).2 (by simp);rw[kq0] at c d;rcases c with c|c
    .exact c
    rcases d with d|d
    .exact d.symm
    have:=e.1 _ c;have:=f.1 _ d;omega
   subst i;rw[ih f.2 e.2 (λz=>?_)];have g:=h z;rw[kq0,kq0] at g;constructor
   .intro c;have:=f.1 _ c;rcases g.1 (.inr c) with d|d
    .omega
    exact d
   intro c;have:=e.1 _ c;rcases g.2 (.inr c) with d|d
   .omega
   exact d
theorem dQ(l:List En):∀ws:List Nat,l.Pairwise (λa b=>a.a<b.a)->∀e∈l,0<=e.a->e.a<(ws.length:Int)->wd (aj ws l) e.a.toNat=e.v:=by
 induction l with
 | nil=>intro ws _ e c;simp at c
 | cons x l ih =>
  intro ws d e c g f;rw[kj9] at d;simp only[aj];rcases kq0.1 c with rfl|c
  .rw[bg l _ _ (λy h=>by have:=d.1 y h;omega),if_pos ⟨g,f⟩];unfold wd;rw[kz3 (by omega)];rfl
  refine ih _ d.2 e c g ?_;split
  .rw[kza];exact f
  exact f
theorem ld :∀i l,blocks ws i=some l->(∀b∈l,(i:Int)<=b.at_)/\l.Pairwise (λa b=>a.at_<b.at_):=by
 refine dr _ (λi _=>⟨λb h=>by simp at h,List.Pairwise.nil⟩) (λi l hi d hb c=>?_);have hsz:=ax d;refine⟨λb h=>?_,List.Pairwise.cons (λb h=>?_) c.2⟩
 .rcases kq0.1 h with rfl|h
  .rw[ab];omega
  have:=c.1 b h;omega
 have:=c.1 b h;rw[ab];omega
theorem cb(h:ag ws=0):(∀b∈aa ws,∃a:Nat,b=bkAt ws a/\128<=a/\a%2=0/\a<ws.length/\stands ws a=true)/\(aa ws).Pairwise (λa b=>a.at_<b.at_):=by obtain⟨h1,l,c,h3,j⟩:=al h;rw[j];refine⟨λb d=>?_,(ld _ _ c).2⟩;obtain⟨k,e,rfl⟩:=kqv d;obtain⟨a,g,m,e3,f,i,-⟩:=bC _ _ c (by omega) k e;exact⟨a,g,by omega,m,f,i⟩
theorem pd(h:aF ws=0)(ha:Rch ws a):∃b∈aa ws,b=bkAt ws a/\b.kind=1/\eg ws a:=by obtain⟨g,h2,f⟩:=av h;obtain⟨c,-⟩:=gO g (f a ha);obtain⟨k,d,e,-⟩:=c.2.2.2.2.2.2;exact⟨_,kqs d,e,by rw[e];exact c.2.2.2.2.1,c⟩
noncomputable def cE (ws:List Nat) (b:Bk):Bool:=(seenL ws)[b.at_.toNat]?.getD false
theorem cY(h:a<ws.length):cE ws (bkAt ws a)=true↔Rch ws a:=by unfold cE;rw[ab,kqj];exact kE h
theorem xo(h:aF ws=0)(hb:b∈aa ws)(hk:di (seenL ws) b=false):b.kind=1:=by
 obtain⟨f,-,-⟩:=av h;obtain⟨a,rfl,a1,a2,m,a4⟩:=(cb f).1 b hb;cases d:(bkAt ws a).mark with
 | true =>obtain⟨_,l,k,-,i⟩:=al f;rw[i] at hb;exact iR k (by omega) _ hb d
 | false =>
  have g:cE ws (bkAt ws a)=true:=by
   unfold di at hk;rw[d] at hk;unfold cE;cases j:(seenL ws)[(bkAt ws a).at_.toNat]?.getD false with
   | true=>rfl
   | false=>rw[j] at hk;exact absurd hk (by decide)
  obtain⟨b',-,e,c,-⟩:=pd h ((cY m).1 g);rw[e] at c;exact c
theorem dS(h:aF ws=0):aN ws=(ku (seenL ws) (aa ws)).map (tH ws (seenL ws)):=by unfold aN;rw[if_pos h]
theorem dN(h:aF ws=0){e:En}(he:e∈aN ws):∃a:Nat,bkAt ws a∈aa ws/\128<=a/\a%2=0/\a<ws.length/\ay (wd ws a)=true/\(ah (wd ws a)).kind=1/\e=⟨(a:Int),fR (wd ws a) (cE ws (bkAt ws a))⟩/\di (seenL ws) (bkAt ws a)=false:=by
 obtain⟨m,-,-⟩:=av h;rw[dS h,kzy] at he;obtain⟨b,f,rfl⟩:=he;have d:=th f;have i:di (seenL ws) b=false:=by
  unfold ku at f;have:=(kzu.1 f).2
  simpa using this
 have c:=xo h d i;obtain⟨a,rfl,k,j,l,g⟩:=(cb m).1 b d;refine⟨a,d,k,j,l,?_,c,rfl,i⟩;unfold stands at g;simp only[kqw] at g;exact g.1
theorem dJ(h:aF ws=0):(aN ws).Pairwise (λa b=>a.a<b.a):=by obtain⟨c,-,-⟩:=av h;rw[dS h,kkw];exact List.Pairwise.filter _ (cb c).2
theorem o0(h:aF ws=0):∀e∈aN ws,e.v<18446744073709551616:=by intro e d;obtain⟨a,-,-,-,-,b,c,rfl,-⟩:=dN h d;exact (ij b c _).2.2.2
theorem zX(h:aF ws=0):Rm ws (aj ws (aN ws)):=by
 refine⟨aE _ _,λi=>?_⟩;by_cases f:∃e∈aN ws,e.a=(i:Int)
 .obtain ⟨e,b,d⟩:=f;obtain⟨a,-,k,g,a3,j,l,rfl,-⟩:=dN h b;have c:a=i:=by dsimp only at d;omega
  subst c;refine .inr ⟨k,g,j,l,cE ws (bkAt ws a),?_⟩;have:=dQ (aN ws) ws (dJ h) _ b (by dsimp only;omega) (by dsimp only;omega);dsimp only at this;rw[kqj] at this;exact this
 exact .inl (bg _ _ _ (λe b m=>f ⟨e,b,m⟩))
theorem kS(h:aF ws=0)(hb:b∈aa ws):(mkB (aj ws (aN ws)) b).mark=cE ws b:=by
 obtain⟨q,-,-⟩:=av h;obtain⟨a,rfl,a1,a2,a3,a4⟩:=(cb q).1 b hb;show qL _ (bkAt ws a).at_.toNat=_;rw[ab,kqj];cases f:di (seenL ws) (bkAt ws a) with
 | false =>
  have g:tH ws (seenL ws) (bkAt ws a)∈aN ws:=by rw[dS h,kzy];refine⟨_,?_,rfl⟩;unfold ku;rw[kzu];exact⟨hb,by rw[f];rfl⟩
  obtain⟨d,-,l,p,m,j,i,e,-⟩:=dN h g;have k:=congrArg En.a e;have:d=a:=by have:((bkAt ws a).at_:Int)=(d:Int):=k;rw[ab] at this;omega
  subst this;have:=dQ (aN ws) ws (dJ h) _ g (by rw[e];dsimp only;omega) (by rw[e];dsimp only;omega);rw[e] at this;dsimp only at this;rw[kqj] at this;unfold qL;rw[this,(ij j i _).2.1]
 | true =>
  have n:wd (aj ws (aN ws)) a=wd ws a:=bg _ _ _ (λe g o=>by
   obtain⟨d,hm,l,p,m,j,i,rfl,c⟩:=dN h g;have:d=a:=by dsimp only at o;omega
   subst this;rw[f] at c;cases c)
  unfold qL;rw[n];unfold di at f;exact kqu.1 f
theorem Cg{l:List Bk}(h:l.Pairwise (λa b=>a.at_<b.at_)):(ed l).Pairwise (· < ·):=by unfold ed;rw[kkw];exact List.Pairwise.filter _ h
theorem yd{l:List Bk}(h:l.Pairwise (λa b=>a.at_<b.at_)):(l.map (mkB xs)).Pairwise (λa b=>a.at_<b.at_):=by rw[kkw];exact h
theorem fZ(h:aF ws=0)(x:Int):x∈dY ws↔∃a:Nat,x=(a:Int)/\a<ws.length/\Rch ws a:=by
 rw[eE h];unfold sZ;rw[kzy];constructor
 .rintro ⟨a,b,rfl⟩;rw[kzu,kzh] at b;exact⟨a,rfl,b.1,(kE b.1).1 b.2⟩
 rintro ⟨a,rfl,c,d⟩;exact⟨a,kzu.2 ⟨kzh.2 c,(kE c).2 d⟩,rfl⟩
theorem yc(h:aF ws=0):(dY ws).Pairwise (· < ·):=by rw[eE h];unfold sZ;rw[kkw];refine List.Pairwise.filter _ ?_;refine List.Pairwise.imp (R:=(· < ·)) (λ{a b} hab=>?_) List.pairwise_lt_range;omega
theorem BT(h:aF ws=0):ed ((aa ws).map (mkB (aj ws (aN ws))))=dY ws:=by
 obtain⟨k,-,h3⟩:=av h;have d:=cb k;refine E5 (Cg (yd d.2)) (yc h) λx=>?_;rw[fZ h];unfold ed;rw[kzy];constructor
 .rintro ⟨c,i,rfl⟩;rw[kzu,kzy] at i;obtain⟨⟨b,e,rfl⟩,f⟩:=i;rw[kS h e] at f;obtain⟨a,rfl,a1,a2,j,a4⟩:=d.1 b e;exact⟨a,ab ws a,j,(cY j).1 f⟩
 rintro ⟨a,rfl,l,g⟩;obtain⟨b,e,rfl,-,-⟩:=pd h g;refine⟨mkB (aj ws (aN ws)) (bkAt ws a),?_,ab ws a⟩;rw[kzu];refine⟨kjb e,?_⟩;rw[kS h e];exact (cY l).2 g
theorem oM(h:aF ws=0):(∀(i:Nat) (x:En),(aN ws)[i]? = some x->128<=x.a/\x.a<(ws.length:Int))/\∀(i:Nat) (x y:En),(aN ws)[i]? = some x->(aN ws)[i+1]? = some y->x.a<y.a:=by
 refine⟨λi x b=>?_,λi x y b d=>?_⟩
 .obtain ⟨a,-,a1,-,a3,-,-,rfl,-⟩:=dN h (List.mem_of_getElem? b);dsimp only;omega
 have c:=dJ h;rw[kzf] at c;obtain⟨j,f⟩:=kzc.1 b;obtain⟨g,e⟩:=kzc.1 d;rw[<-f,<-e];exact c i (i+1) j g (by omega)
theorem gn(ws:List Nat)(a u:Nat):(iG ws a u).length=szAt ws a:=by simp[iG]
theorem B4(l:List Nat):∀(ws:List Nat) (t:Nat),t+l.length<=ws.length->aj ws ((List.range l.length).map λj=>(⟨((t+j:Nat):Int),l[j]?.getD 0⟩:En))=eF ws t l:=by
 induction l with
 | nil=>intro ws t _;rfl
 | cons v l ih =>intro ws t h;simp only[kq3] at h;rw[kq3,List.range_succ_eq_map,kx0,List.map_map];simp only[aj,eF,kz6];rw[if_pos (by omega),kqj,List.getElem?_cons_zero,kq4,<-ih _ (t+1) (by rw[kza];omega)];congr 1;apply kz8;intro j _;simp only[Function.comp];rw[show t+Nat.succ j=t+1+j by omega];simp
theorem wZ(h:u+szAt ws a<=ws.length):aj ws (iG ws a u)=eF ws u (dG ws a):=by rw[<-B4 _ _ _ (by rw[gc];exact h),gc];congr 1;unfold iG;apply kz8;intro j b;rw[jT _ _ _ (kzh.1 b)];rfl
theorem rV(ho:∀x∈ws,x<18446744073709551616)(h:iF { ah (wd ws a) with mark:=false }=true):∀e∈iG ws a u,e.v<18446744073709551616:=by
 intro e b;simp only[iG,kzy] at b;obtain⟨j,-,rfl⟩:=b;dsimp only;split
 .exact po h
 split
 .omega
 exact eX ho _
theorem gh{k:Nat}(h:k<(iG ws a u).length):((iG ws a u)[k]).a=((u+k:Nat):Int):=by simp[iG]
theorem vf:∀ {l:List Bk} {s:Int},(∀b∈l,0<=b.size)->s<=aD l s:=by
 intro l
 induction l with
 | nil=>intro s _;exact kk8 _
 | cons b l ih =>
  intro s h;have h1:=h b (by simp);simp only[aD];split
  .have:=ih (s:=s+b.size) (λc a=>h c (by simp[a]));omega
  exact ih (λc a=>h c (by simp[a]))
theorem sB:∀ {l:List Bk} {s:Int},0<=s->(∀b∈l,0<=b.size)->∀e∈aT l s,(e.v:Int)<=aD l s:=by
 intro l
 induction l with
 | nil=>intro s _ _ e h;simp[aT] at h
 | cons b l ih =>
  intro s hs h e a;have h1:=h b (by simp);have f:∀c∈l,0<=c.size:=λc g=>h c (by simp[g]);have hns:s<=eP b s:=by unfold eP;split<;>omega
  have hge:=vf (l:=l) (s:=eP b s) f;have d:aD (b::l) s=aD l (eP b s):=by simp only[aD,eP];split<;>rfl
  rw[d];simp only[aT,kzt] at a;rcases a with a|a
  .split at a
   .simp only[kq0,kzs,or_false] at a;subst a;show ((br b s:Nat):Int)<=_;unfold br;split<;>omega
   simp at a
  exact ih (by omega) f e a
theorem pN(h:ag x=0):(aG x).length<=1024/\∀e∈aG x,e.v<18446744073709551616:=by
 have j:aG x=aT (aa x) 128:=by unfold aG;rw[if_pos h]
 rw[j];refine⟨kzv (kP _ _) (dl x),λe m=>?_⟩;obtain⟨c,a,d,hs3⟩:=cZ (fa h).2.2.1;have h1:=sB (l:=aa x) (s:=128) (by omega) (λb f=>by
  obtain⟨i,g,rfl⟩:=kqv f;have:=sX (fa h).2.2.1 g;omega) e m
 have k:=gA c (kqb _) a d;rw[kzj] at k;omega
structure Small (n:Nat) (E:List En):Prop where
 pos:1<=E.length
 le:E.length<=32
 inc:E.Pairwise (λa b=>a.a<b.a)
 ins:∀e∈E,(16<=e.a/\e.a<19\/112<=e.a)/\e.a<(n:Int)
 val:∀e∈E,e.v<18446744073709551616
theorem xf(h:l.Pairwise (λa b=>a.a<b.a))(k:Nat):(l.take k).Pairwise (λa b=>a.a<b.a):=h.sublist (kjo k l)
theorem yD(hn:256<=n)(hp:p<4)(h1:l.Pairwise (λa b=>a.a<b.a))(h2:∀e∈l,128<=e.a/\e.a<(n:Int))(h3:∀e∈l,e.v<18446744073709551616):Small n (gE l p):=by
 by_cases h:32<=l.length
 .rw[ce h];refine⟨by rw[kzd];omega,by rw[kzd];omega,xf h1 31,λe c=>?_,λe c=>h3 e (kxq c)⟩;have:=h2 e (kxq c);omega
 rw[gq h];refine⟨by simp,by rw[kq3];omega,List.Pairwise.cons (λe c=>?_) h1,λe c=>?_,λe c=>?_⟩
 .have:=h2 e c;dsimp only;omega
 .rcases kq0.1 c with rfl|c
  .dsimp only;omega
  have:=h2 e c;omega
 rcases kq0.1 c with rfl|c
 .dsimp only;omega
 exact h3 e c
theorem Bq{a:Int}(h:cG ws a=0):∀e∈cr ws a,a<=e.a/\e.a<(ws.length:Int)/\e.v<2048:=by
 obtain⟨f,-,-,-,-,-,o,n,k,g⟩:=gy h;intro e j;obtain⟨r,l,r2,m,r4⟩:=k e j;have b:=dQ (cr ws a) ws g e j (by omega) (by omega);rw[l,kqj] at b;by_cases c:∃i,i<(bK ws a).length/\f i=r
 .obtain ⟨i,d,e2⟩:=c;have:=(o i d).2.1;omega
 have:=n r (λi d p=>c ⟨i,d,p⟩);rw[b] at this;exact absurd this.symm m
theorem ch(h:aw ws=0):cH ws=0/\ak (ws.length:Int)=true/\iP ws=true/\wB (wd ws 16) (wd ws 17) (wd ws 18)=true:=by have a:=(dt (iX h)).1;exact⟨a,cK a⟩
theorem xG(h1:ak (xs.length:Int)=true)(h2:iP xs=true)(h3:wB (wd xs 16) (wd xs 17) (wd xs 18)=true):cH xs=0:=(lW h1 (by rw[h2,h3];rfl)).1
theorem gG(h:∀e∈E,19<=e.a)(hi:i<19):wd (aj ws E) i=wd ws i:=bg _ _ _ λe b=>by have:=h e b;omega
theorem kH(h:Small n E)(h1:19<=i)(h2:i<112):wd (aj ws E) i=wd ws i:=bg _ _ _ λe a=>by have:=(h.ins e a).1;omega
theorem ky(hs:Small ws.length E)(hl:iP ws=true)(h16:wd (aj ws E) 16<=ws.length)(h17:wd (aj ws E) 17<=ws.length)(h18:wd (aj ws E) 18<=ws.length):iP (aj ws E)=true:=by obtain⟨-,e,a,d,c,b⟩:=(aY ws).1 hl;rw[aY,aE];exact⟨⟨h16,h17,h18⟩,by rw[kH hs (by omega) (by omega)];exact e,by rw[kH hs (by omega) (by omega)];exact a,by rw[kH hs (by omega) (by omega)];exact d,by rw[kH hs (by omega) (by omega)];exact c,by rw[kH hs (by omega) (by omega)];exact b⟩
def onW (ws xs:List Nat):Prop:=wd ws 16<=wd xs 16/\(wd xs 16=wd ws 16->wd ws 17<=wd xs 17/\wd ws 18<=wd xs 18)
theorem kc(hj:j<ws.length)(hl:∀e∈l,e.a≠(j:Int)):wd (aj ws (⟨(j:Int),v⟩::l)) j=v:=by rw[fK j v l hj,bg _ _ _ hl];unfold wd;rw[kz3 hj];rfl
theorem pM(hj:j<ws.length)(_hne:i≠j):wd (aj ws (⟨(j:Int),v⟩::l)) i=wd (aj (ws.set j v) l) i:=by rw[fK j v l hj]
theorem du(h:i≠j):wd (ws.set j v) i=wd ws i:=by unfold wd;rw[kxr (by omega)]
theorem fD(hck:aw ws=0)(hp:wd ws 16=p)(hp2:p=1\/p=2)(h1:l.Pairwise (λa b=>a.a<b.a))(h2:∀e∈l,128<=e.a/\e.a<(ws.length:Int))(h3:∀e∈l,e.v<18446744073709551616):
 Small ws.length (gE l (p+1))/\cH (aj ws (gE l (p+1)))=0/\onW ws (aj ws (gE l (p+1)))/\wd (aj ws (gE l (p+1))) 16=(if 32<=l.length then p else p+1)/\wd (aj ws (gE l (p+1))) 17=0/\wd (aj ws (gE l (p+1))) 18=0:=by
 obtain⟨-,o,r,m⟩:=ch hck;have hb:=(af _).1 o;have d:=yD (n:=ws.length) (p:=p+1) (by omega) (by omega) h1 h2 h3;have i:wd ws 17=0/\wd ws 18=0:=by rcases (b8 _ _ _).1 m with h|h|h<;>omega
 have q:wd (aj ws (gE l (p+1))) 16=(if 32<=l.length then p else p+1)/\wd (aj ws (gE l (p+1))) 17=0/\wd (aj ws (gE l (p+1))) 18=0:=by
  by_cases h:32<=l.length
  .rw[ce h,if_pos h];have c:∀e∈l.take 31,19<=e.a:=λe f=>by have:=h2 e (kxq f);omega
   rw[gG c (by omega),gG c (by omega),gG c (by omega)];exact⟨hp,i⟩
  rw[gq h,if_neg h,show (16:Int)=((16:Nat):Int) from rfl];have c:∀e∈l,19<=e.a:=λe f=>by have:=h2 e f;omega
  rw[kc (by omega) (λe f=>by have:=c e f;omega),pM (by omega) (by omega),pM (by omega) (by omega),gG c (by omega),gG c (by omega),du (by omega),du (by omega)];exact⟨rfl,i⟩
 obtain⟨k,j,g⟩:=q;have hle:(if 32<=l.length then p else p+1)<=3/\p<=(if 32<=l.length then p else p+1):=by split<;>omega
 refine⟨d,xG (by rw[aE];exact o) (ky d r (by rw[k];omega) (by rw[j];omega) (by rw[g];omega)) ?_,⟨by rw[k,hp];omega,λ_=>by rw[j,g,i.1,i.2];exact⟨kqb _,kqb _⟩⟩,k,j,g⟩;rw[k,j,g,b8];rcases hp2 with rfl|rfl
 .right;right;split<;>omega
 by_cases h:32<=l.length
 .rw[if_pos h];right;right;omega
 rw[if_neg h];right;left;exact⟨rfl,rfl,.inl rfl⟩
theorem jn{f:Nat}(hck:aw ws=0)(hp:wd ws 16=3)(hf:kU f=true)(hfn:f<=ws.length)(hfw:wd ws 17<=f)(h0:l.length<=31)(h1:l.Pairwise (λa b=>a.a<b.a))(h2:∀e∈l,112<=e.a/\e.a<(ws.length:Int))(h3:∀e∈l,e.v<18446744073709551616):
 Small ws.length (⟨17,f⟩::l)/\cH (aj ws (⟨17,f⟩::l))=0/\onW ws (aj ws (⟨17,f⟩::l))/\wd (aj ws (⟨17,f⟩::l)) 16=3/\wd (aj ws (⟨17,f⟩::l)) 17=f/\wd (aj ws (⟨17,f⟩::l)) 18=0:=by
 obtain⟨-,o,q,n⟩:=ch hck;have hb:=(af _).1 o;have hi:=(aQ f).1 hf;have c:∀e∈l,19<=e.a:=λe d=>by have:=h2 e d;omega
 have i:wd ws 18=0:=by rcases (b8 _ _ _).1 n with h|h|h<;>omega
 have g:Small ws.length (⟨17,f⟩::l):=by
  refine⟨by simp,by rw[kq3];omega,List.Pairwise.cons (λe d=>?_) h1,λe d=>?_,λe d=>?_⟩
  .have:=c e d;dsimp only;omega
  .rcases kq0.1 d with rfl|d
   .dsimp only;omega
   have:=h2 e d;omega
  rcases kq0.1 d with rfl|d
  .dsimp only;omega
  exact h3 e d
 have p:wd (aj ws (⟨17,f⟩::l)) 16=3/\wd (aj ws (⟨17,f⟩::l)) 17=f/\wd (aj ws (⟨17,f⟩::l)) 18=0:=by rw[show (17:Int)=((17:Nat):Int) from rfl];rw[pM (by omega) (by omega),kc (by omega) (λe d=>by have:=c e d;omega),pM (by omega) (by omega),gG c (by omega),gG c (by omega),du (by omega),du (by omega)];exact⟨hp,rfl,i⟩
 obtain⟨m,k,j⟩:=p;refine⟨g,xG (by rw[aE];exact o) (ky g q (by rw[m];omega) (by rw[k];omega) (by rw[j];omega)) ?_,⟨by rw[m,hp];exact kqb _,λ_=>by rw[k,j,i];exact⟨hfw,kqb _⟩⟩,m,k,j⟩;rw[m,k,j,b8];right;left;exact⟨rfl,rfl,.inr hf⟩
theorem gu(hck:aw ws=0)(hp:wd ws 16=3):Small ws.length bG/\cH (aj ws bG)=0/\onW ws (aj ws bG)/\wd (aj ws bG) 16=4/\wd (aj ws bG) 17=128/\wd (aj ws bG) 18=128:=by
 obtain⟨-,g,j,hph⟩:=ch hck;have hb:=(af _).1 g;have b:Small ws.length bG:=by
  refine⟨by decide,by decide,by unfold bG;simp,λe a=>?_,λe a=>?_⟩
  .unfold bG at a;simp only[kq0,kzs,or_false] at a;rcases a with rfl|rfl|rfl<;>(dsimp only;omega)
  unfold bG at a;simp only[kq0,kzs,or_false] at a;rcases a with rfl|rfl|rfl<;>(dsimp only;omega)
 have i:wd (aj ws bG) 16=4/\wd (aj ws bG) 17=128/\wd (aj ws bG) 18=128:=by
  unfold bG;rw[show (16:Int)=((16:Nat):Int) from rfl,show (17:Int)=((17:Nat):Int) from rfl,show (18:Int)=((18:Nat):Int) from rfl];rw[fK 16 _ _ (by omega),fK 17 _ _ (by rw[kza];omega),fK 18 _ _ (by rw[kza,kza];omega)];simp only[aj];refine⟨?_,?_,?_⟩
  .rw[du (by omega),du (by omega)];unfold wd;rw[kz3 (by omega)];rfl
  .rw[du (by omega)];unfold wd;rw[kz3 (by rw[kza];omega)];rfl
  unfold wd;rw[kz3 (by rw[kza,kza];omega)];rfl
 obtain⟨c,f,d⟩:=i;refine⟨b,xG (by rw[aE];exact g) (ky b j (by rw[c];omega) (by rw[f];omega) (by rw[d];omega)) (by rw[c,f,d];decide),⟨by rw[c,hp];omega,λh=>by rw[c,hp] at h;exact absurd h (by decide)⟩,c,f,d⟩
theorem my{f t:Nat}(hck:aw ws=0)(hp:wd ws 16=4)(hf:kU f=true)(ht:kU t=true)(htf:t<=f)(hfn:f<=ws.length)(hfw:wd ws 17<=f)(htw:wd ws 18<=t)(h0:l.length<=30)(h1:l.Pairwise (λa b=>a.a<b.a))(h2:∀e∈l,112<=e.a/\e.a<(ws.length:Int))(h3:∀e∈l,e.v<18446744073709551616):
 Small ws.length (⟨17,f⟩::⟨18,t⟩::l)/\cH (aj ws (⟨17,f⟩::⟨18,t⟩::l))=0/\onW ws (aj ws (⟨17,f⟩::⟨18,t⟩::l))/\wd (aj ws (⟨17,f⟩::⟨18,t⟩::l)) 16=4/\wd (aj ws (⟨17,f⟩::⟨18,t⟩::l)) 17=f/\wd (aj ws (⟨17,f⟩::⟨18,t⟩::l)) 18=t:=by
 obtain⟨-,k,n,hph⟩:=ch hck;have hb:=(af _).1 k;have hi:=(aQ f).1 hf;have hj:=(aQ t).1 ht;have d:∀e∈l,19<=e.a:=λe c=>by have:=h2 e c;omega
 have g:Small ws.length (⟨17,f⟩::⟨18,t⟩::l):=by
  refine⟨by simp,by rw[kq3,kq3];omega,List.Pairwise.cons (λe c=>?_) (List.Pairwise.cons (λe c=>?_) h1),λe c=>?_,λe c=>?_⟩
  .rcases kq0.1 c with rfl|c
   .dsimp only;omega
   have:=d e c;dsimp only;omega
  .have:=d e c;dsimp only;omega
  .rcases kq0.1 c with rfl|c
   .dsimp only;omega
   rcases kq0.1 c with rfl|c
   .dsimp only;omega
   have:=h2 e c;omega
  rcases kq0.1 c with rfl|c
  .dsimp only;omega
  rcases kq0.1 c with rfl|c
  .dsimp only;omega
  exact h3 e c
 have m:wd (aj ws (⟨17,f⟩::⟨18,t⟩::l)) 16=4/\wd (aj ws (⟨17,f⟩::⟨18,t⟩::l)) 17=f/\wd (aj ws (⟨17,f⟩::⟨18,t⟩::l)) 18=t:=by
  rw[show (17:Int)=((17:Nat):Int) from rfl,show (18:Int)=((18:Nat):Int) from rfl];rw[fK 17 _ _ (by omega),fK 18 _ _ (by rw[kza];omega),gG d (by omega),gG d (by omega),gG d (by omega)];refine⟨?_,?_,?_⟩
  .rw[du (by omega),du (by omega)];exact hp
  .rw[du (by omega)];unfold wd;rw[kz3 (by omega)];rfl
  unfold wd;rw[kz3 (by rw[kza];omega)];rfl
 obtain⟨j,i,h⟩:=m;refine⟨g,xG (by rw[aE];exact k) (ky g n (by rw[j];omega) (by rw[i];omega) (by rw[h];omega)) ?_,⟨by rw[j,hp];exact kqb _,λ_=>by rw[i,h];exact⟨hfw,htw⟩⟩,j,i,h⟩;rw[j,i,h,b8];left;exact⟨rfl,hf,ht,htf⟩
theorem nb{α:Type}{p q:α->Bool}:∀ {l:List α},(∀b∈l,q b=true->p b=true)->(l.filter q).length<=(l.filter p).length/\((∃b∈l,p b=true/\q b=false)->(l.filter q).length<(l.filter p).length):=by
 intro l
 induction l with
 | nil=>intro _;exact⟨kqb _,λ⟨b,d,_⟩=>by simp at d⟩
 | cons b l ih =>
  intro h;obtain⟨i1,i⟩:=ih (λc a=>h c (by simp[a]));have d:=h b (by simp);rw[kx6,kx6];refine⟨?_,λ⟨c,a,g,f⟩=>?_⟩
  .cases e:q b with
   | true=>rw[d e];simp;omega
   | false=>cases j:p b<;>simp<;>omega
  rcases kq0.1 a with rfl|a
  .rw[g,f];simp;omega
  have:=i ⟨c,a,g,f⟩;cases e:q b with
  | true=>rw[d e];simp;omega
  | false=>cases j:p b<;>simp<;>omega
theorem ip(h:aF ws=0)(hs:E.Sublist (aN ws)):Rm ws (aj ws E):=by
 have j:E.Pairwise (λa b=>a.a<b.a):=(dJ h).sublist hs;refine⟨aE _ _,λi=>?_⟩;by_cases g:∃e∈E,e.a=(i:Int)
 .obtain ⟨e,c,f⟩:=g;obtain⟨a,-,m,k,a3,l,n,rfl,-⟩:=dN h (hs.subset c);have d:a=i:=by dsimp only at f;omega
  subst d;refine .inr ⟨m,k,l,n,cE ws (bkAt ws a),?_⟩;have:=dQ E ws j _ c (by dsimp only;omega) (by dsimp only;omega);dsimp only at this;rw[kqj] at this;exact this
 exact .inl (bg _ _ _ (λe c o=>g ⟨e,c,o⟩))
theorem tS(h:aF ws=0)(h32:32<=(aN ws).length):aF (aj ws ((aN ws).take 31))=0/\(aN (aj ws ((aN ws).take 31))).length<(aN ws).length:=by
 have c:((aN ws).take 31).Sublist (aN ws):=kjo _ _;have p:((aN ws).take 31).Pairwise (λa b=>a.a<b.a):=(dJ h).sublist c;obtain⟨F,g2,H,g4,G⟩:=(ip h c).same h;refine⟨F,?_⟩;rw[dS F,H,G,kzl,dS h,kzl];rw[<-dS h];obtain⟨x,v⟩:=xq (aj ws ((aN ws).take 31));rw[v];unfold ku;rw[List.filter_map,kzl];have g:=cb (av h).1;have w:∀b∈aa ws,(∀e∈(aN ws).take 31,e.a≠b.at_)->(mkB x b).mark=b.mark:=by intro b t A;obtain⟨a,rfl,a1,a2,a3,a4⟩:=g.1 b t;show qL x (bkAt ws a).at_.toNat=_;rw[ab,kqj];unfold qL;rw[<-v,bg _ _ _ (λe m=>by have:=A e m;rwa [ab] at this)];rfl
 refine (nb (λb t l=>?_)).2 ?_
 .dsimp only[Function.comp_apply] at l |-;cases z:di (seenL ws) b with
  | false=>rfl
  | true =>
   exfalso;have r:=w b t (λe m C=>by
    obtain⟨a,r,I,K,J,s,n,rfl,d⟩:=dN h (c.subset m);dsimp only at C;have:bkAt ws a=b:=by
     have u:=g.2;rw[kzf] at u;obtain⟨i,E,k⟩:=kqv r;obtain⟨j,B,D⟩:=kqv t;have h3:(aa ws)[i].at_=(aa ws)[j].at_:=by rw[k,D,ab];exact C
     rcases kjp i j with o|o|o
     .have:=u i j E B o;omega
     .subst o;rw[<-k,<-D]
     have:=u j i B E o;omega
    rw[this,z] at d;cases d)
   unfold di at z l;rw[r] at l
   change (!(b.mark==((seenL ws)[b.at_.toNat]?.getD false)))=true at l
   rw[z] at l;exact absurd l (by decide)
 have q:0<((aN ws).take 31).length:=by rw[kzd];omega
 have m:=kqs q;obtain⟨a,r,I,K,J,s,n,k,d⟩:=dN h (c.subset m);refine⟨bkAt ws a,r,by rw[d];rfl,?_⟩;dsimp only[Function.comp_apply];have f:=dQ _ ws p _ m (by rw[k];dsimp only;omega) (by rw[k];dsimp only;omega);rw[k] at f;dsimp only at f;rw[kqj,v] at f;unfold di;show (!((mkB x (bkAt ws a)).mark==((seenL ws)[(bkAt ws a).at_.toNat]?.getD false)))=false;have y:(mkB x (bkAt ws a)).mark=cE ws (bkAt ws a):=by show qL x (bkAt ws a).at_.toNat=_;rw[ab,kqj];unfold qL;rw[f,(ij s n _).2.1]
 rw[y];unfold cE;simp
structure Ev (ws xs:List Nat):Prop where
 len:xs.length=ws.length
 at_:∀i,(i%2=0/\96<=i\/96<=i/\i<128)->wd xs i=wd ws i
def nxB (xs:List Nat) (b:Bk):Bk:={ b with next:=wd xs (b.at_.toNat+1) }
section
variable {ws xs:List Nat}
theorem Ev.stands(h:Ev ws xs)(hi:i%2=0)(h96:96<=i):stands xs i=stands ws i:=by unfold Proofs.YtpcajamacpbjcaaGreat.stands;rw[h.at_ i (.inl ⟨hi,h96⟩),h.len]
theorem Ev.bkAt(h:Ev ws xs)(hi:i%2=0)(h96:96<=i):bkAt xs i=nxB xs (bkAt ws i):=by
 unfold nxB;have a:(Proofs.YtpcajamacpbjcaaGreat.bkAt ws i).at_.toNat=i:=by rw[ab,kqj]
 rw[a];unfold Proofs.YtpcajamacpbjcaaGreat.bkAt;rw[h.at_ i (.inl ⟨hi,h96⟩)]
theorem Ev.blocks(h:Ev ws xs):∀i l,blocks ws i=some l->i%2=0->96<=i->blocks xs i=some (l.map (nxB xs)):=by
 refine dr (λi l=>i%2=0->96<=i->Proofs.YtpcajamacpbjcaaGreat.blocks xs i=some (l.map (nxB xs))) (λi a _ _=>?_) (λi l a e hb b d c=>?_)
 .exact aC (by rw[h.len];exact a)
 have hsz:=ax e;have b:=b (by omega) (by omega);have f:szAt xs i=szAt ws i:=by unfold szAt;rw[h.at_ i (.inl ⟨d,c⟩)]
 rw[aO (by rw[h.len];exact a) (by rw[h.stands d c];exact e),f,b,h.bkAt d c];rfl
theorem Em(h:Ev ws xs)(hb:b.kind=1->tyA b+1<128):dA xs (nxB xs b)=dA ws b:=by
 by_cases a:b.kind=1
 .have c:=hb a;have d:96<=tyA b:=by unfold tyA;omega
  unfold dA db;show (b.kind != 1||(bE (wd xs (tyA b)) (wd xs (tyA b+1))&&b.size==((aX (wd xs (tyA b)%256):Nat):Int)))=_;rw[h.at_ _ (.inr ⟨d,by omega⟩),h.at_ _ (.inr ⟨by omega,c⟩)]
 rw[d6 a,d6 (b:=nxB xs b) a]
theorem Ev.heap(h:Ev ws xs)(h0:ag ws=0):ag xs=0/\aa xs=(aa ws).map (nxB xs):=by obtain⟨g,l,d,c,f⟩:=al h0;have e:=h.blocks 128 l d (by omega) (by omega);rw[f];refine fT (by rw[h.len];exact g) e ?_;rw[List.all_map,kzq];rw[kzq] at c;intro b a;show dA xs (nxB xs b)=true;rw[Em h (iO d (by omega) b a)];exact c b a
end
theorem fY:∀ {l:List Bk} {s:Int} {e:En},e∈aT l s->∃b∈l,b.kind=1/\e.a=b.at_+1:=by
 intro l
 induction l with
 | nil=>intro s e h;simp[aT] at h
 | cons x l ih =>
  intro s e h;simp only[aT,kzt] at h;rcases h with h|h
  .split at h
   .rename_i hx;rw[kq7] at h;subst h;exact⟨x,by simp,hx.1,rfl⟩
   simp at h
  obtain⟨b,d,c⟩:=ih h;exact⟨b,by simp[d],c⟩
theorem Ba :∀ {l:List Bk} {s:Int},l.Pairwise (λa b=>a.at_<b.at_)->(∀b∈l,0<=b.at_)->(∀b∈l,b.kind=1->wd xs (b.at_.toNat+1)=b.next\/∃e∈aT l s,e.a=b.at_+1/\wd xs (b.at_.toNat+1)=e.v) ->
 (aT (l.map (nxB xs)) s).length<=(aT l s).length/\((∃e∈aT l s,wd xs e.a.toNat=e.v)->(aT (l.map (nxB xs)) s).length<(aT l s).length):=by
 intro l
 induction l with
 | nil=>intro s _ _ _;exact⟨kqb _,λ⟨e,d,_⟩=>by simp[aT] at d⟩
 | cons b l ih =>
  intro s q u w;rw[kj9] at q;have i:∀c∈l,c.kind=1->wd xs (c.at_.toNat+1)=c.next\/∃e∈aT l (eP b s),e.a=c.at_+1/\wd xs (c.at_.toNat+1)=e.v:=by
   intro c g m;rcases w c (by simp[g]) m with k|⟨e,d,r,t⟩
   .exact .inl k
   simp only[aT,kzt] at d;rcases d with d|d
   .split at d
    .rw[kq7] at d;subst d;dsimp only at r;have:=q.1 c g;omega
    simp at d
   exact .inr ⟨e,d,r,t⟩
  obtain⟨i1,y⟩:=ih (s:=eP b s) q.2 (λc g=>u c (by simp[g])) i;have hb0:=u b (by simp);rw[kx0];simp only[aT];have x:eP (nxB xs b) s=eP b s:=rfl;have z:br (nxB xs b) s=br b s:=rfl;rw[x,z,kqz,kqz];have p:(nxB xs b).next=wd xs (b.at_.toNat+1):=rfl;have o:(nxB xs b).kind=b.kind:=rfl;have n:(nxB xs b).at_=b.at_:=rfl;have j:b.kind=1->wd xs (b.at_.toNat+1)=b.next\/wd xs (b.at_.toNat+1)=br b s:=by
   intro m;rcases w b (by simp) m with k|⟨e,d,r,t⟩
   .exact .inl k
   simp only[aT,kzt] at d;rcases d with d|d
   .split at d
    .rw[kq7] at d;subst d;exact .inr t
    simp at d
   obtain⟨c,g,-,h4⟩:=fY d;have:=q.1 c g;omega
  have hle:(if (nxB xs b).kind=1/\(nxB xs b).next≠br b s then [(⟨(nxB xs b).at_+1,br b s⟩:En)] else []).length<=(if b.kind=1/\b.next≠br b s then [(⟨b.at_+1,br b s⟩:En)] else []).length:=by
   rw[p,o,n];by_cases m:b.kind=1
   .rcases j m with k|k
    .rw[k];exact kqb _
    rw[if_neg (λh=>h.2 k)];exact kqx _
   rw[if_neg (λh=>m h.1)];exact kqx _
  refine⟨by omega,λ⟨e,d,f⟩=>?_⟩;rcases kzt.1 d with d|d
  .split at d
   .rename_i g;rw[kq7] at d;subst d;dsimp only at f;have A:(b.at_+1).toNat=b.at_.toNat+1:=by omega
    rw[A] at f;rw[p,o,n,if_neg (λh=>h.2 f),if_pos g];simp only[kxc,kq3];omega
   simp at d
  have:=y ⟨e,d,f⟩;omega
noncomputable def stM (ws:List Nat):Nat:=if wd ws 16=1 then (aN ws).length+1 else if wd ws 16=2 then (aG ws).length+1 else ws.length+1-wd ws 17
theorem nY :∀k a,ws.length-a<=k->a<=ws.length->(iK ws a).1=0->iK ws a=(0,bG)\/∃m:Nat,128<=m/\a<=m/\m%2=0/\2<=szAt ws m/\szAt ws m%2=0/\m+szAt ws m<=ws.length/\cG ws (m:Int)=0/\iK ws a=(0,⟨17,m+szAt ws m⟩::cr ws (m:Int)):=by
 intro k
 induction k with
 | zero =>
  intro a x u h;by_cases b:bp ws (a:Int)=0
  .obtain ⟨r,n,z,m,e,l,g,j,f,i,-⟩:=eK b;omega
  exact .inl (iu b)
 | succ k ih =>
  intro a x u h;by_cases b:bp ws (a:Int)=0
  .obtain ⟨r,n,z,m,e,l,g,j,f,i,-⟩:=eK b;by_cases d:bK ws (m:Int)=[]
   .have t:=iZ b e d;rw[t] at h |-;rcases ih (m+szAt ws m) (by omega) (by omega) h with A|⟨q,B,q2,p,v,w,o,s,y⟩
    .exact .inl A
    exact .inr ⟨q,B,by omega,p,v,w,o,s,y⟩
   by_cases c:cG ws (m:Int)=0
   .exact .inr ⟨m,by omega,l,g,j,f,i,c,mC b e d c⟩
   rw[pA b e d c] at h;exact absurd h c
  exact .inl (iu b)
theorem qv(h:ag x=0):aG x=aT (aa x) 128:=by unfold aG;rw[if_pos h]
theorem nT(h:ag ws=0):(aG ws).Pairwise (λa b=>a.a<b.a)/\(∀e∈aG ws,128<=e.a/\e.a<(ws.length:Int))/\(∀e∈aG ws,e.v<18446744073709551616):=by
 have d:aG ws=aT (aa ws) 128:=by unfold aG;rw[if_pos h]
 obtain⟨_,l,f,-,c⟩:=al h;refine⟨?_,λe g=>?_,(pN h).2⟩
 .rw[d,c];exact z9 _ _ f 128
 rw[d,c] at g;have:=oT _ _ f 128 e g;omega
theorem EC(h:ag ws=0)(h32:32<=(aG ws).length):ag (aj ws ((aG ws).take 31))=0/\(aG (aj ws ((aG ws).take 31))).length<(aG ws).length:=by
 obtain⟨y,z,i3⟩:=nT h;have r:aG ws=aT (aa ws) 128:=by unfold aG;rw[if_pos h]
 have d:=cb h;have c:((aG ws).take 31).Sublist (aG ws):=kjo _ _;have g:((aG ws).take 31).Pairwise (λa b=>a.a<b.a):=y.sublist c;have j:∀e∈aG ws,∃a:Nat,e.a=((a+1:Nat):Int)/\a%2=0/\128<=a:=by intro e f;rw[r] at f;obtain⟨b,k,-,A⟩:=fY f;obtain⟨a,rfl,p,t,-⟩:=d.1 b k;exact⟨a,by rw[A,ab];rfl,t,p⟩
 have u:Ev ws (aj ws ((aG ws).take 31)):=by refine⟨aE _ _,λi hi=>bg _ _ _ λe f w=>?_⟩;obtain⟨a,o,p,t⟩:=j e (c.subset f);omega
 obtain⟨x,C⟩:=u.heap h;refine⟨x,?_⟩;have q:aG (aj ws ((aG ws).take 31))=aT ((aa ws).map (nxB (aj ws ((aG ws).take 31)))) 128:=by rw[qv x,C]
 rw[q];have n:=Ba (xs:=aj ws ((aG ws).take 31)) (l:=aa ws) (s:=128) d.2 (λb k=>by obtain⟨a,rfl,-⟩:=d.1 b k;rw[ab];omega) (λb k hk=>by
  obtain⟨a,rfl,p,t,a3,B⟩:=d.1 b k;have hsz:=ax B;rw[ab,kqj];by_cases v:∃e∈(aG ws).take 31,e.a=((a+1:Nat):Int)
  .obtain ⟨e,f,o⟩:=v;refine .inr ⟨e,by rw[<-r];exact c.subset f,by rw[o];omega,?_⟩;have:=dQ _ ws g e f (by omega) (by omega);rw[o,kqj] at this;exact this
  exact .inl (by rw[bg _ _ _ (λe f w=>v ⟨e,f,w⟩)];rfl))
 rw[<-r] at n;refine n.2 ?_;have m:0<((aG ws).take 31).length:=by rw[kzd];omega
 have f:=kqs m;have hin:=z _ (c.subset f);exact⟨_,c.subset f,dQ _ ws g _ f (by omega) (by omega)⟩
theorem lI(ho:∀x∈ws,x<18446744073709551616)(h:(ac ws).1=0):aw ws=0/\Small ws.length (ac ws).2/\cH (aj ws (ac ws).2)=0/\onW ws (aj ws (ac ws).2)/\(wd (aj ws (ac ws).2) 16=wd ws 16->stM (aj ws (ac ws).2)<stM ws)/\(1<=wd ws 16/\wd ws 16<=4)/\wd (aj ws (ac ws).2) 16<=wd ws 16+1/\(wd ws 16=4->wd (aj ws (ac ws).2) 16=4):=by
 have c:aw ws=0:=by
  by_cases d:aw ws=0
  .exact d
  unfold ac at h;rw[if_neg d] at h;exact absurd h d
 obtain⟨-,hs,hl,P⟩:=ch c;have hb:=(af _).1 hs;obtain⟨⟨l1,l2,l3⟩,-⟩:=(aY ws).1 hl;by_cases p:wd ws 16=1
 .have w:aF ws=0:=by
   by_cases d:aF ws=0
   .exact d
   unfold ac at h;rw[if_pos c,if_pos p,if_neg d] at h;exact absurd h d
  have e:ac ws=(0,gE (aN ws) 2):=by unfold ac;rw[if_pos c,if_pos p,if_pos w]
  rw[e];dsimp only;obtain⟨Q,r2⟩:=oM w;obtain⟨y,s,q,o,D,H⟩:=fD c p (.inl rfl) (dJ w) (λx hx=>by
   obtain⟨i,Z⟩:=kjv.1 hx;exact Q i x Z) (o0 w)
  simp only[Nat.reduceAdd] at y s q o D H;refine⟨c,y,s,q,λg=>?_,by omega,by rw[o];split<;>omega,λg=>by omega⟩;have r:32<=(aN ws).length:=by
   rw[o] at g;split at g
   .assumption
   omega
  have hd:=(tS w r).2;rw[p] at g;unfold stM;rw[if_pos g,if_pos p,ce r];omega
 by_cases A:wd ws 16=2
 .have F:ag ws=0:=by
   by_cases d:ag ws=0
   .exact d
   unfold ac at h;rw[if_pos c,if_neg p,if_pos A,if_neg d] at h;exact absurd h d
  have e:ac ws=(0,gE (aG ws) 3):=by unfold ac;rw[if_pos c,if_neg p,if_pos A,if_pos F]
  rw[e];dsimp only;obtain⟨Q,r2,r3⟩:=nT F;obtain⟨y,s,q,o,D,H⟩:=fD c A (.inr rfl) Q r2 r3;simp only[Nat.reduceAdd] at y s q o D H;refine⟨c,y,s,q,λg=>?_,by omega,by rw[o];split<;>omega,λg=>by omega⟩;have r:32<=(aG ws).length:=by
   rw[o] at g;split at g
   .assumption
   omega
  have hd:=(EC F r).2;rw[A] at g;unfold stM;rw[if_neg (by omega),if_pos g,if_neg p,if_pos A,ce r];omega
 by_cases K:wd ws 16=3
 .have e:ac ws=dp ws:=by unfold ac;rw[if_pos c,if_neg p,if_neg A,if_pos K]
  rw[e] at h |-;have I:∀(f:Nat) (l:List En),dp ws=(0,⟨17,f⟩::l)->kU f=true->f<=ws.length->wd ws 17<f->l.length<=31->l.Pairwise (λa b=>a.a<b.a)->(∀e∈l,112<=e.a/\e.a<(ws.length:Int))->(∀e∈l,e.v<18446744073709551616) ->
   aw ws=0/\Small ws.length (dp ws).2/\cH (aj ws (dp ws).2)=0/\onW ws (aj ws (dp ws).2)/\(wd (aj ws (dp ws).2) 16=wd ws 16->stM (aj ws (dp ws).2)<stM ws)/\(1<=wd ws 16/\wd ws 16<=4)/\wd (aj ws (dp ws).2) 16<=wd ws 16+1/\(wd ws 16=4->wd (aj ws (dp ws).2) 16=4):=by
   intro f l B f1 f2 f3 f4 f5 f6 f7;rw[B];dsimp only;obtain⟨y,s,q,o,D,H⟩:=jn c K f1 f2 (by omega) f4 f5 f6 f7;refine⟨c,y,s,q,λg=>?_,by omega,by rw[o];omega,λg=>by omega⟩;unfold stM;rw[o,if_neg (by decide),if_neg (by decide),if_neg p,if_neg A,aE,D];omega
  by_cases z:wd ws 17=0
  .have J:dm ws=0:=by
    by_cases d:dm ws=0
    .exact d
    unfold dp at h;rw[if_pos z,if_neg d] at h;exact absurd h d
   have B:dp ws=(0,⟨17,128⟩::dd ws):=by unfold dp;rw[if_pos z,if_pos J]
   obtain⟨-,-,-,-,-,-,-,X,q2,q3,-⟩:=jE J;exact I 128 (dd ws) B (by decide) (by omega) (by omega) (by omega) q2 (λe C=>by have:=(X e C).1;omega) (λe C=>(X e C).2)
  have B:dp ws=iK ws (wd ws 17):=by unfold dp;rw[if_neg z]
  have h':(iK ws (wd ws 17)).1=0:=by rw[<-B];exact h
  rcases nY ws.length (wd ws 17) (by omega) l2 h' with M|⟨m,m1,m2,m3,m4,m5,T,R,U⟩
  .rw[B,M];dsimp only;obtain⟨y,s,q,o,D,H⟩:=gu c K;exact⟨c,y,s,q,λg=>by rw[o] at g;omega,by omega,by rw[o];omega,λg=>by omega⟩
  obtain⟨f,-,-,-,-,q5,-,-,-,q9⟩:=gy R;have q6:=Bq R;exact I (m+szAt ws m) (cr ws (m:Int)) (by rw[B,U]) ((aQ _).2 (by omega)) T (by omega) (by omega) q9 (λe C=>by have:=q6 e C;omega) (λe C=>by have:=q6 e C;omega)
 by_cases S:wd ws 16=4
 .have e:ac ws=eO ws:=by unfold ac;rw[if_pos c,if_neg p,if_neg A,if_neg K,if_pos S]
  rw[e] at h |-;have G:bp ws ((wd ws 17:Nat):Int)=0:=by
   by_cases d:bp ws ((wd ws 17:Nat):Int)=0
   .exact d
   unfold eO at h;rw[if_neg d] at h;exact absurd h (by decide)
  obtain⟨-,a1,a2,m,Y,m1,m2,m3,m4,m5,T,R,U,-⟩:=eK G;have E:eW ws (m:Int) ((wd ws 18:Nat):Int)=0:=by
   by_cases d:eW ws (m:Int) ((wd ws 18:Nat):Int)=0
   .exact d
   unfold eO at h;rw[if_pos G,Y,ab,if_neg d] at h;exact absurd h d
  have B:eO ws=(0,⟨17,m+szAt ws m⟩::⟨18,wd ws 18+szAt ws m⟩::iG ws m (wd ws 18)):=by unfold eO;rw[if_pos G,Y,ab,if_pos E,aP,show ((m:Int)+((szAt ws m:Nat):Int)).toNat=m+szAt ws m by omega,show (((wd ws 18:Nat):Int)+((szAt ws m:Nat):Int)).toNat=wd ws 18+szAt ws m by omega];unfold jH;rw[if_pos E,kqj,kqj]
  obtain⟨a,u,n,V,W,en,n2,n10,hu,hua,han,hst,hlv,-,-,O⟩:=fg E;have V:a=m:=by omega
  have W:u=wd ws 18:=by omega
  subst V W;subst en;have N:=(b8 _ _ _).1 P;have L:kU (wd ws 17)=true/\kU (wd ws 18)=true/\wd ws 18<=wd ws 17:=by
   rcases N with M|M|M
   .exact M.2
   .omega
   omega
  have i1:=(aQ _).1 L.1;have i2:=(aQ _).1 L.2.1;rw[B];dsimp only;obtain⟨y,s,q,o,D,H⟩:=my (f:=a+szAt ws a) (t:=wd ws 18+szAt ws a) (l:=iG ws a (wd ws 18)) c S ((aQ _).2 (by omega)) ((aQ _).2 (by omega)) (by omega) (by omega) (by omega) (by omega) (by rw[gn];omega) (by
   rw[kzf];intro i j Z hj hij;rw[gh,gh];omega) (λe C=>by
   obtain⟨k,hk,rfl⟩:=kqv C;rw[gh];rw[gn] at hk;omega) (rV ho O)
  refine⟨c,y,s,q,λg=>?_,by omega,by rw[o];omega,λg=>o⟩;unfold stM;rw[o,if_neg (by decide),if_neg (by decide),if_neg p,if_neg A,aE,D];omega
 have e:ac ws=(6,[]):=by unfold ac;rw[if_pos c,if_neg p,if_neg A,if_neg K,if_neg S]
 rw[e] at h;exact absurd h (by decide)
noncomputable def nV (p:Nat):Nat->List Nat->Int × List (List En) × List Nat
 | 0,x=>(0,[],x)
 | f+1,x=>if wd x 16=p then (if (ac x).1=6 then (0,[],x) else if (ac x).1=0 then
  (if (nV p f (aj x (ac x).2)).1=0 then (0,(ac x).2::(nV p f (aj x (ac x).2)).2.1,(nV p f (aj x (ac x).2)).2.2) else ((nV p f (aj x (ac x).2)).1,[],[]))
  else ((ac x).1,[],[])) else (0,[],x)
noncomputable def mzS (p:Nat) (x:List Nat):Nat:=if wd x 16=p then stM x+1 else 0
theorem dy(ho:∀x∈ws,x<18446744073709551616)(h:(ac ws).1=0):∀x∈aj ws (ac ws).2,x<18446744073709551616:=sj _ _ ho (lI ho h).2.1.val
theorem fL(ho:∀v∈x,v<18446744073709551616)(hp:wd x 16=p)(h:(ac x).1=0):mzS p (aj x (ac x).2)<mzS p x:=by
 unfold mzS;rw[if_pos hp];split
 .rename_i h1;have:=(lI ho h).2.2.2.2.1 (by rw[h1,hp]);omega
 omega
theorem wK :∀ {f g:Nat} {x:List Nat},(∀v∈x,v<18446744073709551616)->mzS p x<=f->mzS p x<=g->nV p f x=nV p g x:=by
 have i:∀n,∀f g x,(∀v∈x,v<18446744073709551616)->mzS p x<=n->mzS p x<=f->mzS p x<=g->nV p f x=nV p g x:=by
  intro n
  induction n with
  | zero =>
   intro f g x b d c e;have a:¬ wd x 16=p:=λa=>by unfold mzS at d;rw[if_pos a] at d;omega
   cases f with
   | zero =>
    cases g with
    | zero=>rfl
    | succ g=>simp only[nV];rw[if_neg a]
   | succ f =>
    cases g with
    | zero=>simp only[nV];rw[if_neg a]
    | succ g=>simp only[nV];rw[if_neg a,if_neg a]
  | succ n ih =>
   intro f g x b d c e;by_cases a:wd x 16=p
   .have h1:0<mzS p x:=by unfold mzS;rw[if_pos a];omega
    obtain⟨f,rfl⟩:∃f',f=f'+1:=⟨f-1,by omega⟩;obtain⟨g,rfl⟩:∃g',g=g'+1:=⟨g-1,by omega⟩;simp only[nV];by_cases h:(ac x).1=0
    .have hd:=fL b a h;rw[ih f g (aj x (ac x).2) (dy b h) (by omega) (by omega) (by omega)]
    simp only[h,if_false]
   cases f with
   | zero =>
    cases g with
    | zero=>rfl
    | succ g=>simp only[nV];rw[if_neg a]
   | succ f =>
    cases g with
    | zero=>simp only[nV];rw[if_neg a]
    | succ g=>simp only[nV];rw[if_neg a,if_neg a]
 intro f g x b c e;exact i _ f g x b (kqb _) c e
noncomputable def dh (p:Nat) (x:List Nat):Int × List (List En) × List Nat:=nV p (mzS p x) x
theorem cM(h:wd x 16≠p):dh p x=(0,[],x):=by unfold dh mzS;rw[if_neg h];rfl
theorem kJ(hp:wd x 16=p)(h:(ac x).1=6):dh p x=(0,[],x):=by unfold dh mzS;rw[if_pos hp];simp only[nV];rw[if_pos hp,if_pos h]
theorem oZ(hp:wd x 16=p)(h:(ac x).1≠6)(h2:(ac x).1≠0):dh p x=((ac x).1,[],[]):=by unfold dh mzS;rw[if_pos hp];simp only[nV];rw[if_pos hp,if_neg h,if_neg h2]
theorem dH(ho:∀v∈x,v<18446744073709551616)(hp:wd x 16=p)(h:(ac x).1=0):dh p x=(if (dh p (aj x (ac x).2)).1=0 then (0,(ac x).2::(dh p (aj x (ac x).2)).2.1,(dh p (aj x (ac x).2)).2.2) else ((dh p (aj x (ac x).2)).1,[],[])):=by
 have hd:=fL ho hp h;have a:mzS p x=stM x+1:=by unfold mzS;rw[if_pos hp]
 have e:nV p (stM x) (aj x (ac x).2)=dh p (aj x (ac x).2):=wK (dy ho h) (by omega) (kqb _)
 conv=>lhs;unfold dh
 rw[a];simp only[nV];rw[if_pos hp,if_neg (by rw[h];decide),if_pos h,e]
end Go.Proofs.YtpcajamacpbjcaaGreat
