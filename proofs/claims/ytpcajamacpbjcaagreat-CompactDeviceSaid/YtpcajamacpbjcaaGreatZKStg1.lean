/- Texts laid together: SldM SldU CurP StgP RmkP MkPP SlP WnB StgQ StgD StgS. -/
import Derived.Test.YtpcajamacpbjcaaGreatZKMove
import Derived.WalkSpells
import Derived.Test.YtpcajamacpbjcaaGreatZKCursor
import Derived.Test.YtpcajamacpbjcaaGreatZKWnt
import Derived.Test.YtpcajamacpbjcaaGreatZKFix
import Derived.Test.YtpcajamacpbjcaaGreatZKHeap
set_option maxHeartbeats 16000000
set_option maxRecDepth 100000
set_option linter.all false
namespace Go.Proofs.YtpcajamacpbjcaaGreat
open Lib (hid)
open Go.RowKit
variable {b:Bk}{f t:Int}{E l:List En}{ws x xs:List Nat}{a i j m n p u v:Nat}
open Go.Proofs.Tryz
def gC (ws:List Nat) (a u n i:Nat):List En:=(List.range n).map λj=>if j<i then ⟨((u+j:Nat):Int),wd ws (a+j)⟩ else ⟨0,0⟩
def ju (ws:List Nat) (a u:Nat):List En:=(List.range (szAt ws a)).map λj=>⟨((u+j:Nat):Int),if j=0 then cV { aq (wd ws a) with mark:=false } else if j=1 then 0 else wd ws (a+j)⟩
def iO (ws:List Nat) (f t:Int):List En:=if dG ws f t=0 then ju ws f.toNat t.toNat else []
theorem p9{r:Int}(hr:dG ws f t=r)(h0:r≠0):iO ws f t=[]:=by subst hr;simp[iO,h0]
theorem fJ(ws:List Nat)(a u n i:Nat):(gC ws a u n i).length=n:=by simp[gC]
theorem iy(ws:List Nat)(a u n i j:Nat)(hj:j<n):(gC ws a u n i)[j]? = some (if j<i then ⟨((u+j:Nat):Int),wd ws (a+j)⟩ else ⟨0,0⟩):=by simp[gC,hj]
theorem xL(ws:List Nat)(a u n i:Nat)(hi:i<n):gC ws a u n (i+1)=(gC ws a u n i).set i ⟨((u+i:Nat):Int),wd ws (a+i)⟩:=by
 apply kjj;intro j;rw[kxg];by_cases b:j<n
 .rw[iy _ _ _ _ _ _ b,iy _ _ _ _ _ _ b];by_cases e:i=j
  .subst e;rw[if_pos (show i<i+1 by omega),if_pos rfl,if_pos (show i<(gC ws a u n i).length by rw[fJ];exact hi)]
  rw[if_neg e];by_cases h:j<i
  .rw[if_pos h,if_pos (by omega)]
  rw[if_neg h,if_neg (by omega)]
 rw[kzi (by rw[fJ];omega),if_neg (by omega),kzi (by rw[fJ];omega)]
theorem en_set(l:List En)(k:Nat)(x:En):(l.set k x).flatMap En.cells=((l.flatMap En.cells).set (k*2) (.int .i64 x.a)).set (k*2+1) (.int .u64 (x.v:Int)):=by
 have d:=eI En.cells 2 En.len l k 0 (by omega) ⟨x.a,(l[k]?.getD default).v⟩ (.int .i64 x.a) (λy b=>by rw[b];rfl);have c:=eI En.cells 2 En.len (l.set k ⟨x.a,(l[k]?.getD default).v⟩) k 1 (by omega) x (.int .u64 (x.v:Int)) (λy b=>by
  rw[kxg] at b;simp only[if_true] at b;split at b
  .cases b;rfl
  cases b)
 rw[List.set_set] at c;rw[c,d];rfl
theorem zL(l:List En)(k:Nat)(x:En)(v:Nat)(hk:l[k]? = some x):(l.set k ⟨x.a,v⟩).flatMap En.cells=(l.flatMap En.cells).set (k*2+1) (.int .u64 (v:Int)):=
 eI En.cells 2 En.len l k 1 (by omega) ⟨x.a,v⟩ (.int .u64 (v:Int)) (λy b=>by rw[hk] at b;cases b;rfl)
theorem Ja(hn:szAt ws a=n)(h2:2<=n):ju ws a u=((gC ws a u n n).set 0 ⟨(u:Int),cV { aq (wd ws a) with mark:=false }⟩).set 1 ⟨((u+1:Nat):Int),0⟩:=by
 apply kjj;intro j;rw[kxg,kxg];unfold ju;rw[hn];by_cases b:j<n
 .rw[iy _ _ _ _ _ _ b,if_pos b];simp only[kxf,kvq b,kzy,kq4,fJ];by_cases c:j=0
  .subst c;simp[b]
  by_cases d:j=1
  .subst d;simp[b]
  rw[if_neg c,if_neg d,if_neg (λh=>d h.symm),if_neg (λh=>c h.symm)]
 rw[if_neg (by omega),if_neg (by omega),kzi (by simp;omega),kzi (by rw[fJ];omega)]
theorem Jr(n:Nat):(madeCells #[Value.int .i64 0,.int .u64 0] (n*2)).toList=(List.replicate n (⟨0,0⟩:En)).flatMap En.cells:=by
 apply kjj;intro j;by_cases c:j<n*2
 .have b:j/2<(List.replicate n (⟨0,0⟩:En)).length:=by rw[kjq];omega
  have a:=iN En.cells 2 En.len (List.replicate n ⟨0,0⟩) (j/2) (j%2) b (by omega);rw[show j/2*2+j%2=j by omega,List.getElem_replicate] at a;rw[a];have d:(madeCells #[Value.int .i64 0,.int .u64 0] (n*2)).toList[j]? = some (#[Value.int .i64 0,.int .u64 0][j%2]!):=by simp[madeCells,c]
  rw[d];rcases (show j%2=0\/j%2=1 by omega) with h|h<;>rw[h]<;>rfl
 rw[kzi (by rw[kku,size_madeCells];omega),kzi (by rw[cw En.cells 2 En.len,kjq];omega)]
theorem yB(ws:List Nat)(a u n:Nat):gC ws a u n 0=List.replicate n ⟨0,0⟩:=by
 apply kjj;intro j;by_cases b:j<n
 .rw[iy _ _ _ _ _ _ b];simp[b]
 rw[kzi (by rw[fJ];omega),kzi (by simp;omega)]
theorem sS(h:bh ws f t=0){l:List Bk}(hl:blocks ws f.toNat=some l)(a:l=[]\/(gk l 0).mark=false):dG ws f t=6:=by
 unfold dG;rw[if_pos h,hl];cases l with
 | nil=>rfl
 | cons b l =>
  rcases a with a|a
  .cases a
  rw[nb] at a;simp[a]
theorem wj(h:bh ws f t=0){l:List Bk}(hl:blocks ws f.toNat=some l)(h0:0<l.length)(h2:(gk l 0).mark=true):dG ws f t=0:=by
 unfold dG;rw[if_pos h,hl];cases l with
 | nil=>simp at h0
 | cons b l=>rw[nb] at h2;simp[h2]
theorem DO(A:Option Addr)(ws:List Nat)(c n:Nat)(f t:Int)(w:World)(hn:ws.length=n)(hm:n<=9223372036854775807)(hf : -9223372036854775808<=f/\f<=9223372036854775807)(ht : -9223372036854775808<=t/\t<=9223372036854775807)(hr:RdW w w.heap.size A ws)(ho:∀x∈ws,x<18446744073709551616):
 Calls prog 146 #[.slice A n c,.int .i64 f,.int .i64 t] w λe w'=>iu w.heap.size (dG ws f t) (iO ws f t) e w'/\Below w.heap.size w w':=by
 subst hn;have HR:=hid hr;have HO:=hid ho;have V:=hid (pS A ws c ws.length f t w rfl hm hf ht hr ho);unfold yH at V;have o:=hid (λW (h:RdW W W.heap.size A ws)=>mf A ws c ws.length f W rfl hm h ho);unfold qW at o;clear hr ho;by_cases z:bh ws f t=0
 .obtain ⟨g1,g2,l,M,g4,g5⟩:=cj z;rw[ft] at g1;obtain⟨f1,f2⟩:=cO g1 (qq g2) M;rw[z] at V;rw[f1,f2] at o;obtain⟨q,hq⟩:=xq ((iB ws f t).length);rw[hq] at V;by_cases s:l.length=0
  .have K:=hid (sS z M (.inl (kx2 s)));rw[s] at o;clear g1 g2 M g4 g5 f1 f2 z hq s;go_enter func146,ntmps146;go_wp2_with fail;refine V.out.mono ?_;rintro e w1 ⟨⟨A1,c1,rfl,-,-⟩,g⟩;go_wp2_with fail;refine (o.out _ (HR.out.up g g.size)).mono ?_;rintro e w2 ⟨⟨A2,c2,rfl,-,-⟩,v⟩;go_wp2;go_ret2;exact⟨bQ K.out (p9 K.out (by omega)),g.trans (v.mono g.size)⟩
  have m:0<l.length:=by omega
  have hne:((l.length:Int)==0)=false:=by rw[kqi];omega
  have hnen:(l.length==0)=false:=by rw[kqi];exact s
  have hl1i:(0:Int)<(l.length:Int):=by omega
  cases j:(gk l 0).mark
  .have K:=hid (sS z M (.inr j));rw[bP l 0 m] at j;clear g1 g2 M g4 g5 f1 f2 z hq s;go_enter func146,ntmps146;go_wp2_with fail;refine V.out.mono ?_;rintro e w1 ⟨⟨A1,c1,rfl,-,-⟩,g⟩;go_wp2_with fail;refine (o.out _ (HR.out.up g g.size)).mono ?_;rintro e w2 ⟨⟨A2,c2,rfl,B,-⟩,v⟩;obtain⟨b,off,rfl,hb,q0,q1,q2,q3,q4,q5⟩:=RdB.at_ B m;rw[j] at q4;simp only[kvu,kz8] at q4;clear q0 q1 q2 q3 q5 B j;go_wp2;go_ret2;exact⟨bQ K.out (p9 K.out (by omega)),g.trans (v.mono g.size)⟩
  have O:=wj z M m j;obtain⟨a,u,n,rfl,rfl,Eq,n2,n10,hu,hua,han,N,Kv,-,-,Km⟩:=fB O;rw[kqj] at M;have X:=(cC M (by omega)).2.1;have Kf:l[0]=bkAt ws a:=by rw[<-bP l 0 m,X]
  have Ki:l[0].size=((n:Nat):Int):=by rw[Kf,bq,Eq]
  rw[bP l 0 m] at j;have Kd:aD (wd ws a)=true:=by unfold stands at N;simp only[kqt] at N;exact N.1
  have Ka:gt (wd ws a) false=cV { aq (wd ws a) with mark:=false }/\oK (wd ws a) false=0:=by unfold gt oK;rw[if_pos Kd,if_pos Kd];have h1:je (iC (wd ws a) false)=true:=Km;exact⟨by unfold jg;rw[if_pos h1];rfl,iV h1⟩
  have Q:=hid (λW=>pi (wd ws a) false W (fM HO.out a));rw[Ka.1,Ka.2] at Q;have Z:=hid (Ja (u:=u) Eq.symm n2);have G:Hid (dG ws (a:Int) (u:Int)=0/\iO ws (a:Int) (u:Int)=ju ws a u):=hid ⟨O,by simp[iO,O]⟩;obtain⟨L,Kh⟩:∃L,cV { aq (wd ws a) with mark:=false }=L:=⟨_,rfl⟩;rw[Kh] at Q Z;obtain⟨b0,Kp,Ke,Ky,p0⟩:=RdW.at_ HR.out (show a<ws.length by omega);subst Ke;rw[<-cA] at p0;have Kj:=gX ws g1;have hlen:ws.length<=2048:=Kj.2.1;have ha0:(0:Int)<=(a:Int):=by omega
  have ha1:(a:Int)<(ws.length:Int):=by omega
  have hn0:(0:Int)<=(n:Int):=by omega
  obtain⟨x,hx⟩:=xq (wd ws a);rw[hx] at p0 Q;clear g1 g2 M g4 g5 f1 f2 z O hq s X Kf Kd Ka Km Kh N Kv hx Kj hf ht Eq;obtain⟨i0,hi,Kk,Kl,Kq⟩:=kzw dC;have S:=hid (And.intro hi (And.intro Kk (And.intro Kl Kq)));clear hi Kk Kl Kq;go_enter func146,ntmps146;go_wp2_with fail;refine V.out.mono ?_;rintro e w1 ⟨⟨A1,c1,rfl,-,-⟩,g⟩;go_wp2_with fail;refine (o.out _ (HR.out.up g g.size)).mono ?_;rintro e w2 ⟨⟨A2,c2,rfl,B,-⟩,v⟩;have I:=g.trans (v.mono g.size);obtain⟨b,off,rfl,hb,q0,q1,q2,q3,q4,q5⟩:=RdB.at_ B m;rw[j] at q4;rw[Ki] at q1;simp only[kvu,kz8] at q4 q1;have p2:=(I.cell (p:=⟨b0,Kp+a,none⟩) Ky).trans p0;clear q0 q2 q3 q5 B j Ki;go_wp2_with fail;refine (Q.out _).mono ?_;rintro e U ⟨rfl,Kb⟩;have Kc:=I.trans (Kb.mono I.size);have q1':=(Kb.cell (p:=⟨b,off+1,none⟩) hb).trans q1;obtain⟨W0,j,D,Kg⟩:=run_make_full (P:=prog) U w.heap.size 26 89 i0 (.agg #[.int .i64 0,.int .u64 0]) 2 underlying26 S.out.1 S.out.2.1 S.out.2.2.1 .i64 .i64 n (by rw[S.out.2.2.2];omega) (by unfold maxLen;omega) Kc.size;have F:W0.ownsRow w.heap.size 89 2 (.slice (some ⟨U.heap.size,0,none⟩) n n) n ((gC ws a u n 0).flatMap En.cells):=by rw[yB,<-Jr];exact D
  have Kx:=hid F;have Kt:=hid (Kc.grown Kg Kc.size (λk hk=>by cases hk));clear D Kg F Kb I v g q4 q1 p2;go_wp2_with fail;clear j q1';have Kw:Hid (∀i,i<n->gC ws a u n (i+1)=(gC ws a u n i).set i ⟨((u+i:Nat):Int),wd ws (a+i)⟩):=hid λi hi=>xL ws a u n i hi;have R:Hid (∀i,((gC ws a u n i).flatMap En.cells).length=n*2):=hid λi=>by rw[cw En.cells 2 En.len,fJ]
  go_loopw [57] (λi wr=>∃k:Nat,k<=n/\i=.int .i64 k/\wr.ownsRow w.heap.size 89 2 (.slice (some ⟨U.heap.size,0,none⟩) n n) n ((gC ws a u n k).flatMap En.cells)/\Below w.heap.size w wr) (λi _=>n-(intOf i).toNat)
  case atStart=>exact⟨0,kqy _,rfl,Kx.out,Kt.out⟩
  obtain⟨k,hk,rfl,d,hB⟩:=hrel;have J:=gG d;by_cases Ks:k<n
  .obtain ⟨b0',off0',Ke,hb0',p0⟩:=RdW.at_ (Rd.below HR.out hB) (show a+k<ws.length by omega);cases Ke;rw[<-cA] at p0;have HS:=hid (Kw.out k Ks);obtain⟨y,hy⟩:=xq (wd ws (a+k));rw[hy] at p0 HS;obtain⟨u0,Ko⟩:∃u0,((gC ws a u n k).flatMap En.cells)[k*2]? = some u0:=⟨_,kql (by rw[R.out];omega)⟩;obtain⟨u1,E⟩:∃u1,((gC ws a u n k).flatMap En.cells)[k*2+1]? = some u1:=⟨_,kql (by rw[R.out];omega)⟩;have d0:=(d.cellAt (k*2) (by omega)).trans Ko;have d1:=(d.cellAt (k*2+1) (by omega)).trans E;have e0:=d.frozenAt (k*2);have e1:=d.frozenAt (k*2+1);have H:=hid d;have hk1:(k:Int)<(n:Int):=by omega
   have hk0:(0:Int)<=(k:Int):=by omega
   have hak:(a:Int)+(k:Int)<(ws.length:Int):=by omega
   have hak0:(0:Int)<=(a:Int)+(k:Int):=by omega
   have hakt:((a:Int)+(k:Int)).toNat=a+k:=by omega
   have hwa:IntKind.i64.wrap ((a:Int)+(k:Int))=(a:Int)+(k:Int):=kqs _ (by omega);have hwu:IntKind.i64.wrap ((u:Int)+(k:Int))=(u:Int)+(k:Int):=kqs _ (by omega);clear hy Ko E d;go_wp2;go_roundw
   case rel =>
    refine⟨k+1,by omega,by go_num,?_,(hB.setCell (p:=⟨U.heap.size,k*2,none⟩) J _).setCell (p:=⟨U.heap.size,k*2+1,none⟩) J _⟩;rw[HS.out,en_set];have h5:=(((H.out.stored (k*2) (.int .i64 ((u:Int)+(k:Int)))).1).stored (k*2+1) (.int .u64 (y:Int))).1;rw[show (((u+k:Nat)):Int)=(u:Int)+(k:Int) by omega];exact h5
   case measure=>simp[intOf];omega
  obtain rfl:k=n:=by omega
  have g0:(gC ws a u k k)[0]? = some ⟨((u+0:Nat):Int),wd ws (a+0)⟩:=by rw[iy _ _ _ _ _ _ (by omega),if_pos (by omega)]
  obtain⟨u1,E⟩:∃u1,((gC ws a u k k).flatMap En.cells)[1]? = some u1:=⟨_,kql (by rw[R.out];omega)⟩;obtain⟨u3,Kn⟩:∃u3,((gC ws a u k k).flatMap En.cells)[3]? = some u3:=⟨_,kql (by rw[R.out];omega)⟩;have d1:=(d.cellAt 1 (by omega)).trans E;have d3:=(d.cellAt 3 (by omega)).trans Kn;have e1:=d.frozenAt 1;have e3:=d.frozenAt 3;have hn1i:(1:Int)<(k:Int):=by omega
  have hn0i:(0:Int)<(k:Int):=by omega
  have T:(((gC ws a u k k).set 0 ⟨(u:Int),L⟩).set 1 ⟨((u+1:Nat):Int),0⟩).flatMap En.cells=(((gC ws a u k k).flatMap En.cells).set 1 (.int .u64 (L:Int))).set 3 (.int .u64 0):=by rw[zL ((gC ws a u k k).set 0 ⟨(u:Int),L⟩) 1 ⟨((u+1:Nat):Int),wd ws (a+1)⟩ 0 (by rw[kxg,if_neg (by omega),iy _ _ _ _ _ _ (by omega),if_pos (by omega)])];rw[show (⟨(u:Int),L⟩:En)=⟨(⟨((u+0:Nat):Int),wd ws (a+0)⟩:En).a,L⟩ from rfl,zL _ 0 _ L g0];rfl
  have Kr:=hid T;have H:=hid d;have C:(ju ws a u).length=k:=by rw[Z.out,kq4,kq4,fJ]
  have Y:=hid C;clear g0 E Kn T d C;go_wp2;go_ret2;have h5:=(((H.out.stored 1 (.int .u64 (L:Int))).1).stored 3 (.int .u64 0)).1;rw[<-Kr.out,<-Z.out] at h5;refine⟨⟨some ⟨U.heap.size,0,none⟩,k,by rw[G.out.1,G.out.2,Y.out];rfl,?_⟩,(hB.setCell (p:=⟨U.heap.size,1,none⟩) J _).setCell (p:=⟨U.heap.size,3,none⟩) J _⟩;rw[G.out.2,Y.out];exact h5
 have K:=hid (show dG ws f t=bh ws f t by unfold dG;rw[if_neg z]);have Ku:(bh ws f t != 0)=true:=by rw[kqv];exact z
 have H0:=hid z;obtain⟨r,hr⟩:=xq (bh ws f t);obtain⟨q,hq⟩:=xq ((iB ws f t).length);rw[hr,hq] at V;rw[hr] at Ku K H0;clear z hr hq;go_enter func146,ntmps146;go_wp2_with fail;refine V.out.mono ?_;rintro e w1 ⟨⟨A1,c1,rfl,-,-⟩,g⟩;go_wp2;go_ret2;exact⟨bQ K.out (p9 K.out H0.out),g⟩
theorem nQ(A:Option Addr)(ws:List Nat)(c n H:Nat)(w:World)(hn:ws.length=n)(h0:0<n)(hm:n<=1000000)(hr:RdW w H A ws)(hH:H<=w.heap.size):
 Calls prog 70 #[.slice A n c] w λe w'=>xB w ws e w':=by have z:=hid (hr.more hH);have o:=hid hn;have s:=hid (io ws);obtain⟨b,k,rfl,v,-⟩:=RdW.at_ hr (show 0<ws.length by omega);have l:=λ(W:World)=>Lib.run_eql_slice_nil (P:=prog) (w:=W) 22 53 (some ⟨b,k,none⟩) n c 0 0 underlying22;simp only[Option.isNone_some] at l;clear hr hH hn v;obtain⟨B,u,d,i,j⟩:=kzw mG;have x:=hid u;have t:=hid d;have r:=hid i;have p:=hid j;clear u d i j;go_enter func70,ntmps70;go_wp2_with (at_builtin;refine bJ _ (by rfl) _ _ 22 rfl w.heap.size 53 B _ 1 8 underlying22 x.out t.out r.out p.out rfl (by decide) (.slice (some ⟨w.heap.size,0,none⟩) 0 0) 0 [] (by rfl) (il w _ _ _ (kqa _)) w.heap.size (some ⟨b,k,none⟩) n _ (ws.flatMap ag) (by rfl) (by rw[s.out,o.out];omega) (Rd.alloc z.out (kqa _) _) (dP qI _) (by unfold maxLen;omega) (by omega) (by simp) ?_;intro v1 wa a h;have f:=cB ((kqk w.heap.size w).alloc (kqa _) _) (by simp) (il w w.heap.size 53 1 (kqa _)) h;simp only[kxd,kz1] at a;obtain⟨g,y,rfl⟩:=fV a (by omega);have m:=hid a;have q:=hid f;clear a f h);go_ret;exact⟨g,y,by rw[o.out];rfl,by rw[o.out];exact m.out,q.out⟩
def OwnV (w:World) (xs:List Nat) (e:Ending) (w':World):Prop:=∃g c,e=.returned (.tuple #[.slice (some ⟨g,0,none⟩) xs.length c,.int .i64 0])/\w'.ownsRow w.heap.size 53 1 (.slice (some ⟨g,0,none⟩) xs.length c) xs.length (xs.flatMap ag)/\Below w.heap.size w w'
theorem Bg(A B:Option Addr)(ws:List Nat)(E:List En)(c d n m H:Nat)(w:World)(hn:ws.length=n)(hm:E.length=m)(hs:aj (n:Int)=true)(hm2:m<=32)(hE:∀e∈E,0<=e.a/\e.a<(n:Int))(hr:RdW w H A ws)(he:RdE w H B E)(hH:H<=w.heap.size):
 Calls prog 53 #[.slice A n c,.slice B m d] w λe w'=>OwnV w (ak ws E) e w':=by
 subst hm;obtain⟨b1,b2,-⟩:=(aa _).1 hs;have Y:=hid (aZ hs);have HR:=hid (hr.more hH);have X:=hid (he.more hH);have HN:=hid hn;have r:Hid (∀k,(ak ws (E.take k)).length=n):=hid λk=>by rw[ax,hn]
 have F:Hid (∀k (h:k<E.length),0<=E[k].a/\E[k].a<(n:Int)):=hid λk h=>hE _ (kqq h);have K:Hid (∀k (h:k<E.length),ak ws (E.take (k+1))=(ak ws (E.take k)).set E[k].a.toNat E[k].v):=hid λk h=>by rw[Bf h,hn,if_pos (hE _ (kqq h))]
 have q:=hid (λW (h:RdW W W.heap.size A ws)=>nQ A ws c n W.heap.size W hn (by omega) (by omega) h (kqa _));unfold xB at q;rw[hn] at q;have h32:decide ((32:Int)<(E.length:Int))=false:=by rw[kqc];omega
 clear hr he hH hn hE hs;go_enter func53,ntmps53;go_wp2_with fail;refine (aG A n c w (by omega)).mono ?_;rintro e w1 ⟨rfl,rfl⟩;rw[Y.out];go_wp2_with fail;refine (q.out _ HR.out).mono ?_;rintro e w2 ⟨g,S,rfl,f,s⟩;have t:=hid f;have G:=hid s;clear f s;go_wp2_with fail;go_loopw [22] (λi wr=>∃k:Nat,k<=E.length/\i=.int .i64 k/\wr.ownsRow w.heap.size 53 1 (.slice (some ⟨g,0,none⟩) n S) n ((ak ws (E.take k)).flatMap ag)/\Below w.heap.size w wr) (λi _=>E.length-(intOf i).toNat)
 case atStart=>exact⟨0,kqy _,rfl,t.out,G.out⟩
 obtain⟨k,hk,rfl,f,z⟩:=hrel;have Z:=z.size;have J:=gG f;by_cases o:k<E.length
 .obtain ⟨b,off,rfl,hb,Q,T⟩:=RdE.at_ (Rd.below X.out z) o;have y:=hid (K.out k o);obtain⟨I,R⟩:=F.out k o;obtain⟨x,P⟩:=xq (E[k]);rw[P] at Q T y I R;obtain⟨xa,C⟩:=x;dsimp only at Q T y I R;obtain⟨a,rfl⟩:=kq2 I;rw[kqj] at y;have hk1:(k:Int)<(E.length:Int):=by omega
  have hk0:(0:Int)<=(k:Int):=by omega
  obtain⟨j,l⟩:=xq (ak ws (E.take k));have D:=r.out k;rw[l] at y f D;have M:=(f.cellAt a (by omega)).trans (sE j a (by omega));have V:=f.frozenAt a;obtain⟨u,U⟩:∃u,((j[a]'(by omega):Nat):Int)=u:=⟨_,rfl⟩;rw[U] at M;have O:g<wr.heap.size:=(f.lt g rfl).2;have c0':=(kzk wr (.cells #[.int .i64 (a:Int),.int .u64 (C:Int)] 89) ⟨g,a,none⟩ O).trans M;have HO:=hid (f.alloc (.cells #[.int .i64 (a:Int),.int .u64 (C:Int)] 89));have f0':=HO.out.frozenAt a;have N:=hid f;clear P U f l M V;go_wp2;go_roundw
  case rel =>
   refine⟨k+1,by omega,by go_num,?_,(z.setCell (p:=⟨g,a,none⟩) J _).alloc (by rw[kz6];exact Z) _⟩;rw[y.out,nD];exact (N.out.stored a (.int .u64 (C:Int))).1.alloc _
  case measure=>simp[intOf];omega
 rw[kq5 (by omega)] at f;have L:=r.out E.length;rw[kzl] at L;go_wp2;go_ret2;exact⟨g,S,by rw[L];rfl,by rw[L];exact f,z⟩
theorem pb(l:List Bk):(∃k,k<l.length/\ff l k/\(gk l k).mark=true)\/ff l l.length:=by
 have a:∀n,n<=l.length->(∃k,k<l.length/\ff l k/\(gk l k).mark=true)\/ff l n:=by
  intro n
  induction n with
  | zero=>intro _;exact .inr (nv l)
  | succ n ih =>
   intro hn;rcases ih (by omega) with h|h
   .exact .inl h
   cases b:(gk l n).mark with
   | true=>exact .inl ⟨n,by omega,h,b⟩
   | false=>exact .inr (nN h b)
 exact a l.length (kqa _)
theorem t7(a b:List Bk):eG (a++b)=eG a++eG b:=by unfold eG;rw[kx8,kjo]
theorem sN{l:List Bk}:∀ {k},k<=l.length->ff l k->eG (l.take k)=[]:=by
 intro k
 induction k with
 | zero=>intro _ _;rfl
 | succ k ih =>
  intro hk h;have a:k<l.length:=by omega
  rw[sH a,ih (by omega) (λj hj=>h j (by omega))];have:=h k (by omega);rw[bP l k a] at this;simp[this]
theorem Dd(b:Bk)(l:List Bk):(eG (b::l)).length=(if b.mark=true then 1 else 0)+(eG l).length:=by
 unfold eG;cases h:b.mark
 .simp[h]
 simp[h];omega
theorem m9(hs:aj (ws.length:Int)=true){l:List Bk}(h1:128<=a)(h2:a<=ws.length)(h3:a%2=0)(hb:blocks ws a=some l)(hm:0<(eG l).length):
 ∃(m z:Nat) (l':List Bk),bj ws (a:Int)=0/\(iK ws (a:Int)).at_=(m:Int)/\(iK ws (a:Int)).size=(z:Int)/\a<=m/\2<=z/\m+z<=ws.length/\(m+z)%2=0/\blocks ws (m+z)=some l'/\(eG l').length+1=(eG l).length:=by
 have c:fe ws.length (a:Int)=false:=by simp only[fe,kzn,kqc,kqr];omega
 obtain⟨o,r⟩:=cO (a:=(a:Int)) hs c (by rw[kqj];exact hb);rcases pb l with⟨k,d,f,b⟩|f
 .obtain ⟨g,n⟩:=tE o r d f b;obtain⟨m,i,f2,q,s,t,p⟩:=cp _ _ hb h3 k d;have j:=aF t;rw[bP l k d] at g b;have h:=cC p s;refine⟨m,szAt ws m,l.drop (k+1),n,by rw[g,i];rfl,by rw[g,i];rfl,q,j.1,j.2.2,by omega,?_,?_⟩
  .rw[h.2.2.2,kxl]
  have e:l=l.take k++(l[k]::l.drop (k+1)):=by rw[<-kx0 d,kxa]
  have:(eG l).length=(eG (l.take k++(l[k]::l.drop (k+1)))).length:=by rw[<-e]
  rw[this,t7,kqu,sN (by omega) f,Dd,b];simp;omega
 have:=sN (kqa _) f;rw[kzl] at this;rw[this] at hm;simp at hm
theorem yp(h:az ws=0)(hp:¬ wd ws 16<3):aj (ws.length:Int)=true/\(wd ws 16=3\/wd ws 16=4)/\∃a:Nat,ga ws=(a:Int)/\128<=a/\a<=ws.length/\a%2=0/\∃l,blocks ws a=some l/\lfN ws=(eG l).length:=by
 have r:=kQ h;obtain⟨A,L⟩:=iJ r;obtain⟨o,E,J⟩:=f8 A;obtain⟨⟨l0,p,l2⟩,-⟩:=(bo ws).1 E;have hbd:=gX ws o;have K:=Bl h hp;have d:∀a:Nat,ga ws=(a:Int)->128<=a->a<=ws.length->a%2=0->∀l,blocks ws a=some l->∃a:Nat,ga ws=(a:Int)/\128<=a/\a<=ws.length/\a%2=0/\∃l,blocks ws a=some l/\lfN ws=(eG l).length:=by
  intro a u B H I l e;refine⟨a,u,B,H,I,l,e,?_⟩;have i:fe ws.length (a:Int)=false:=by simp only[fe,kzn,kqc,kqr];omega
  rw[K,u,(cO (a:=(a:Int)) o i (by rw[kqj];exact e)).2]
 rcases (co _ _ _).1 J with⟨v,w,y,i3⟩|⟨q,w,y⟩|⟨G,-⟩
 .refine ⟨o,.inr v,?_⟩;have g:=(aL _).1 w;have s:bh ws (wd ws 17:Nat) (wd ws 18:Nat)=0:=by
   unfold az at h;rw[if_pos r,if_pos v] at h;split at h
   .exact h
   simp at h
  obtain⟨-,-,l,e,-⟩:=cj s;rw[kqj] at e;exact d (wd ws 17) (by unfold ga;rw[if_neg (by omega)]) g.1 p g.2.2 l e
 .refine ⟨o,.inl q,?_⟩;have s:bh ws 128 128=0:=by unfold az at h;rwa [if_pos r,if_neg (by omega),if_pos q] at h
  obtain⟨-,-,l,e,-⟩:=cj s;have f:blocks ws 128=some l:=e;by_cases z:wd ws 17=0
  .exact d 128 (by unfold ga;rw[if_pos (by omega)];rfl) (by omega) (by omega) (by omega) l f
  have g:=(aL _).1 (y.resolve_left z);have j:ga ws=((wd ws 17:Nat):Int):=by unfold ga;rw[if_neg (by omega)]
  have c:=L q z;unfold oG at c;rw[f] at c;have c:(l.any (λb=>b.at_==((wd ws 17:Nat):Int))||wd ws 17==ws.length)=true:=c;rw[kxy,kx3] at c;rcases c with⟨b,D,n⟩|n
  .obtain ⟨k,C,rfl⟩:=kqz D;obtain⟨m,F,f2,f3,f4,f5,x⟩:=cp _ _ f (by omega) k C;rw[kqw,F] at n;have t:m=wd ws 17:=by have:((m:Nat):Int)=((wd ws 17:Nat):Int):=n;omega
   rw[t] at x;exact d (wd ws 17) j g.1 p g.2.2 _ x
  rw[kqw] at n;exact d (wd ws 17) j g.1 p g.2.2 [] (aH (by omega))
 exact absurd G hp
def phE (p f t:Nat):List En:=[⟨16,p⟩,⟨17,f⟩,⟨18,t⟩]
theorem fK(j v:Nat)(l:List En)(h:j<ws.length):ak ws (⟨(j:Int),v⟩::l)=ak (ws.set j v) l:=by simp only[ak];rw[if_pos (by omega),kqj]
def ie (l:List En) (p:Nat):List En:=if 32<=l.length then l.take 31 else ⟨16,p⟩::l
def b9:List En:=[⟨16,4⟩,⟨17,128⟩,⟨18,128⟩]
theorem fm(h:bj ws (a:Int)=0):aj (ws.length:Int)=true/\128<=a/\a%2=0/\∃m:Nat,iK ws (a:Int)=bkAt ws m/\a<=m/\m%2=0/\2<=szAt ws m/\szAt ws m%2=0/\m+szAt ws m<=ws.length/\stands ws m=true/\(bkAt ws m).mark=true/\(bkAt ws m).kind=1/\∃l,blocks ws a=some l/\cc ws (a:Int)=0/\aQ ws (a:Int)=l/\∃k,k<l.length/\ff l k/\blocks ws m=some (l.drop k):=by
 have d:cc ws (a:Int)=0:=by
  by_cases o:cc ws (a:Int)=0
  .exact o
  rw[(vI rfl o).2] at h;exact absurd h o
 have j:aj (ws.length:Int)=true:=by
  cases n:aj (ws.length:Int) with
  | true=>rfl
  | false=>rw[fH n] at d;cases d
 have c:fe ws.length (a:Int)=false:=by
  cases n:fe ws.length (a:Int) with
  | false=>rfl
  | true=>rw[jf j n] at d;cases d
 have ha:=jL c;cases p:blocks ws a with
 | none=>rw[eP j c (by rw[kqj];exact p)] at d;cases d
 | some l =>
  have e:=cO (a:=(a:Int)) j c (l:=l) (by rw[kqj];exact p);rcases pb l with⟨k,f,i,g⟩|i
  .obtain ⟨s,-⟩:=tE d e.2 f i g;obtain⟨m,r,u,w,f4,t,v⟩:=cp _ _ p (by omega) k f;have q:=aF t;have b:=Jy d (k:=k) (by rw[e.2];exact f);rw[e.2] at b;rw[bP l k f] at s g b;rw[r] at g b;rw[g] at b;simp only[kvn,kkl,kqw] at b;exact⟨j,by omega,by omega,m,by rw[s,r],w,u,q.1,q.2.1,q.2.2,t,g,b,l,rfl,d,e.2,k,f,i,v⟩
  rw[(Aq d e.2 i).2] at h;cases h
def fixL (ws:List Nat):Nat->Nat->Int × List En
 | 0,_=>(0,b9)
 | f+1,a=>if bj ws (a:Int)=0 then (if bU ws (iK ws (a:Int)).at_=[] then fixL ws f ((iK ws (a:Int)).at_+(iK ws (a:Int)).size).toNat
  else if dA ws (iK ws (a:Int)).at_=0 then (0,⟨17,((iK ws (a:Int)).at_+(iK ws (a:Int)).size).toNat⟩::cD ws (iK ws (a:Int)).at_)
  else (dA ws (iK ws (a:Int)).at_,[])) else (0,b9)
theorem zh :∀ {f a g:Nat},ws.length-a<f->ws.length-a<g->fixL ws f a=fixL ws g a:=by
 intro f
 induction f with
 | zero=>intro a g h;omega
 | succ f ih =>
  intro a g h hg;cases g with
  | zero=>omega
  | succ g =>
   simp only[fixL];by_cases b:bj ws (a:Int)=0
   .obtain ⟨hs,a1,a2,m,e,m1,m2,m3,m4,m5,-⟩:=fm b;have d:((iK ws (a:Int)).at_+(iK ws (a:Int)).size).toNat=m+szAt ws m:=by rw[e,ab,bq];omega
    rw[if_pos b,if_pos b,d];by_cases c:bU ws (iK ws (a:Int)).at_=[]
    .rw[if_pos c,if_pos c];exact ih (by omega) (by omega)
    rw[if_neg c,if_neg c]
   rw[if_neg b,if_neg b]
def ke (ws:List Nat) (a:Nat):Int × List En:=fixL ws (ws.length+1) a
theorem ki(h:bj ws (a:Int)≠0):ke ws a=(0,b9):=by unfold ke;rw[fixL,if_neg h]
theorem kV(h:bj ws (a:Int)=0)(e:iK ws (a:Int)=bkAt ws m)(h2:bU ws (m:Int)=[]):ke ws a=ke ws (m+szAt ws m):=by
 obtain⟨hs,a1,a2,b,d,m1,m2,m3,m4,m5,-⟩:=fm h;have c:b=m:=by have:=congrArg Bk.at_ (e.symm.trans d);rw[ab,ab] at this;omega
 subst c;unfold ke;rw[fixL,if_pos h,e,ab,if_pos h2,bq,show (((b:Int)+((szAt ws b:Nat):Int)).toNat)=b+szAt ws b by omega];exact zh (by omega) (by omega)
theorem vc(h:bj ws (a:Int)=0)(e:iK ws (a:Int)=bkAt ws m)(h2:bU ws (m:Int)≠[])(h3:dA ws (m:Int)≠0):ke ws a=(dA ws (m:Int),[]):=by unfold ke;rw[fixL,if_pos h,e,ab,if_neg h2,if_neg h3]
theorem qA(h:bj ws (a:Int)=0)(e:iK ws (a:Int)=bkAt ws m)(h2:bU ws (m:Int)≠[])(h3:dA ws (m:Int)=0):ke ws a=(0,⟨17,m+szAt ws m⟩::cD ws (m:Int)):=by unfold ke;rw[fixL,if_pos h,e,ab,if_neg h2,if_pos h3,bq,show (((m:Int)+((szAt ws m:Nat):Int)).toNat)=m+szAt ws m by omega]
def sgFix (ws:List Nat):Int × List En:=if wd ws 17=0 then (if dZ ws=0 then (0,⟨17,128⟩::dL ws) else (dZ ws,[])) else ke ws (wd ws 17)
def sgSld (ws:List Nat):Int × List En:=if bj ws ((wd ws 17:Nat):Int)=0 then
 (if dG ws (iK ws ((wd ws 17:Nat):Int)).at_ ((wd ws 18:Nat):Int)=0 then (0,⟨17,((iK ws ((wd ws 17:Nat):Int)).at_+(iK ws ((wd ws 17:Nat):Int)).size).toNat⟩::⟨18,(((wd ws 18:Nat):Int)+(iK ws ((wd ws 17:Nat):Int)).size).toNat⟩::iO ws (iK ws ((wd ws 17:Nat):Int)).at_ ((wd ws 18:Nat):Int))
 else (dG ws (iK ws ((wd ws 17:Nat):Int)).at_ ((wd ws 18:Nat):Int),[])) else (6,[])
noncomputable def ae (ws:List Nat):Int × List En:=if az ws=0 then
 (if wd ws 16=1 then (if aC ws=0 then (0,ie (aK ws) 2) else (aC ws,[]))
 else if wd ws 16=2 then (if ah ws=0 then (0,ie (ay ws) 3) else (ah ws,[]))
 else if wd ws 16=3 then sgFix ws
 else if wd ws 16=4 then sgSld ws else (6,[])) else (az ws,[])
theorem cm(h:32<=l.length):ie l p=l.take 31:=by unfold ie;rw[if_pos h]
theorem fC(h:¬ 32<=l.length):ie l p=⟨16,p⟩::l:=by unfold ie;rw[if_neg h]
theorem hU{x:Nat}(h:aD x=true)(hk:(aq x).kind=1)(m:Bool):aD (gt x m)=true/\aq (gt x m)={ aq x with mark:=m }/\oK x m=0/\gt x m<18446744073709551616:=by
 have e:je (aq x)=true:=by unfold aD at h;simp only[kqt] at h;exact h.1
 have a:je (iC x m)=true:=by
  have d:=(bD _).1 e;rw[bD];unfold iC;dsimp only;refine⟨d.1,.inl ?_⟩;rcases d.2 with b|b
  .exact b
  rw[hk] at b;exact absurd b.1 (by decide)
 have c:gt x m=cV (iC x m):=by unfold gt jg;rw[if_pos h,if_pos a]
 refine⟨by rw[c];exact pB a,?_,by unfold oK;rw[if_pos h];exact iV a,by rw[c];exact qn a⟩;rw[c,mI a];rfl
theorem nO{x:Nat}(h:aD x=true):2048<x:=by unfold aD at h;simp only[kqt] at h;have a:=(bD _).1 h.1;have b:(aq x).size=((x/65536%65536:Nat):Int):=rfl;rw[b] at a;omega
structure Rm (ws xs:List Nat):Prop where
 len:xs.length=ws.length
 at_:∀i,wd xs i=wd ws i\/(128<=i/\i%2=0/\aD (wd ws i)=true/\(aq (wd ws i)).kind=1/\∃m,wd xs i=gt (wd ws i) m)
section
variable {ws xs:List Nat}
theorem Rm.low(h:Rm ws xs)(hi:i<128):wd xs i=wd ws i:=by
 rcases h.at_ i with a|a
 .exact a
 omega
theorem Rm.odd(h:Rm ws xs)(hi:i%2=1):wd xs i=wd ws i:=by
 rcases h.at_ i with a|a
 .exact a
 omega
theorem Rm.sp(h:Rm ws xs)(i:Nat):aD (wd xs i)=aD (wd ws i):=by
 rcases h.at_ i with d|⟨-,-,a,c,m,b⟩
 .rw[d]
 rw[b,a,(hU a c m).1]
def oC (xs:List Nat) (i:Nat):Bool:=(aq (wd xs i)).mark
theorem Rm.raw(h:Rm ws xs)(i:Nat):aq (wd xs i)={ aq (wd ws i) with mark:=oC xs i }:=by
 unfold oC;rcases h.at_ i with d|⟨-,-,b,c,m,a⟩
 .rw[d]
 rw[a,(hU b c m).2.1]
theorem Rm.sz(h:Rm ws xs)(i:Nat):(aq (wd xs i)).size=(aq (wd ws i)).size:=by rw[h.raw i]
theorem Rm.szAt(h:Rm ws xs)(i:Nat):szAt xs i=szAt ws i:=by have a:=h.sz i;have e:∀w,(aq w).size=((w/65536%65536:Nat):Int):=λ_=>rfl;rw[e,e] at a;unfold Proofs.YtpcajamacpbjcaaGreat.szAt;exact Int.ofNat.inj a
theorem Rm.stands(h:Rm ws xs)(i:Nat):stands xs i=stands ws i:=by unfold Proofs.YtpcajamacpbjcaaGreat.stands;rw[h.sp,h.sz,h.len]
def mkB (xs:List Nat) (b:Bk):Bk:={ b with mark:=oC xs b.at_.toNat }
theorem Rm.bkAt(h:Rm ws xs)(hi:i%2=0):bkAt xs i=mkB xs (bkAt ws i):=by
 unfold mkB;have a:(Proofs.YtpcajamacpbjcaaGreat.bkAt ws i).at_.toNat=i:=by rw[ab,kqj]
 rw[a];unfold Proofs.YtpcajamacpbjcaaGreat.bkAt;rw[h.raw i,h.odd (i:=i+1) (by omega)]
theorem Rm.blocks(h:Rm ws xs):∀i l,blocks ws i=some l->i%2=0->blocks xs i=some (l.map (mkB xs)):=by
 refine d7 (λi l=>i%2=0->Proofs.YtpcajamacpbjcaaGreat.blocks xs i=some (l.map (mkB xs))) (λi a _=>?_) (λi l a c hb b d=>?_)
 .exact aH (by rw[h.len];exact a)
 have hsz:=aF c;have b:=b (by omega);rw[aR (by rw[h.len];exact a) (by rw[h.stands];exact c),h.szAt,b,h.bkAt d];rfl
theorem Cf(n:Nat)(l:List Bk):qu n (l.map (mkB xs))=qu n l:=by unfold qu;rw[List.foldl_map];rfl
theorem Hy(h:Rm ws xs)(hb:b.kind=1->tyA b+1<128):dK xs (mkB xs b)=dK ws b:=by
 have e:=AM (ws:=ws) (xs:=xs) (λj c=>h.low c) hb;by_cases a:b.kind=1
 .have h2:=hb a;unfold dK cZ;show (b.kind != 1||(cr (wd xs (tyA b)) (wd xs (tyA b+1))&&b.size==((bi (wd xs (tyA b)%256):Nat):Int)))=_;rw[h.low (by omega),h.low (by omega)]
 rw[eC a,eC (b:=mkB xs b) a]
theorem Rm.heap(h:Rm ws xs)(h0:ah ws=0):ah xs=0/\af xs=(af ws).map (mkB xs):=by obtain⟨g,l,c,d,f⟩:=aA h0;have e:=h.blocks 128 l c (by omega);rw[f];refine fT (by rw[h.len];exact g) e ?_;rw[List.all_map,kzu];rw[kzu] at d;intro b a;show dK xs (mkB xs b)=true;rw[Hy h (jy c (by omega) b a)];exact d b a
theorem Rm.tb(h:Rm ws xs)(h0:ah ws=0)(a:Nat):tb xs a=tb ws a:=by unfold Proofs.YtpcajamacpbjcaaGreat.tb;rw[(h.heap h0).2,h.len,Cf]
theorem Rm.slAt(h:Rm ws xs)(hi:i<16):slAt xs i=slAt ws i:=by unfold Proofs.YtpcajamacpbjcaaGreat.slAt;rw[h.low (by omega)]
theorem Rm.slsOk(h:Rm ws xs):slsOk xs=slsOk ws:=by
 rw[kzg,cU,cU];unfold ox;constructor
 .intro b i a;rw[<-h.slAt a];exact b i a
 intro b i a;rw[h.slAt a];exact b i a
theorem ot(h:fW ws a):(aq (wd ws a)).typ.toNat<8:=by have h7:=(bD _).1 (fP h.2.2.2.1);have h5:=h.2.2.2.2.1;omega
theorem Rm.flds(h:Rm ws xs)(h0:ah ws=0)(ha:Proofs.YtpcajamacpbjcaaGreat.tb ws a≠0):flds xs a=flds ws a:=by obtain⟨b,-⟩:=iH h0 ha;have:=ot b;unfold Proofs.YtpcajamacpbjcaaGreat.flds;rw[h.raw a];dsimp only;rw[h.low (by omega),h.low (by omega)]
theorem Rm.ref(h:Rm ws xs)(hg:pd ws)(h0:ah ws=0)(ha:Rch ws a)(ht:Proofs.YtpcajamacpbjcaaGreat.tb ws a≠0)(hf:(Proofs.YtpcajamacpbjcaaGreat.flds ws a)[i]? = some 3):wd xs (a+2+i)=wd ws (a+2+i):=by
 rcases h.at_ (a+2+i) with d|⟨-,-,c,-⟩
 .exact d
 exfalso;have hb:=nO c;have b:=hg _ (Rch.ref a i ha ht hf (by omega));rw[kvi (by omega)] at b;have:=sG b;have:=(gX ws (aA h0).1).2.1;omega
theorem Rm.rch(h:Rm ws xs)(hg:pd ws)(h0:ah ws=0)(a:Nat):Rch xs a↔Rch ws a:=by
 constructor
 .intro b
  induction b with
  | slot i hi hu=>rw[h.slAt hi] at hu |-;exact Rch.slot i hi hu
  | ref a i b ht hf hv ih =>rw[h.tb h0] at ht;rw[h.flds h0 ht] at hf;rw[h.ref hg h0 ih ht hf] at hv |-;exact Rch.ref a i ih ht hf hv
 intro b
 induction b with
 | slot i hi hu=>rw[<-h.slAt hi] at hu |-;exact Rch.slot i hi hu
 | ref a i b ht hf hv ih =>rw[<-h.ref hg h0 b ht hf] at hv |-;exact Rch.ref a i ih (by rw[h.tb h0];exact ht) (by rw[h.flds h0 ht];exact hf) hv
theorem aI(h:aC ws=0):ah ws=0/\slsOk ws=true/\pd ws:=by
 unfold aC at h;by_cases a:ah ws=0
 .rw[if_pos a] at h;by_cases b:Proofs.YtpcajamacpbjcaaGreat.slsOk ws=true
  .rw[if_pos b] at h;by_cases c:pd ws
   .exact ⟨a,b,c⟩
   rw[if_neg c] at h;cases h
  rw[if_neg b] at h;cases h
 rw[if_neg a] at h;exact absurd h a
theorem Rm.same(h:Rm ws xs)(h0:aC ws=0):aC xs=0/\eh xs=eh ws/\seenL xs=seenL ws/\ah xs=0/\af xs=(af ws).map (mkB xs):=by
 obtain⟨b,j,e⟩:=aI h0;have g:=h.rch e b;have f:=h.heap b;have k:pd xs:=λa i=>by rw[h.tb b];exact e a ((g a).1 i)
 have d:aC xs=0:=Bc f.1 (by rw[h.slsOk];exact j) k;have c:seenL xs=seenL ws:=by unfold seenL;rw[h.len];refine kz2 λa _=>?_;exact decide_eq_decide.2 (g a)
 refine⟨d,?_,c,f⟩;rw[ei d,ei h0,c,h.len]
end
theorem IH:∀ {a b:List Int},a.Pairwise (· < ·)->b.Pairwise (· < ·)->(∀x,x∈a↔x∈b)->a=b:=by
 intro a
 induction a with
 | nil =>
  intro b _ _ h;cases b with
  | nil=>rfl
  | cons y b=>exact absurd ((h y).2 (by simp)) (by simp)
 | cons x a ih =>
  intro b f e h;cases b with
  | nil=>exact absurd ((h x).1 (by simp)) (by simp)
  | cons y b =>
   rw[kkh] at f e;have i:x=y:=by
    have d:=(h x).1 (by simp);have c:=(h y).2 (by simp);rw[kqx] at d c;rcases d with d|d
    .exact d
    rcases c with c|c
    .exact c.symm
    have:=e.1 _ d;have:=f.1 _ c;omega
   subst i;rw[ih f.2 e.2 (λz=>?_)];have g:=h z;rw[kqx,kqx] at g;constructor
   .intro d;have:=f.1 _ d;rcases g.1 (.inr d) with c|c
    .omega
    exact c
   intro d;have:=e.1 _ d;rcases g.2 (.inr d) with c|c
   .omega
   exact c
theorem du(l:List En):∀ws:List Nat,l.Pairwise (λa b=>a.a<b.a)->∀e∈l,0<=e.a->e.a<(ws.length:Int)->wd (ak ws l) e.a.toNat=e.v:=by
 induction l with
 | nil=>intro ws _ e c;simp at c
 | cons x l ih =>
  intro ws d e c g f;rw[kkh] at d;simp only[ak];rcases kqx.1 c with rfl|c
  .rw[aU l _ _ (λy h=>by have:=d.1 y h;omega),if_pos ⟨g,f⟩];unfold wd;rw[kz7 (by omega)];rfl
  refine ih _ d.2 e c g ?_;split
  .rw[kq4];exact f
  exact f
theorem lG :∀i l,blocks ws i=some l->(∀b∈l,(i:Int)<=b.at_)/\l.Pairwise (λa b=>a.at_<b.at_):=by
 refine d7 _ (λi _=>⟨λb h=>by simp at h,List.Pairwise.nil⟩) (λi l hi d hb c=>?_);have hsz:=aF d;refine⟨λb h=>?_,List.Pairwise.cons (λb h=>?_) c.2⟩
 .rcases kqx.1 h with rfl|h
  .rw[ab];omega
  have:=c.1 b h;omega
 have:=c.1 b h;rw[ab];omega
theorem ch(h:ah ws=0):(∀b∈af ws,∃a:Nat,b=bkAt ws a/\128<=a/\a%2=0/\a<ws.length/\stands ws a=true)/\(af ws).Pairwise (λa b=>a.at_<b.at_):=by obtain⟨h1,l,c,h3,m⟩:=aA h;rw[m];refine⟨λb e=>?_,(lG _ _ c).2⟩;obtain⟨k,d,rfl⟩:=kqz e;obtain⟨a,j,f,e3,i,g,-⟩:=cp _ _ c (by omega) k d;exact⟨a,j,by omega,f,i,g⟩
theorem rb(h:aC ws=0)(ha:Rch ws a):∃b∈af ws,b=bkAt ws a/\b.kind=1/\fW ws a:=by obtain⟨g,h2,f⟩:=aI h;obtain⟨c,-⟩:=iH g (f a ha);obtain⟨k,d,e,-⟩:=c.2.2.2.2.2.2;exact⟨_,kqq d,e,by rw[e];exact c.2.2.2.2.1,c⟩
noncomputable def ew (ws:List Nat) (b:Bk):Bool:=(seenL ws)[b.at_.toNat]?.getD false
theorem fv(h:a<ws.length):ew ws (bkAt ws a)=true↔Rch ws a:=by unfold ew;rw[ab,kqj];exact kF h
theorem Cx(h:aC ws=0)(hb:b∈af ws)(hk:cG (seenL ws) b=false):b.kind=1:=by
 obtain⟨f,-,-⟩:=aI h;obtain⟨a,rfl,a1,a2,j,a4⟩:=(ch f).1 b hb;cases d:(bkAt ws a).mark with
 | true =>obtain⟨_,l,i,-,m⟩:=aA f;rw[m] at hb;exact jl i (by omega) _ hb d
 | false =>
  have g:ew ws (bkAt ws a)=true:=by
   unfold cG at hk;rw[d] at hk;unfold ew;cases k:(seenL ws)[(bkAt ws a).at_.toNat]?.getD false with
   | true=>rfl
   | false=>rw[k] at hk;exact absurd hk (by decide)
  obtain⟨b',-,e,c,-⟩:=rb h ((fv j).1 g);rw[e] at c;exact c
theorem dd(h:aC ws=0):aK ws=(lw (seenL ws) (af ws)).map (yE ws (seenL ws)):=by unfold aK;rw[if_pos h]
theorem dh(h:aC ws=0){e:En}(he:e∈aK ws):∃a:Nat,bkAt ws a∈af ws/\128<=a/\a%2=0/\a<ws.length/\aD (wd ws a)=true/\(aq (wd ws a)).kind=1/\e=⟨(a:Int),gt (wd ws a) (ew ws (bkAt ws a))⟩/\cG (seenL ws) (bkAt ws a)=false:=by
 obtain⟨l,-,-⟩:=aI h;rw[dd h,kzr] at he;obtain⟨b,f,rfl⟩:=he;have g:=qi f;have i:cG (seenL ws) b=false:=by
  unfold lw at f;have:=(kzp.1 f).2
  simpa using this
 have c:=Cx h g i;obtain⟨a,rfl,k,m,j,d⟩:=(ch l).1 b g;refine⟨a,g,k,m,j,?_,c,rfl,i⟩;unfold stands at d;simp only[kqt] at d;exact d.1
theorem dg(h:aC ws=0):(aK ws).Pairwise (λa b=>a.a<b.a):=by obtain⟨c,-,-⟩:=aI h;rw[dd h,kkn];exact List.Pairwise.filter _ (ch c).2
theorem nP(h:aC ws=0):∀e∈aK ws,e.v<18446744073709551616:=by intro e c;obtain⟨a,-,-,-,-,b,d,rfl,-⟩:=dh h c;exact (hU b d _).2.2.2
theorem AJ(h:aC ws=0):Rm ws (ak ws (aK ws)):=by
 refine⟨ax _ _,λi=>?_⟩;by_cases f:∃e∈aK ws,e.a=(i:Int)
 .obtain ⟨e,b,c⟩:=f;obtain⟨a,-,k,m,a3,g,j,rfl,-⟩:=dh h b;have d:a=i:=by dsimp only at c;omega
  subst d;refine .inr ⟨k,m,g,j,ew ws (bkAt ws a),?_⟩;have:=du (aK ws) ws (dg h) _ b (by dsimp only;omega) (by dsimp only;omega);dsimp only at this;rw[kqj] at this;exact this
 exact .inl (aU _ _ _ (λe b l=>f ⟨e,b,l⟩))
theorem kN(h:aC ws=0)(hb:b∈af ws):(mkB (ak ws (aK ws)) b).mark=ew ws b:=by
 obtain⟨l,-,-⟩:=aI h;obtain⟨a,rfl,a1,a2,a3,a4⟩:=(ch l).1 b hb;show oC _ (bkAt ws a).at_.toNat=_;rw[ab,kqj];cases d:cG (seenL ws) (bkAt ws a) with
 | false =>
  have g:yE ws (seenL ws) (bkAt ws a)∈aK ws:=by rw[dd h,kzr];refine⟨_,?_,rfl⟩;unfold lw;rw[kzp];exact⟨hb,by rw[d];rfl⟩
  obtain⟨f,-,k,p,m,i,j,e,-⟩:=dh h g;have o:=congrArg En.a e;have:f=a:=by have:((bkAt ws a).at_:Int)=(f:Int):=o;rw[ab] at this;omega
  subst this;have:=du (aK ws) ws (dg h) _ g (by rw[e];dsimp only;omega) (by rw[e];dsimp only;omega);rw[e] at this;dsimp only at this;rw[kqj] at this;unfold oC;rw[this,(hU i j _).2.1]
 | true =>
  have n:wd (ak ws (aK ws)) a=wd ws a:=aU _ _ _ (λe g q=>by
   obtain⟨f,hm,k,p,m,i,j,rfl,c⟩:=dh h g;have:f=a:=by dsimp only at q;omega
   subst this;rw[d] at c;cases c)
  unfold oC;rw[n];unfold cG at d;exact kqw.1 d
theorem Fv{l:List Bk}(h:l.Pairwise (λa b=>a.at_<b.at_)):(eG l).Pairwise (· < ·):=by unfold eG;rw[kkn];exact List.Pairwise.filter _ h
theorem Bu{l:List Bk}(h:l.Pairwise (λa b=>a.at_<b.at_)):(l.map (mkB xs)).Pairwise (λa b=>a.at_<b.at_):=by rw[kkn];exact h
theorem gx(h:aC ws=0)(x:Int):x∈eh ws↔∃a:Nat,x=(a:Int)/\a<ws.length/\Rch ws a:=by
 rw[ei h];unfold rk;rw[kzr];constructor
 .rintro ⟨a,b,rfl⟩;rw[kzp,kzj] at b;exact⟨a,rfl,b.1,(kF b.1).1 b.2⟩
 rintro ⟨a,rfl,c,d⟩;exact⟨a,kzp.2 ⟨kzj.2 c,(kF c).2 d⟩,rfl⟩
theorem zO(h:aC ws=0):(eh ws).Pairwise (· < ·):=by rw[ei h];unfold rk;rw[kkn];refine List.Pairwise.filter _ ?_;refine List.Pairwise.imp (R:=(· < ·)) (λ{a b} hab=>?_) List.pairwise_lt_range;omega
theorem EH(h:aC ws=0):eG ((af ws).map (mkB (ak ws (aK ws))))=eh ws:=by
 obtain⟨l,-,h3⟩:=aI h;have d:=ch l;refine IH (Fv (Bu d.2)) (zO h) λx=>?_;rw[gx h];unfold eG;rw[kzr];constructor
 .rintro ⟨c,i,rfl⟩;rw[kzp,kzr] at i;obtain⟨⟨b,e,rfl⟩,g⟩:=i;rw[kN h e] at g;obtain⟨a,rfl,a1,a2,f,a4⟩:=d.1 b e;exact⟨a,ab ws a,f,(fv f).1 g⟩
 rintro ⟨a,rfl,k,j⟩;obtain⟨b,e,rfl,-,-⟩:=rb h j;refine⟨mkB (ak ws (aK ws)) (bkAt ws a),?_,ab ws a⟩;rw[kzp];refine⟨kjk e,?_⟩;rw[kN h e];exact (fv k).2 j
theorem nU(h:aC ws=0):(∀(i:Nat) (x:En),(aK ws)[i]? = some x->128<=x.a/\x.a<(ws.length:Int))/\∀(i:Nat) (x y:En),(aK ws)[i]? = some x->(aK ws)[i+1]? = some y->x.a<y.a:=by
 refine⟨λi x b=>?_,λi x y b j=>?_⟩
 .obtain ⟨a,-,a1,-,a3,-,-,rfl,-⟩:=dh h (List.mem_of_getElem? b);dsimp only;omega
 have c:=dg h;rw[kzd] at c;obtain⟨f,d⟩:=kzb.1 b;obtain⟨g,e⟩:=kzb.1 j;rw[<-d,<-e];exact c i (i+1) f g (by omega)
theorem fD(ws:List Nat)(a u:Nat):(ju ws a u).length=szAt ws a:=by simp[ju]
theorem DU(l:List Nat):∀(ws:List Nat) (t:Nat),t+l.length<=ws.length->ak ws ((List.range l.length).map λj=>(⟨((t+j:Nat):Int),l[j]?.getD 0⟩:En))=eT ws t l:=by
 induction l with
 | nil=>intro ws t _;rfl
 | cons v l ih =>intro ws t h;simp only[kq0] at h;rw[kq0,List.range_succ_eq_map,kxj,List.map_map];simp only[ak,eT,kz8];rw[if_pos (by omega),kqj,List.getElem?_cons_zero,kq8,<-ih _ (t+1) (by rw[kq4];omega)];congr 1;apply kz2;intro j _;simp only[Function.comp];rw[show t+Nat.succ j=t+1+j by omega];simp
theorem Cj(h:u+szAt ws a<=ws.length):ak ws (ju ws a u)=eT ws u (dW ws a):=by rw[<-DU _ _ _ (by rw[f9];exact h),f9];congr 1;unfold ju;apply kz2;intro j b;rw[kr _ _ _ (kzj.1 b)];rfl
theorem qy(ho:∀x∈ws,x<18446744073709551616)(h:je { aq (wd ws a) with mark:=false }=true):∀e∈ju ws a u,e.v<18446744073709551616:=by
 intro e b;simp only[ju,kzr] at b;obtain⟨j,-,rfl⟩:=b;dsimp only;split
 .exact qn h
 split
 .omega
 exact fM ho _
theorem fa{k:Nat}(h:k<(ju ws a u).length):((ju ws a u)[k]).a=((u+k:Nat):Int):=by simp[ju]
theorem yO:∀ {l:List Bk} {s:Int},(∀b∈l,0<=b.size)->s<=aP l s:=by
 intro l
 induction l with
 | nil=>intro s _;exact kks _
 | cons b l ih =>
  intro s h;have h1:=h b (by simp);simp only[aP];split
  .have:=ih (s:=s+b.size) (λc a=>h c (by simp[a]));omega
  exact ih (λc a=>h c (by simp[a]))
theorem tR:∀ {l:List Bk} {s:Int},0<=s->(∀b∈l,0<=b.size)->∀e∈aV l s,(e.v:Int)<=aP l s:=by
 intro l
 induction l with
 | nil=>intro s _ _ e h;simp[aV] at h
 | cons b l ih =>
  intro s hs h e a;have h1:=h b (by simp);have f:∀c∈l,0<=c.size:=λc g=>h c (by simp[g]);have hns:s<=eX b s:=by unfold eX;split<;>omega
  have hge:=yO (l:=l) (s:=eX b s) f;have d:aP (b::l) s=aP l (eX b s):=by simp only[aP,eX];split<;>rfl
  rw[d];simp only[aV,kz0] at a;rcases a with a|a
  .split at a
   .simp only[kqx,kzf,or_false] at a;subst a;show ((bE b s:Nat):Int)<=_;unfold bE;split<;>omega
   simp at a
  exact ih (by omega) f e a
theorem uz(h:ah x=0):(ay x).length<=1024/\∀e∈ay x,e.v<18446744073709551616:=by
 have k:ay x=aV (af x) 128:=by unfold ay;rw[if_pos h]
 rw[k];refine⟨kz3 (om _ _) (jG x),λe j=>?_⟩;obtain⟨a,d,c,hs3⟩:=eQ (gj h).2.2.1;have h1:=tR (l:=af x) (s:=128) (by omega) (λb g=>by
  obtain⟨i,f,rfl⟩:=kqz g;have:=vA (gj h).2.2.1 f;omega) e j
 have m:=lv a (kqa _) d c;rw[kzl] at m;omega
structure Small (n:Nat) (E:List En):Prop where
 pos:1<=E.length
 le:E.length<=32
 inc:E.Pairwise (λa b=>a.a<b.a)
 ins:∀e∈E,(16<=e.a/\e.a<19\/112<=e.a)/\e.a<(n:Int)
 val:∀e∈E,e.v<18446744073709551616
theorem BK(h:l.Pairwise (λa b=>a.a<b.a))(k:Nat):(l.take k).Pairwise (λa b=>a.a<b.a):=h.sublist (kxt k l)
theorem Be(hn:256<=n)(hp:p<4)(h1:l.Pairwise (λa b=>a.a<b.a))(h2:∀e∈l,128<=e.a/\e.a<(n:Int))(h3:∀e∈l,e.v<18446744073709551616):Small n (ie l p):=by
 by_cases h:32<=l.length
 .rw[cm h];refine⟨by rw[kq3];omega,by rw[kq3];omega,BK h1 31,λe c=>?_,λe c=>h3 e (kxv c)⟩;have:=h2 e (kxv c);omega
 rw[fC h];refine⟨by simp,by rw[kq0];omega,List.Pairwise.cons (λe c=>?_) h1,λe c=>?_,λe c=>?_⟩
 .have:=h2 e c;dsimp only;omega
 .rcases kqx.1 c with rfl|c
  .dsimp only;omega
  have:=h2 e c;omega
 rcases kqx.1 c with rfl|c
 .dsimp only;omega
 exact h3 e c
theorem De{a:Int}(h:dA ws a=0):∀e∈cD ws a,a<=e.a/\e.a<(ws.length:Int)/\e.v<2048:=by
 obtain⟨f,-,-,-,-,-,k,n,p,g⟩:=gN h;intro e j;obtain⟨r,l,r2,m,r4⟩:=p e j;have c:=du (cD ws a) ws g e j (by omega) (by omega);rw[l,kqj] at c;by_cases b:∃i,i<(bU ws a).length/\f i=r
 .obtain ⟨i,d,e2⟩:=b;have:=(k i d).2.1;omega
 have:=n r (λi d o=>b ⟨i,d,o⟩);rw[c] at this;exact absurd this.symm m
theorem cg(h:az ws=0):cK ws=0/\aj (ws.length:Int)=true/\jd ws=true/\CV (wd ws 16) (wd ws 17) (wd ws 18)=true:=by have a:=(iJ (kQ h)).1;exact⟨a,f8 a⟩
theorem CB(h1:aj (xs.length:Int)=true)(h2:jd xs=true)(h3:CV (wd xs 16) (wd xs 17) (wd xs 18)=true):cK xs=0:=(mQ h1 (by rw[h2,h3];rfl)).1
theorem ia(h:∀e∈E,19<=e.a)(hi:i<19):wd (ak ws E) i=wd ws i:=aU _ _ _ λe b=>by have:=h e b;omega
theorem kZ(h:Small n E)(h1:19<=i)(h2:i<112):wd (ak ws E) i=wd ws i:=aU _ _ _ λe a=>by have:=(h.ins e a).1;omega
theorem kC(hs:Small ws.length E)(hl:jd ws=true)(h16:wd (ak ws E) 16<=ws.length)(h17:wd (ak ws E) 17<=ws.length)(h18:wd (ak ws E) 18<=ws.length):jd (ak ws E)=true:=by obtain⟨-,c,a,d,e,b⟩:=(bo ws).1 hl;rw[bo,ax];exact⟨⟨h16,h17,h18⟩,by rw[kZ hs (by omega) (by omega)];exact c,by rw[kZ hs (by omega) (by omega)];exact a,by rw[kZ hs (by omega) (by omega)];exact d,by rw[kZ hs (by omega) (by omega)];exact e,by rw[kZ hs (by omega) (by omega)];exact b⟩
def onW (ws xs:List Nat):Prop:=wd ws 16<=wd xs 16/\(wd xs 16=wd ws 16->wd ws 17<=wd xs 17/\wd ws 18<=wd xs 18)
theorem kq(hj:j<ws.length)(hl:∀e∈l,e.a≠(j:Int)):wd (ak ws (⟨(j:Int),v⟩::l)) j=v:=by rw[fK j v l hj,aU _ _ _ hl];unfold wd;rw[kz7 hj];rfl
theorem qb(hj:j<ws.length)(_hne:i≠j):wd (ak ws (⟨(j:Int),v⟩::l)) i=wd (ak (ws.set j v) l) i:=by rw[fK j v l hj]
theorem dE(h:i≠j):wd (ws.set j v) i=wd ws i:=by unfold wd;rw[kjc (by omega)]
theorem eE(hck:az ws=0)(hp:wd ws 16=p)(hp2:p=1\/p=2)(h1:l.Pairwise (λa b=>a.a<b.a))(h2:∀e∈l,128<=e.a/\e.a<(ws.length:Int))(h3:∀e∈l,e.v<18446744073709551616):
 Small ws.length (ie l (p+1))/\cK (ak ws (ie l (p+1)))=0/\onW ws (ak ws (ie l (p+1)))/\wd (ak ws (ie l (p+1))) 16=(if 32<=l.length then p else p+1)/\wd (ak ws (ie l (p+1))) 17=0/\wd (ak ws (ie l (p+1))) 18=0:=by
 obtain⟨-,o,r,m⟩:=cg hck;have hb:=(aa _).1 o;have f:=Be (n:=ws.length) (p:=p+1) (by omega) (by omega) h1 h2 h3;have g:wd ws 17=0/\wd ws 18=0:=by rcases (co _ _ _).1 m with h|h|h<;>omega
 have q:wd (ak ws (ie l (p+1))) 16=(if 32<=l.length then p else p+1)/\wd (ak ws (ie l (p+1))) 17=0/\wd (ak ws (ie l (p+1))) 18=0:=by
  by_cases h:32<=l.length
  .rw[cm h,if_pos h];have c:∀e∈l.take 31,19<=e.a:=λe d=>by have:=h2 e (kxv d);omega
   rw[ia c (by omega),ia c (by omega),ia c (by omega)];exact⟨hp,g⟩
  rw[fC h,if_neg h,show (16:Int)=((16:Nat):Int) from rfl];have c:∀e∈l,19<=e.a:=λe d=>by have:=h2 e d;omega
  rw[kq (by omega) (λe d=>by have:=c e d;omega),qb (by omega) (by omega),qb (by omega) (by omega),ia c (by omega),ia c (by omega),dE (by omega),dE (by omega)];exact⟨rfl,g⟩
 obtain⟨k,j,i⟩:=q;have hle:(if 32<=l.length then p else p+1)<=3/\p<=(if 32<=l.length then p else p+1):=by split<;>omega
 refine⟨f,CB (by rw[ax];exact o) (kC f r (by rw[k];omega) (by rw[j];omega) (by rw[i];omega)) ?_,⟨by rw[k,hp];omega,λ_=>by rw[j,i,g.1,g.2];exact⟨kqa _,kqa _⟩⟩,k,j,i⟩;rw[k,j,i,co];rcases hp2 with rfl|rfl
 .right;right;split<;>omega
 by_cases h:32<=l.length
 .rw[if_pos h];right;right;omega
 rw[if_neg h];right;left;exact⟨rfl,rfl,.inl rfl⟩
theorem gb{f:Nat}(hck:az ws=0)(hp:wd ws 16=3)(hf:kA f=true)(hfn:f<=ws.length)(hfw:wd ws 17<=f)(h0:l.length<=31)(h1:l.Pairwise (λa b=>a.a<b.a))(h2:∀e∈l,112<=e.a/\e.a<(ws.length:Int))(h3:∀e∈l,e.v<18446744073709551616):
 Small ws.length (⟨17,f⟩::l)/\cK (ak ws (⟨17,f⟩::l))=0/\onW ws (ak ws (⟨17,f⟩::l))/\wd (ak ws (⟨17,f⟩::l)) 16=3/\wd (ak ws (⟨17,f⟩::l)) 17=f/\wd (ak ws (⟨17,f⟩::l)) 18=0:=by
 obtain⟨-,o,q,n⟩:=cg hck;have hb:=(aa _).1 o;have hi:=(aL f).1 hf;have c:∀e∈l,19<=e.a:=λe d=>by have:=h2 e d;omega
 have g:wd ws 18=0:=by rcases (co _ _ _).1 n with h|h|h<;>omega
 have i:Small ws.length (⟨17,f⟩::l):=by
  refine⟨by simp,by rw[kq0];omega,List.Pairwise.cons (λe d=>?_) h1,λe d=>?_,λe d=>?_⟩
  .have:=c e d;dsimp only;omega
  .rcases kqx.1 d with rfl|d
   .dsimp only;omega
   have:=h2 e d;omega
  rcases kqx.1 d with rfl|d
  .dsimp only;omega
  exact h3 e d
 have p:wd (ak ws (⟨17,f⟩::l)) 16=3/\wd (ak ws (⟨17,f⟩::l)) 17=f/\wd (ak ws (⟨17,f⟩::l)) 18=0:=by rw[show (17:Int)=((17:Nat):Int) from rfl];rw[qb (by omega) (by omega),kq (by omega) (λe d=>by have:=c e d;omega),qb (by omega) (by omega),ia c (by omega),ia c (by omega),dE (by omega),dE (by omega)];exact⟨hp,rfl,g⟩
 obtain⟨m,k,j⟩:=p;refine⟨i,CB (by rw[ax];exact o) (kC i q (by rw[m];omega) (by rw[k];omega) (by rw[j];omega)) ?_,⟨by rw[m,hp];exact kqa _,λ_=>by rw[k,j,g];exact⟨hfw,kqa _⟩⟩,m,k,j⟩;rw[m,k,j,co];right;left;exact⟨rfl,rfl,.inr hf⟩
theorem fE(hck:az ws=0)(hp:wd ws 16=3):Small ws.length b9/\cK (ak ws b9)=0/\onW ws (ak ws b9)/\wd (ak ws b9) 16=4/\wd (ak ws b9) 17=128/\wd (ak ws b9) 18=128:=by
 obtain⟨-,g,j,hph⟩:=cg hck;have hb:=(aa _).1 g;have b:Small ws.length b9:=by
  refine⟨by decide,by decide,by unfold b9;simp,λe a=>?_,λe a=>?_⟩
  .unfold b9 at a;simp only[kqx,kzf,or_false] at a;rcases a with rfl|rfl|rfl<;>(dsimp only;omega)
  unfold b9 at a;simp only[kqx,kzf,or_false] at a;rcases a with rfl|rfl|rfl<;>(dsimp only;omega)
 have i:wd (ak ws b9) 16=4/\wd (ak ws b9) 17=128/\wd (ak ws b9) 18=128:=by
  unfold b9;rw[show (16:Int)=((16:Nat):Int) from rfl,show (17:Int)=((17:Nat):Int) from rfl,show (18:Int)=((18:Nat):Int) from rfl];rw[fK 16 _ _ (by omega),fK 17 _ _ (by rw[kq4];omega),fK 18 _ _ (by rw[kq4,kq4];omega)];simp only[ak];refine⟨?_,?_,?_⟩
  .rw[dE (by omega),dE (by omega)];unfold wd;rw[kz7 (by omega)];rfl
  .rw[dE (by omega)];unfold wd;rw[kz7 (by rw[kq4];omega)];rfl
  unfold wd;rw[kz7 (by rw[kq4,kq4];omega)];rfl
 obtain⟨c,f,d⟩:=i;refine⟨b,CB (by rw[ax];exact g) (kC b j (by rw[c];omega) (by rw[f];omega) (by rw[d];omega)) (by rw[c,f,d];decide),⟨by rw[c,hp];omega,λh=>by rw[c,hp] at h;exact absurd h (by decide)⟩,c,f,d⟩
theorem k9{f t:Nat}(hck:az ws=0)(hp:wd ws 16=4)(hf:kA f=true)(ht:kA t=true)(htf:t<=f)(hfn:f<=ws.length)(hfw:wd ws 17<=f)(htw:wd ws 18<=t)(h0:l.length<=30)(h1:l.Pairwise (λa b=>a.a<b.a))(h2:∀e∈l,112<=e.a/\e.a<(ws.length:Int))(h3:∀e∈l,e.v<18446744073709551616):
 Small ws.length (⟨17,f⟩::⟨18,t⟩::l)/\cK (ak ws (⟨17,f⟩::⟨18,t⟩::l))=0/\onW ws (ak ws (⟨17,f⟩::⟨18,t⟩::l))/\wd (ak ws (⟨17,f⟩::⟨18,t⟩::l)) 16=4/\wd (ak ws (⟨17,f⟩::⟨18,t⟩::l)) 17=f/\wd (ak ws (⟨17,f⟩::⟨18,t⟩::l)) 18=t:=by
 obtain⟨-,k,n,hph⟩:=cg hck;have hb:=(aa _).1 k;have hi:=(aL f).1 hf;have hj:=(aL t).1 ht;have d:∀e∈l,19<=e.a:=λe c=>by have:=h2 e c;omega
 have g:Small ws.length (⟨17,f⟩::⟨18,t⟩::l):=by
  refine⟨by simp,by rw[kq0,kq0];omega,List.Pairwise.cons (λe c=>?_) (List.Pairwise.cons (λe c=>?_) h1),λe c=>?_,λe c=>?_⟩
  .rcases kqx.1 c with rfl|c
   .dsimp only;omega
   have:=d e c;dsimp only;omega
  .have:=d e c;dsimp only;omega
  .rcases kqx.1 c with rfl|c
   .dsimp only;omega
   rcases kqx.1 c with rfl|c
   .dsimp only;omega
   have:=h2 e c;omega
  rcases kqx.1 c with rfl|c
  .dsimp only;omega
  rcases kqx.1 c with rfl|c
  .dsimp only;omega
  exact h3 e c
 have m:wd (ak ws (⟨17,f⟩::⟨18,t⟩::l)) 16=4/\wd (ak ws (⟨17,f⟩::⟨18,t⟩::l)) 17=f/\wd (ak ws (⟨17,f⟩::⟨18,t⟩::l)) 18=t:=by
  rw[show (17:Int)=((17:Nat):Int) from rfl,show (18:Int)=((18:Nat):Int) from rfl];rw[fK 17 _ _ (by omega),fK 18 _ _ (by rw[kq4];omega),ia d (by omega),ia d (by omega),ia d (by omega)];refine⟨?_,?_,?_⟩
  .rw[dE (by omega),dE (by omega)];exact hp
  .rw[dE (by omega)];unfold wd;rw[kz7 (by omega)];rfl
  unfold wd;rw[kz7 (by rw[kq4];omega)];rfl
 obtain⟨j,i,h⟩:=m;refine⟨g,CB (by rw[ax];exact k) (kC g n (by rw[j];omega) (by rw[i];omega) (by rw[h];omega)) ?_,⟨by rw[j,hp];exact kqa _,λ_=>by rw[i,h];exact⟨hfw,htw⟩⟩,j,i,h⟩;rw[j,i,h,co];left;exact⟨rfl,hf,ht,htf⟩
theorem ns{α:Type}{p q:α->Bool}:∀ {l:List α},(∀b∈l,q b=true->p b=true)->(l.filter q).length<=(l.filter p).length/\((∃b∈l,p b=true/\q b=false)->(l.filter q).length<(l.filter p).length):=by
 intro l
 induction l with
 | nil=>intro _;exact⟨kqa _,λ⟨b,d,_⟩=>by simp at d⟩
 | cons b l ih =>
  intro h;obtain⟨i1,j⟩:=ih (λc a=>h c (by simp[a]));have d:=h b (by simp);rw[kxr,kxr];refine⟨?_,λ⟨c,a,g,f⟩=>?_⟩
  .cases e:q b with
   | true=>rw[d e];simp;omega
   | false=>cases i:p b<;>simp<;>omega
  rcases kqx.1 a with rfl|a
  .rw[g,f];simp;omega
  have:=j ⟨c,a,g,f⟩;cases e:q b with
  | true=>rw[d e];simp;omega
  | false=>cases i:p b<;>simp<;>omega
theorem gp(h:aC ws=0)(hs:E.Sublist (aK ws)):Rm ws (ak ws E):=by
 have j:E.Pairwise (λa b=>a.a<b.a):=(dg h).sublist hs;refine⟨ax _ _,λi=>?_⟩;by_cases g:∃e∈E,e.a=(i:Int)
 .obtain ⟨e,c,d⟩:=g;obtain⟨a,-,m,o,a3,k,l,rfl,-⟩:=dh h (hs.subset c);have f:a=i:=by dsimp only at d;omega
  subst f;refine .inr ⟨m,o,k,l,ew ws (bkAt ws a),?_⟩;have:=du E ws j _ c (by dsimp only;omega) (by dsimp only;omega);dsimp only at this;rw[kqj] at this;exact this
 exact .inl (aU _ _ _ (λe c n=>g ⟨e,c,n⟩))
theorem vg(h:aC ws=0)(h32:32<=(aK ws).length):aC (ak ws ((aK ws).take 31))=0/\(aK (ak ws ((aK ws).take 31))).length<(aK ws).length:=by
 have c:((aK ws).take 31).Sublist (aK ws):=kxt _ _;have n:((aK ws).take 31).Pairwise (λa b=>a.a<b.a):=(dg h).sublist c;obtain⟨D,g2,J,g4,I⟩:=(gp h c).same h;refine⟨D,?_⟩;rw[dd D,J,I,kzo,dd h,kzo];rw[<-dd h];obtain⟨x,u⟩:=xq (ak ws ((aK ws).take 31));rw[u];unfold lw;rw[List.filter_map,kzo];have g:=ch (aI h).1;have v:∀b∈af ws,(∀e∈(aK ws).take 31,e.a≠b.at_)->(mkB x b).mark=b.mark:=by intro b t z;obtain⟨a,rfl,a1,a2,a3,a4⟩:=g.1 b t;show oC x (bkAt ws a).at_.toNat=_;rw[ab,kqj];unfold oC;rw[<-u,aU _ _ _ (λe l=>by have:=z e l;rwa [ab] at this)];rfl
 refine (ns (λb t k=>?_)).2 ?_
 .dsimp only[Function.comp_apply] at k |-;cases w:cG (seenL ws) b with
  | false=>rfl
  | true =>
   exfalso;have p:=v b t (λe l F=>by
    obtain⟨a,p,G,K,H,r,o,rfl,f⟩:=dh h (c.subset l);dsimp only at F;have:bkAt ws a=b:=by
     have A:=g.2;rw[kzd] at A;obtain⟨i,E,m⟩:=kqz p;obtain⟨j,C,B⟩:=kqz t;have h3:(af ws)[i].at_=(af ws)[j].at_:=by rw[m,B,ab];exact F
     rcases kj6 i j with s|s|s
     .have:=A i j E C s;omega
     .subst s;rw[<-m,<-B]
     have:=A j i C E s;omega
    rw[this,w] at f;cases f)
   unfold cG at w k;rw[p] at k
   change (!(b.mark==((seenL ws)[b.at_.toNat]?.getD false)))=true at k
   rw[w] at k;exact absurd k (by decide)
 have q:0<((aK ws).take 31).length:=by rw[kq3];omega
 have l:=kqq q;obtain⟨a,p,G,K,H,r,o,m,f⟩:=dh h (c.subset l);refine⟨bkAt ws a,p,by rw[f];rfl,?_⟩;dsimp only[Function.comp_apply];have d:=du _ ws n _ l (by rw[m];dsimp only;omega) (by rw[m];dsimp only;omega);rw[m] at d;dsimp only at d;rw[kqj,u] at d;unfold cG;show (!((mkB x (bkAt ws a)).mark==((seenL ws)[(bkAt ws a).at_.toNat]?.getD false)))=false;have y:(mkB x (bkAt ws a)).mark=ew ws (bkAt ws a):=by show oC x (bkAt ws a).at_.toNat=_;rw[ab,kqj];unfold oC;rw[d,(hU r o _).2.1]
 rw[y];unfold ew;simp
structure Ev (ws xs:List Nat):Prop where
 len:xs.length=ws.length
 at_:∀i,(i%2=0/\96<=i\/96<=i/\i<128)->wd xs i=wd ws i
def nxB (xs:List Nat) (b:Bk):Bk:={ b with next:=wd xs (b.at_.toNat+1) }
section
variable {ws xs:List Nat}
theorem Ev.stands(h:Ev ws xs)(hi:i%2=0)(h96:96<=i):stands xs i=stands ws i:=by unfold Proofs.YtpcajamacpbjcaaGreat.stands;rw[h.at_ i (.inl ⟨hi,h96⟩),h.len]
theorem Ev.bkAt(h:Ev ws xs)(hi:i%2=0)(h96:96<=i):bkAt xs i=nxB xs (bkAt ws i):=by
 unfold nxB;have a:(Proofs.YtpcajamacpbjcaaGreat.bkAt ws i).at_.toNat=i:=by rw[ab,kqj]
 rw[a];unfold Proofs.YtpcajamacpbjcaaGreat.bkAt;rw[h.at_ i (.inl ⟨hi,h96⟩)]
theorem Ev.blocks(h:Ev ws xs):∀i l,blocks ws i=some l->i%2=0->96<=i->blocks xs i=some (l.map (nxB xs)):=by
 refine d7 (λi l=>i%2=0->96<=i->Proofs.YtpcajamacpbjcaaGreat.blocks xs i=some (l.map (nxB xs))) (λi a _ _=>?_) (λi l a e hb d b c=>?_)
 .exact aH (by rw[h.len];exact a)
 have hsz:=aF e;have d:=d (by omega) (by omega);have f:szAt xs i=szAt ws i:=by unfold szAt;rw[h.at_ i (.inl ⟨b,c⟩)]
 rw[aR (by rw[h.len];exact a) (by rw[h.stands b c];exact e),f,d,h.bkAt b c];rfl
theorem Hl(h:Ev ws xs)(hb:b.kind=1->tyA b+1<128):dK xs (nxB xs b)=dK ws b:=by
 by_cases a:b.kind=1
 .have d:=hb a;have c:96<=tyA b:=by unfold tyA;omega
  unfold dK cZ;show (b.kind != 1||(cr (wd xs (tyA b)) (wd xs (tyA b+1))&&b.size==((bi (wd xs (tyA b)%256):Nat):Int)))=_;rw[h.at_ _ (.inr ⟨c,by omega⟩),h.at_ _ (.inr ⟨by omega,d⟩)]
 rw[eC a,eC (b:=nxB xs b) a]
theorem Ev.heap(h:Ev ws xs)(h0:ah ws=0):ah xs=0/\af xs=(af ws).map (nxB xs):=by obtain⟨g,l,c,d,f⟩:=aA h0;have e:=h.blocks 128 l c (by omega) (by omega);rw[f];refine fT (by rw[h.len];exact g) e ?_;rw[List.all_map,kzu];rw[kzu] at d;intro b a;show dK xs (nxB xs b)=true;rw[Hl h (jy c (by omega) b a)];exact d b a
end
theorem fu:∀ {l:List Bk} {s:Int} {e:En},e∈aV l s->∃b∈l,b.kind=1/\e.a=b.at_+1:=by
 intro l
 induction l with
 | nil=>intro s e h;simp[aV] at h
 | cons x l ih =>
  intro s e h;simp only[aV,kz0] at h;rcases h with h|h
  .split at h
   .rename_i hx;rw[kq1] at h;subst h;exact⟨x,by simp,hx.1,rfl⟩
   simp at h
  obtain⟨b,d,c⟩:=ih h;exact⟨b,by simp[d],c⟩
theorem Ej :∀ {l:List Bk} {s:Int},l.Pairwise (λa b=>a.at_<b.at_)->(∀b∈l,0<=b.at_)->(∀b∈l,b.kind=1->wd xs (b.at_.toNat+1)=b.next\/∃e∈aV l s,e.a=b.at_+1/\wd xs (b.at_.toNat+1)=e.v) ->
 (aV (l.map (nxB xs)) s).length<=(aV l s).length/\((∃e∈aV l s,wd xs e.a.toNat=e.v)->(aV (l.map (nxB xs)) s).length<(aV l s).length):=by
 intro l
 induction l with
 | nil=>intro s _ _ _;exact⟨kqa _,λ⟨e,d,_⟩=>by simp[aV] at d⟩
 | cons b l ih =>
  intro s q w u;rw[kkh] at q;have k:∀c∈l,c.kind=1->wd xs (c.at_.toNat+1)=c.next\/∃e∈aV l (eX b s),e.a=c.at_+1/\wd xs (c.at_.toNat+1)=e.v:=by
   intro c g m;rcases u c (by simp[g]) m with j|⟨e,d,t,r⟩
   .exact .inl j
   simp only[aV,kz0] at d;rcases d with d|d
   .split at d
    .rw[kq1] at d;subst d;dsimp only at t;have:=q.1 c g;omega
    simp at d
   exact .inr ⟨e,d,t,r⟩
  obtain⟨i1,y⟩:=ih (s:=eX b s) q.2 (λc g=>w c (by simp[g])) k;have hb0:=w b (by simp);rw[kxj];simp only[aV];have A:eX (nxB xs b) s=eX b s:=rfl;have x:bE (nxB xs b) s=bE b s:=rfl;rw[A,x,kqu,kqu];have n:(nxB xs b).next=wd xs (b.at_.toNat+1):=rfl;have o:(nxB xs b).kind=b.kind:=rfl;have p:(nxB xs b).at_=b.at_:=rfl;have i:b.kind=1->wd xs (b.at_.toNat+1)=b.next\/wd xs (b.at_.toNat+1)=bE b s:=by
   intro m;rcases u b (by simp) m with j|⟨e,d,t,r⟩
   .exact .inl j
   simp only[aV,kz0] at d;rcases d with d|d
   .split at d
    .rw[kq1] at d;subst d;exact .inr r
    simp at d
   obtain⟨c,g,-,h4⟩:=fu d;have:=q.1 c g;omega
  have hle:(if (nxB xs b).kind=1/\(nxB xs b).next≠bE b s then [(⟨(nxB xs b).at_+1,bE b s⟩:En)] else []).length<=(if b.kind=1/\b.next≠bE b s then [(⟨b.at_+1,bE b s⟩:En)] else []).length:=by
   rw[n,o,p];by_cases m:b.kind=1
   .rcases i m with j|j
    .rw[j];exact kqa _
    rw[if_neg (λh=>h.2 j)];exact kqy _
   rw[if_neg (λh=>m h.1)];exact kqy _
  refine⟨by omega,λ⟨e,d,f⟩=>?_⟩;rcases kz0.1 d with d|d
  .split at d
   .rename_i g;rw[kq1] at d;subst d;dsimp only at f;have z:(b.at_+1).toNat=b.at_.toNat+1:=by omega
    rw[z] at f;rw[n,o,p,if_neg (λh=>h.2 f),if_pos g];simp only[kxb,kq0];omega
   simp at d
  have:=y ⟨e,d,f⟩;omega
noncomputable def stM (ws:List Nat):Nat:=if wd ws 16=1 then (aK ws).length+1 else if wd ws 16=2 then (ay ws).length+1 else ws.length+1-wd ws 17
theorem lW :∀k a,ws.length-a<=k->a<=ws.length->(ke ws a).1=0->ke ws a=(0,b9)\/∃m:Nat,128<=m/\a<=m/\m%2=0/\2<=szAt ws m/\szAt ws m%2=0/\m+szAt ws m<=ws.length/\dA ws (m:Int)=0/\ke ws a=(0,⟨17,m+szAt ws m⟩::cD ws (m:Int)):=by
 intro k
 induction k with
 | zero =>
  intro a t u h;by_cases b:bj ws (a:Int)=0
  .obtain ⟨B,v,A,m,e,j,l,i,g,f,-⟩:=fm b;omega
  exact .inl (ki b)
 | succ k ih =>
  intro a t u h;by_cases b:bj ws (a:Int)=0
  .obtain ⟨B,v,A,m,e,j,l,i,g,f,-⟩:=fm b;by_cases d:bU ws (m:Int)=[]
   .have n:=kV b e d;rw[n] at h |-;rcases ih (m+szAt ws m) (by omega) (by omega) h with s|⟨q,r,q2,x,o,p,w,z,y⟩
    .exact .inl s
    exact .inr ⟨q,r,by omega,x,o,p,w,z,y⟩
   by_cases c:dA ws (m:Int)=0
   .exact .inr ⟨m,by omega,j,l,i,g,f,c,qA b e d c⟩
   rw[vc b e d c] at h;exact absurd h c
  exact .inl (ki b)
theorem oL(h:ah x=0):ay x=aV (af x) 128:=by unfold ay;rw[if_pos h]
theorem mu(h:ah ws=0):(ay ws).Pairwise (λa b=>a.a<b.a)/\(∀e∈ay ws,128<=e.a/\e.a<(ws.length:Int))/\(∀e∈ay ws,e.v<18446744073709551616):=by
 have f:ay ws=aV (af ws) 128:=by unfold ay;rw[if_pos h]
 obtain⟨_,l,d,-,g⟩:=aA h;refine⟨?_,λe c=>?_,(uz h).2⟩
 .rw[f,g];exact Cq _ _ d 128
 rw[f,g] at c;have:=qt _ _ d 128 e c;omega
theorem Hm(h:ah ws=0)(h32:32<=(ay ws).length):ah (ak ws ((ay ws).take 31))=0/\(ay (ak ws ((ay ws).take 31))).length<(ay ws).length:=by
 obtain⟨A,B,i3⟩:=mu h;have r:ay ws=aV (af ws) 128:=by unfold ay;rw[if_pos h]
 have d:=ch h;have c:((ay ws).take 31).Sublist (ay ws):=kxt _ _;have g:((ay ws).take 31).Pairwise (λa b=>a.a<b.a):=A.sublist c;have m:∀e∈ay ws,∃a:Nat,e.a=((a+1:Nat):Int)/\a%2=0/\128<=a:=by intro e f;rw[r] at f;obtain⟨b,k,-,z⟩:=fu f;obtain⟨a,rfl,p,u,-⟩:=d.1 b k;exact⟨a,by rw[z,ab];rfl,u,p⟩
 have q:Ev ws (ak ws ((ay ws).take 31)):=by refine⟨ax _ _,λi hi=>aU _ _ _ λe f x=>?_⟩;obtain⟨a,t,p,u⟩:=m e (c.subset f);omega
 obtain⟨w,C⟩:=q.heap h;refine⟨w,?_⟩;have o:ay (ak ws ((ay ws).take 31))=aV ((af ws).map (nxB (ak ws ((ay ws).take 31)))) 128:=by rw[oL w,C]
 rw[o];have j:=Ej (xs:=ak ws ((ay ws).take 31)) (l:=af ws) (s:=128) d.2 (λb k=>by obtain⟨a,rfl,-⟩:=d.1 b k;rw[ab];omega) (λb k hk=>by
  obtain⟨a,rfl,p,u,a3,y⟩:=d.1 b k;have hsz:=aF y;rw[ab,kqj];by_cases v:∃e∈(ay ws).take 31,e.a=((a+1:Nat):Int)
  .obtain ⟨e,f,t⟩:=v;refine .inr ⟨e,by rw[<-r];exact c.subset f,by rw[t];omega,?_⟩;have:=du _ ws g e f (by omega) (by omega);rw[t,kqj] at this;exact this
  exact .inl (by rw[aU _ _ _ (λe f x=>v ⟨e,f,x⟩)];rfl))
 rw[<-r] at j;refine j.2 ?_;have n:0<((ay ws).take 31).length:=by rw[kq3];omega
 have f:=kqq n;have hin:=B _ (c.subset f);exact⟨_,c.subset f,du _ ws g _ f (by omega) (by omega)⟩
theorem lC(ho:∀x∈ws,x<18446744073709551616)(h:(ae ws).1=0):az ws=0/\Small ws.length (ae ws).2/\cK (ak ws (ae ws).2)=0/\onW ws (ak ws (ae ws).2)/\(wd (ak ws (ae ws).2) 16=wd ws 16->stM (ak ws (ae ws).2)<stM ws)/\(1<=wd ws 16/\wd ws 16<=4)/\wd (ak ws (ae ws).2) 16<=wd ws 16+1/\(wd ws 16=4->wd (ak ws (ae ws).2) 16=4):=by
 have c:az ws=0:=by
  by_cases d:az ws=0
  .exact d
  unfold ae at h;rw[if_neg d] at h;exact absurd h d
 obtain⟨-,hs,hl,N⟩:=cg c;have hb:=(aa _).1 hs;obtain⟨⟨l1,l2,l3⟩,-⟩:=(bo ws).1 hl;by_cases p:wd ws 16=1
 .have s:aC ws=0:=by
   by_cases d:aC ws=0
   .exact d
   unfold ae at h;rw[if_pos c,if_pos p,if_neg d] at h;exact absurd h d
  have e:ae ws=(0,ie (aK ws) 2):=by unfold ae;rw[if_pos c,if_pos p,if_pos s]
  rw[e];dsimp only;obtain⟨S,r2⟩:=nU s;obtain⟨w,q,r,o,D,H⟩:=eE c p (.inl rfl) (dg s) (λx hx=>by
   obtain⟨i,Z⟩:=kjr.1 hx;exact S i x Z) (nP s)
  simp only[Nat.reduceAdd] at w q r o D H;refine⟨c,w,q,r,λg=>?_,by omega,by rw[o];split<;>omega,λg=>by omega⟩;have y:32<=(aK ws).length:=by
   rw[o] at g;split at g
   .assumption
   omega
  have hd:=(vg s y).2;rw[p] at g;unfold stM;rw[if_pos g,if_pos p,cm y];omega
 by_cases A:wd ws 16=2
 .have E:ah ws=0:=by
   by_cases d:ah ws=0
   .exact d
   unfold ae at h;rw[if_pos c,if_neg p,if_pos A,if_neg d] at h;exact absurd h d
  have e:ae ws=(0,ie (ay ws) 3):=by unfold ae;rw[if_pos c,if_neg p,if_pos A,if_pos E]
  rw[e];dsimp only;obtain⟨S,r2,r3⟩:=mu E;obtain⟨w,q,r,o,D,H⟩:=eE c A (.inr rfl) S r2 r3;simp only[Nat.reduceAdd] at w q r o D H;refine⟨c,w,q,r,λg=>?_,by omega,by rw[o];split<;>omega,λg=>by omega⟩;have y:32<=(ay ws).length:=by
   rw[o] at g;split at g
   .assumption
   omega
  have hd:=(Hm E y).2;rw[A] at g;unfold stM;rw[if_neg (by omega),if_pos g,if_neg p,if_pos A,cm y];omega
 by_cases L:wd ws 16=3
 .have e:ae ws=sgFix ws:=by unfold ae;rw[if_pos c,if_neg p,if_neg A,if_pos L]
  rw[e] at h |-;have M:∀(f:Nat) (l:List En),sgFix ws=(0,⟨17,f⟩::l)->kA f=true->f<=ws.length->wd ws 17<f->l.length<=31->l.Pairwise (λa b=>a.a<b.a)->(∀e∈l,112<=e.a/\e.a<(ws.length:Int))->(∀e∈l,e.v<18446744073709551616) ->
   az ws=0/\Small ws.length (sgFix ws).2/\cK (ak ws (sgFix ws).2)=0/\onW ws (ak ws (sgFix ws).2)/\(wd (ak ws (sgFix ws).2) 16=wd ws 16->stM (ak ws (sgFix ws).2)<stM ws)/\(1<=wd ws 16/\wd ws 16<=4)/\wd (ak ws (sgFix ws).2) 16<=wd ws 16+1/\(wd ws 16=4->wd (ak ws (sgFix ws).2) 16=4):=by
   intro f l B f1 f2 f3 f4 f5 f6 f7;rw[B];dsimp only;obtain⟨w,q,r,o,D,H⟩:=gb c L f1 f2 (by omega) f4 f5 f6 f7;refine⟨c,w,q,r,λg=>?_,by omega,by rw[o];omega,λg=>by omega⟩;unfold stM;rw[o,if_neg (by decide),if_neg (by decide),if_neg p,if_neg A,ax,D];omega
  by_cases z:wd ws 17=0
  .have J:dZ ws=0:=by
    by_cases d:dZ ws=0
    .exact d
    unfold sgFix at h;rw[if_pos z,if_neg d] at h;exact absurd h d
   have B:sgFix ws=(0,⟨17,128⟩::dL ws):=by unfold sgFix;rw[if_pos z,if_pos J]
   obtain⟨-,-,-,-,-,-,-,T,q2,q3,-⟩:=iQ J;exact M 128 (dL ws) B (by decide) (by omega) (by omega) (by omega) q2 (λe C=>by have:=(T e C).1;omega) (λe C=>(T e C).2)
  have B:sgFix ws=ke ws (wd ws 17):=by unfold sgFix;rw[if_neg z]
  have h':(ke ws (wd ws 17)).1=0:=by rw[<-B];exact h
  rcases lW ws.length (wd ws 17) (by omega) l2 h' with I|⟨m,m1,m2,m3,m4,m5,U,P,m8⟩
  .rw[B,I];dsimp only;obtain⟨w,q,r,o,D,H⟩:=fE c L;exact⟨c,w,q,r,λg=>by rw[o] at g;omega,by omega,by rw[o];omega,λg=>by omega⟩
  obtain⟨f,-,-,-,-,q5,-,-,-,q9⟩:=gN P;have X:=De P;exact M (m+szAt ws m) (cD ws (m:Int)) (by rw[B,m8]) ((aL _).2 (by omega)) U (by omega) (by omega) q9 (λe C=>by have:=X e C;omega) (λe C=>by have:=X e C;omega)
 by_cases R:wd ws 16=4
 .have e:ae ws=sgSld ws:=by unfold ae;rw[if_pos c,if_neg p,if_neg A,if_neg L,if_pos R]
  rw[e] at h |-;have F:bj ws ((wd ws 17:Nat):Int)=0:=by
   by_cases d:bj ws ((wd ws 17:Nat):Int)=0
   .exact d
   unfold sgSld at h;rw[if_neg d] at h;exact absurd h (by decide)
  obtain⟨-,a1,a2,m,V,m1,m2,m3,m4,m5,U,P,m8,-⟩:=fm F;have G:dG ws (m:Int) ((wd ws 18:Nat):Int)=0:=by
   by_cases d:dG ws (m:Int) ((wd ws 18:Nat):Int)=0
   .exact d
   unfold sgSld at h;rw[if_pos F,V,ab,if_neg d] at h;exact absurd h d
  have B:sgSld ws=(0,⟨17,m+szAt ws m⟩::⟨18,wd ws 18+szAt ws m⟩::ju ws m (wd ws 18)):=by unfold sgSld;rw[if_pos F,V,ab,if_pos G,bq,show ((m:Int)+((szAt ws m:Nat):Int)).toNat=m+szAt ws m by omega,show (((wd ws 18:Nat):Int)+((szAt ws m:Nat):Int)).toNat=wd ws 18+szAt ws m by omega];unfold iO;rw[if_pos G,kqj,kqj]
  obtain⟨a,u,n,Y,W,en,n2,n10,hu,hua,han,hst,hlv,-,-,Q⟩:=fB G;have Y:a=m:=by omega
  have W:u=wd ws 18:=by omega
  subst Y W;subst en;have O:=(co _ _ _).1 N;have K:kA (wd ws 17)=true/\kA (wd ws 18)=true/\wd ws 18<=wd ws 17:=by
   rcases O with I|I|I
   .exact I.2
   .omega
   omega
  have i1:=(aL _).1 K.1;have i2:=(aL _).1 K.2.1;rw[B];dsimp only;obtain⟨w,q,r,o,D,H⟩:=k9 (f:=a+szAt ws a) (t:=wd ws 18+szAt ws a) (l:=ju ws a (wd ws 18)) c R ((aL _).2 (by omega)) ((aL _).2 (by omega)) (by omega) (by omega) (by omega) (by omega) (by rw[fD];omega) (by
   rw[kzd];intro i j Z hj hij;rw[fa,fa];omega) (λe C=>by
   obtain⟨k,hk,rfl⟩:=kqz C;rw[fa];rw[fD] at hk;omega) (qy ho Q)
  refine⟨c,w,q,r,λg=>?_,by omega,by rw[o];omega,λg=>o⟩;unfold stM;rw[o,if_neg (by decide),if_neg (by decide),if_neg p,if_neg A,ax,D];omega
 have e:ae ws=(6,[]):=by unfold ae;rw[if_pos c,if_neg p,if_neg A,if_neg L,if_neg R]
 rw[e] at h;exact absurd h (by decide)
noncomputable def oT (p:Nat):Nat->List Nat->Int × List (List En) × List Nat
 | 0,x=>(0,[],x)
 | f+1,x=>if wd x 16=p then (if (ae x).1=6 then (0,[],x) else if (ae x).1=0 then
  (if (oT p f (ak x (ae x).2)).1=0 then (0,(ae x).2::(oT p f (ak x (ae x).2)).2.1,(oT p f (ak x (ae x).2)).2.2) else ((oT p f (ak x (ae x).2)).1,[],[]))
  else ((ae x).1,[],[])) else (0,[],x)
noncomputable def mzS (p:Nat) (x:List Nat):Nat:=if wd x 16=p then stM x+1 else 0
theorem dH(ho:∀x∈ws,x<18446744073709551616)(h:(ae ws).1=0):∀x∈ak ws (ae ws).2,x<18446744073709551616:=tT _ _ ho (lC ho h).2.1.val
theorem fL(ho:∀v∈x,v<18446744073709551616)(hp:wd x 16=p)(h:(ae x).1=0):mzS p (ak x (ae x).2)<mzS p x:=by
 unfold mzS;rw[if_pos hp];split
 .rename_i h1;have:=(lC ho h).2.2.2.2.1 (by rw[h1,hp]);omega
 omega
theorem A8 :∀ {f g:Nat} {x:List Nat},(∀v∈x,v<18446744073709551616)->mzS p x<=f->mzS p x<=g->oT p f x=oT p g x:=by
 have d:∀n,∀f g x,(∀v∈x,v<18446744073709551616)->mzS p x<=n->mzS p x<=f->mzS p x<=g->oT p f x=oT p g x:=by
  intro n
  induction n with
  | zero =>
   intro f g x b h c i;have a:¬ wd x 16=p:=λa=>by unfold mzS at h;rw[if_pos a] at h;omega
   cases f with
   | zero =>
    cases g with
    | zero=>rfl
    | succ g=>simp only[oT];rw[if_neg a]
   | succ f =>
    cases g with
    | zero=>simp only[oT];rw[if_neg a]
    | succ g=>simp only[oT];rw[if_neg a,if_neg a]
  | succ n ih =>
   intro f g x b h c i;by_cases a:wd x 16=p
   .have h1:0<mzS p x:=by unfold mzS;rw[if_pos a];omega
    obtain⟨f,rfl⟩:∃f',f=f'+1:=⟨f-1,by omega⟩;obtain⟨g,rfl⟩:∃g',g=g'+1:=⟨g-1,by omega⟩;simp only[oT];by_cases e:(ae x).1=0
    .have hd:=fL b a e;rw[ih f g (ak x (ae x).2) (dH b e) (by omega) (by omega) (by omega)]
    simp only[e,if_false]
   cases f with
   | zero =>
    cases g with
    | zero=>rfl
    | succ g=>simp only[oT];rw[if_neg a]
   | succ f =>
    cases g with
    | zero=>simp only[oT];rw[if_neg a]
    | succ g=>simp only[oT];rw[if_neg a,if_neg a]
 intro f g x b c i;exact d _ f g x b (kqa _) c i
noncomputable def dx (p:Nat) (x:List Nat):Int × List (List En) × List Nat:=oT p (mzS p x) x
theorem cM(h:wd x 16≠p):dx p x=(0,[],x):=by unfold dx mzS;rw[if_neg h];rfl
theorem kH(hp:wd x 16=p)(h:(ae x).1=6):dx p x=(0,[],x):=by unfold dx mzS;rw[if_pos hp];simp only[oT];rw[if_pos hp,if_pos h]
theorem qY(hp:wd x 16=p)(h:(ae x).1≠6)(h2:(ae x).1≠0):dx p x=((ae x).1,[],[]):=by unfold dx mzS;rw[if_pos hp];simp only[oT];rw[if_pos hp,if_neg h,if_neg h2]
theorem dM(ho:∀v∈x,v<18446744073709551616)(hp:wd x 16=p)(h:(ae x).1=0):dx p x=(if (dx p (ak x (ae x).2)).1=0 then (0,(ae x).2::(dx p (ak x (ae x).2)).2.1,(dx p (ak x (ae x).2)).2.2) else ((dx p (ak x (ae x).2)).1,[],[])):=by
 have hd:=fL ho hp h;have a:mzS p x=stM x+1:=by unfold mzS;rw[if_pos hp]
 have e:oT p (stM x) (ak x (ae x).2)=dx p (ak x (ae x).2):=A8 (dH ho h) (by omega) (kqa _)
 conv=>lhs;unfold dx
 rw[a];simp only[oT];rw[if_pos hp,if_neg (by rw[h];decide),if_pos h,e]
end Go.Proofs.YtpcajamacpbjcaaGreat
