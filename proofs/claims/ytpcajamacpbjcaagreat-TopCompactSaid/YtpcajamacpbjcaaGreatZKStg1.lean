/- Texts laid together: SldM SldU CurP StgP RmkP MkPP SlP WnB StgQ StgD StgS. -/
import Derived.Test.YtpcajamacpbjcaaGreatZKMove
import Derived.WalkSpells
import Derived.Test.YtpcajamacpbjcaaGreatZKCursor
import Derived.Test.YtpcajamacpbjcaaGreatZKWnt
import Derived.Test.YtpcajamacpbjcaaGreatZKFix
import Derived.Test.YtpcajamacpbjcaaGreatZKHeap
set_option maxHeartbeats 16000000
set_option maxRecDepth 100000
set_option linter.all false
namespace Go.Proofs.YtpcajamacpbjcaaGreat
open Lib (hid)
open Go.RowKit
variable {b:Bk}{f t:Int}{E l:List En}{ws x xs:List Nat}{a i j m n p u v:Nat}
open Go.Proofs.Tryz
def ia (ws:List Nat) (a u n i:Nat):List En:=(List.range n).map λj=>if j<i then ⟨((u+j:Nat):Int),wd ws (a+j)⟩ else ⟨0,0⟩
def kx (ws:List Nat) (a u:Nat):List En:=(List.range (szAt ws a)).map λj=>⟨((u+j:Nat):Int),if j=0 then cS { ap (wd ws a) with mark:=false } else if j=1 then 0 else wd ws (a+j)⟩
def jA (ws:List Nat) (f t:Int):List En:=if dY ws f t=0 then kx ws f.toNat t.toNat else []
theorem qv{r:Int}(hr:dY ws f t=r)(h0:r≠0):jA ws f t=[]:=by subst hr;simp[jA,h0]
theorem fV(ws:List Nat)(a u n i:Nat):(ia ws a u n i).length=n:=by simp[ia]
theorem iB(ws:List Nat)(a u n i j:Nat)(hj:j<n):(ia ws a u n i)[j]? = some (if j<i then ⟨((u+j:Nat):Int),wd ws (a+j)⟩ else ⟨0,0⟩):=by simp[ia,hj]
theorem xF(ws:List Nat)(a u n i:Nat)(hi:i<n):ia ws a u n (i+1)=(ia ws a u n i).set i ⟨((u+i:Nat):Int),wd ws (a+i)⟩:=by
 apply kx8;intro j;rw[kxi];by_cases b:j<n
 .rw[iB _ _ _ _ _ _ b,iB _ _ _ _ _ _ b];by_cases e:i=j
  .subst e;rw[if_pos (show i<i+1 by omega),if_pos rfl,if_pos (show i<(ia ws a u n i).length by rw[fV];exact hi)]
  rw[if_neg e];by_cases h:j<i
  .rw[if_pos h,if_pos (by omega)]
  rw[if_neg h,if_neg (by omega)]
 rw[kzc (by rw[fV];omega),if_neg (by omega),kzc (by rw[fV];omega)]
theorem en_set(l:List En)(k:Nat)(x:En):(l.set k x).flatMap En.cells=((l.flatMap En.cells).set (k*2) (.int .i64 x.a)).set (k*2+1) (.int .u64 (x.v:Int)):=by
 have d:=eO En.cells 2 En.len l k 0 (by omega) ⟨x.a,(l[k]?.getD default).v⟩ (.int .i64 x.a) (λy b=>by rw[b];rfl);have c:=eO En.cells 2 En.len (l.set k ⟨x.a,(l[k]?.getD default).v⟩) k 1 (by omega) x (.int .u64 (x.v:Int)) (λy b=>by
  rw[kxi] at b;simp only[if_true] at b;split at b
  .cases b;rfl
  cases b)
 rw[List.set_set] at c;rw[c,d];rfl
theorem Bu(l:List En)(k:Nat)(x:En)(v:Nat)(hk:l[k]? = some x):(l.set k ⟨x.a,v⟩).flatMap En.cells=(l.flatMap En.cells).set (k*2+1) (.int .u64 (v:Int)):=
 eO En.cells 2 En.len l k 1 (by omega) ⟨x.a,v⟩ (.int .u64 (v:Int)) (λy b=>by rw[hk] at b;cases b;rfl)
theorem Il(hn:szAt ws a=n)(h2:2<=n):kx ws a u=((ia ws a u n n).set 0 ⟨(u:Int),cS { ap (wd ws a) with mark:=false }⟩).set 1 ⟨((u+1:Nat):Int),0⟩:=by
 apply kx8;intro j;rw[kxi,kxi];unfold kx;rw[hn];by_cases b:j<n
 .rw[iB _ _ _ _ _ _ b,if_pos b];simp only[kxh,kvn b,kzz,kq3,fV];by_cases d:j=0
  .subst d;simp[b]
  by_cases c:j=1
  .subst c;simp[b]
  rw[if_neg d,if_neg c,if_neg (λh=>c h.symm),if_neg (λh=>d h.symm)]
 rw[if_neg (by omega),if_neg (by omega),kzc (by simp;omega),kzc (by rw[fV];omega)]
theorem I1(n:Nat):(madeCells #[Value.int .i64 0,.int .u64 0] (n*2)).toList=(List.replicate n (⟨0,0⟩:En)).flatMap En.cells:=by
 apply kx8;intro j;by_cases c:j<n*2
 .have d:j/2<(List.replicate n (⟨0,0⟩:En)).length:=by rw[kjp];omega
  have a:=ja En.cells 2 En.len (List.replicate n ⟨0,0⟩) (j/2) (j%2) d (by omega);rw[show j/2*2+j%2=j by omega,List.getElem_replicate] at a;rw[a];have b:(madeCells #[Value.int .i64 0,.int .u64 0] (n*2)).toList[j]? = some (#[Value.int .i64 0,.int .u64 0][j%2]!):=by simp[madeCells,c]
  rw[b];rcases (show j%2=0\/j%2=1 by omega) with h|h<;>rw[h]<;>rfl
 rw[kzc (by rw[kku,size_madeCells];omega),kzc (by rw[cm En.cells 2 En.len,kjp];omega)]
theorem yV(ws:List Nat)(a u n:Nat):ia ws a u n 0=List.replicate n ⟨0,0⟩:=by
 apply kx8;intro j;by_cases b:j<n
 .rw[iB _ _ _ _ _ _ b];simp[b]
 rw[kzc (by rw[fV];omega),kzc (by simp;omega)]
theorem rN(h:bj ws f t=0){l:List Bk}(hl:blocks ws f.toNat=some l)(a:l=[]\/(gk l 0).mark=false):dY ws f t=6:=by
 unfold dY;rw[if_pos h,hl];cases l with
 | nil=>rfl
 | cons b l =>
  rcases a with a|a
  .cases a
  rw[oo] at a;simp[a]
theorem yp(h:bj ws f t=0){l:List Bk}(hl:blocks ws f.toNat=some l)(h0:0<l.length)(h2:(gk l 0).mark=true):dY ws f t=0:=by
 unfold dY;rw[if_pos h,hl];cases l with
 | nil=>simp at h0
 | cons b l=>rw[oo] at h2;simp[h2]
theorem EZ(A:Option Addr)(ws:List Nat)(c n:Nat)(f t:Int)(w:World)(hn:ws.length=n)(hm:n<=9223372036854775807)(hf : -9223372036854775808<=f/\f<=9223372036854775807)(ht : -9223372036854775808<=t/\t<=9223372036854775807)(Z:RdW w w.heap.size A ws)(ho:∀x∈ws,x<18446744073709551616):
 Calls prog 146 #[.slice A n c,.int .i64 f,.int .i64 t] w λe w'=>fL w.heap.size (dY ws f t) (jA ws f t) e w'/\Below w.heap.size w w':=by
 subst hn;have HR:=hid Z;have HO:=hid ho;have U:=hid (rg A ws c ws.length f t w rfl hm hf ht Z ho);unfold xx at U;have m:=hid (λW (h:RdW W W.heap.size A ws)=>mV A ws c ws.length f W rfl hm h ho);unfold rx at m;clear Z ho;by_cases z:bj ws f t=0
 .obtain ⟨g1,g2,l,I,g4,g5⟩:=co z;rw[fK] at g1;obtain⟨f1,f2⟩:=cV g1 (qX g2) I;rw[z] at U;rw[f1,f2] at m;obtain⟨q,hq⟩:=xq ((iH ws f t).length);rw[hq] at U;by_cases v:l.length=0
  .have K:=hid (rN z I (.inl (kx4 v)));rw[v] at m;clear g1 g2 I g4 g5 f1 f2 z hq v;go_enter func146,ntmps146;go_wp2_with fail;refine U.out.mono ?_;rintro e w1 ⟨⟨A1,c1,rfl,-,-⟩,g⟩;go_wp2_with fail;refine (m.out _ (HR.out.up g g.size)).mono ?_;rintro e w2 ⟨⟨A2,c2,rfl,-,-⟩,o⟩;go_wp2;go_ret2;exact⟨bN K.out (qv K.out (by omega)),g.trans (o.mono g.size)⟩
  have s:0<l.length:=by omega
  have hne:((l.length:Int)==0)=false:=by rw[kqi];omega
  have hnen:(l.length==0)=false:=by rw[kqi];exact v
  have hl1i:(0:Int)<(l.length:Int):=by omega
  cases j:(gk l 0).mark
  .have K:=hid (rN z I (.inr j));rw[bU l 0 s] at j;clear g1 g2 I g4 g5 f1 f2 z hq v;go_enter func146,ntmps146;go_wp2_with fail;refine U.out.mono ?_;rintro e w1 ⟨⟨A1,c1,rfl,-,-⟩,g⟩;go_wp2_with fail;refine (m.out _ (HR.out.up g g.size)).mono ?_;rintro e w2 ⟨⟨A2,c2,rfl,G,-⟩,o⟩;obtain⟨b,off,rfl,hb,q0,q1,q2,q3,q4,q5⟩:=RdB.at_ G s;rw[j] at q4;simp only[kvs,kxa] at q4;clear q0 q1 q2 q3 q5 G j;go_wp2;go_ret2;exact⟨bN K.out (qv K.out (by omega)),g.trans (o.mono g.size)⟩
  have Q:=yp z I s j;obtain⟨a,u,n,rfl,rfl,Kw,n2,n10,hu,hua,han,O,Lt,-,-,Lk⟩:=gI Q;rw[kqj] at I;have Y:=(cM I (by omega)).2.1;have Li:l[0]=bkAt ws a:=by rw[<-bU l 0 s,Y]
  have Lf:l[0].size=((n:Nat):Int):=by rw[Li,bo,Kw]
  rw[bU l 0 s] at j;have La:aG (wd ws a)=true:=by unfold stands at O;simp only[kqu] at O;exact O.1
  have Eq:gN (wd ws a) false=cS { ap (wd ws a) with mark:=false }/\pm (wd ws a) false=0:=by unfold gN pm;rw[if_pos La,if_pos La];have h1:jB (iQ (wd ws a) false)=true:=Lk;exact⟨by unfold jH;rw[if_pos h1];rfl,js h1⟩
  have M:=hid (λW=>pL (wd ws a) false W (fT HO.out a));rw[Eq.1,Eq.2] at M;have Kz:=hid (Il (u:=u) Kw.symm n2);have E:Hid (dY ws (a:Int) (u:Int)=0/\jA ws (a:Int) (u:Int)=kx ws a u):=hid ⟨Q,by simp[jA,Q]⟩;obtain⟨N,Lm⟩:∃N,cS { ap (wd ws a) with mark:=false }=N:=⟨_,rfl⟩;rw[Lm] at M Kz;obtain⟨b0,Lo,Kx,Lq,p0⟩:=RdW.at_ HR.out (show a<ws.length by omega);subst Kx;rw[<-cF] at p0;have Le:=ir ws g1;have hlen:ws.length<=2048:=Le.2.1;have ha0:(0:Int)<=(a:Int):=by omega
  have ha1:(a:Int)<(ws.length:Int):=by omega
  have hn0:(0:Int)<=(n:Int):=by omega
  obtain⟨x,hx⟩:=xq (wd ws a);rw[hx] at p0 M;clear g1 g2 I g4 g5 f1 f2 z Q hq v Y Li La Eq Lk Lm O Lt hx Le hf ht Kw;obtain⟨i0,hi,Lc,Ln,Lh⟩:=kzr dD;have L:=hid (And.intro hi (And.intro Lc (And.intro Ln Lh)));clear hi Lc Ln Lh;go_enter func146,ntmps146;go_wp2_with fail;refine U.out.mono ?_;rintro e w1 ⟨⟨A1,c1,rfl,-,-⟩,g⟩;go_wp2_with fail;refine (m.out _ (HR.out.up g g.size)).mono ?_;rintro e w2 ⟨⟨A2,c2,rfl,G,-⟩,o⟩;have S:=g.trans (o.mono g.size);obtain⟨b,off,rfl,hb,q0,q1,q2,q3,q4,q5⟩:=RdB.at_ G s;rw[j] at q4;rw[Lf] at q1;simp only[kvs,kxa] at q4 q1;have p2:=(S.cell (p:=⟨b0,Lo+a,none⟩) Lq).trans p0;clear q0 q2 q3 q5 G j Lf;go_wp2_with fail;refine (M.out _).mono ?_;rintro e V ⟨rfl,Ky⟩;have Lb:=S.trans (Ky.mono S.size);have q1':=(Ky.cell (p:=⟨b,off+1,none⟩) hb).trans q1;obtain⟨W0,j,C,Ld⟩:=run_make_full (P:=prog) V w.heap.size 26 89 i0 (.agg #[.int .i64 0,.int .u64 0]) 2 underlying26 L.out.1 L.out.2.1 L.out.2.2.1 .i64 .i64 n (by rw[L.out.2.2.2];omega) (by unfold maxLen;omega) Lb.size;have D:W0.ownsRow w.heap.size 89 2 (.slice (some ⟨V.heap.size,0,none⟩) n n) n ((ia ws a u n 0).flatMap En.cells):=by rw[yV,<-I1];exact C
  have Lp:=hid D;have Ls:=hid (Lb.grown Ld Lb.size (λk hk=>by cases hk));clear C Ld D Ky S o g q4 q1 p2;go_wp2_with fail;clear j q1';have Lv:Hid (∀i,i<n->ia ws a u n (i+1)=(ia ws a u n i).set i ⟨((u+i:Nat):Int),wd ws (a+i)⟩):=hid λi hi=>xF ws a u n i hi;have R:Hid (∀i,((ia ws a u n i).flatMap En.cells).length=n*2):=hid λi=>by rw[cm En.cells 2 En.len,fV]
  go_loopw [57] (λi wr=>∃k:Nat,k<=n/\i=.int .i64 k/\wr.ownsRow w.heap.size 89 2 (.slice (some ⟨V.heap.size,0,none⟩) n n) n ((ia ws a u n k).flatMap En.cells)/\Below w.heap.size w wr) (λi _=>n-(intOf i).toNat)
  case atStart=>exact⟨0,kqz _,rfl,Lp.out,Ls.out⟩
  obtain⟨k,hk,rfl,d,hB⟩:=hrel;have J:=ft d;by_cases Lr:k<n
  .obtain ⟨b0',off0',Kx,hb0',p0⟩:=RdW.at_ (Rd.below HR.out hB) (show a+k<ws.length by omega);cases Kx;rw[<-cF] at p0;have HS:=hid (Lv.out k Lr);obtain⟨y,hy⟩:=xq (wd ws (a+k));rw[hy] at p0 HS;obtain⟨u0,Lg⟩:∃u0,((ia ws a u n k).flatMap En.cells)[k*2]? = some u0:=⟨_,kql (by rw[R.out];omega)⟩;obtain⟨u1,F⟩:∃u1,((ia ws a u n k).flatMap En.cells)[k*2+1]? = some u1:=⟨_,kql (by rw[R.out];omega)⟩;have d0:=(d.cellAt (k*2) (by omega)).trans Lg;have d1:=(d.cellAt (k*2+1) (by omega)).trans F;have e0:=d.frozenAt (k*2);have e1:=d.frozenAt (k*2+1);have H:=hid d;have hk1:(k:Int)<(n:Int):=by omega
   have hk0:(0:Int)<=(k:Int):=by omega
   have hak:(a:Int)+(k:Int)<(ws.length:Int):=by omega
   have hak0:(0:Int)<=(a:Int)+(k:Int):=by omega
   have hakt:((a:Int)+(k:Int)).toNat=a+k:=by omega
   have hwa:IntKind.i64.wrap ((a:Int)+(k:Int))=(a:Int)+(k:Int):=kqt _ (by omega);have hwu:IntKind.i64.wrap ((u:Int)+(k:Int))=(u:Int)+(k:Int):=kqt _ (by omega);clear hy Lg F d;go_wp2;go_roundw
   case rel =>
    refine⟨k+1,by omega,by go_num,?_,(hB.setCell (p:=⟨V.heap.size,k*2,none⟩) J _).setCell (p:=⟨V.heap.size,k*2+1,none⟩) J _⟩;rw[HS.out,en_set];have h5:=(((H.out.stored (k*2) (.int .i64 ((u:Int)+(k:Int)))).1).stored (k*2+1) (.int .u64 (y:Int))).1;rw[show (((u+k:Nat)):Int)=(u:Int)+(k:Int) by omega];exact h5
   case measure=>simp[intOf];omega
  obtain rfl:k=n:=by omega
  have g0:(ia ws a u k k)[0]? = some ⟨((u+0:Nat):Int),wd ws (a+0)⟩:=by rw[iB _ _ _ _ _ _ (by omega),if_pos (by omega)]
  obtain⟨u1,F⟩:∃u1,((ia ws a u k k).flatMap En.cells)[1]? = some u1:=⟨_,kql (by rw[R.out];omega)⟩;obtain⟨u3,Lj⟩:∃u3,((ia ws a u k k).flatMap En.cells)[3]? = some u3:=⟨_,kql (by rw[R.out];omega)⟩;have d1:=(d.cellAt 1 (by omega)).trans F;have d3:=(d.cellAt 3 (by omega)).trans Lj;have e1:=d.frozenAt 1;have e3:=d.frozenAt 3;have hn1i:(1:Int)<(k:Int):=by omega
  have hn0i:(0:Int)<(k:Int):=by omega
  have X:(((ia ws a u k k).set 0 ⟨(u:Int),N⟩).set 1 ⟨((u+1:Nat):Int),0⟩).flatMap En.cells=(((ia ws a u k k).flatMap En.cells).set 1 (.int .u64 (N:Int))).set 3 (.int .u64 0):=by rw[Bu ((ia ws a u k k).set 0 ⟨(u:Int),N⟩) 1 ⟨((u+1:Nat):Int),wd ws (a+1)⟩ 0 (by rw[kxi,if_neg (by omega),iB _ _ _ _ _ _ (by omega),if_pos (by omega)])];rw[show (⟨(u:Int),N⟩:En)=⟨(⟨((u+0:Nat):Int),wd ws (a+0)⟩:En).a,N⟩ from rfl,Bu _ 0 _ N g0];rfl
  have Ll:=hid X;have H:=hid d;have B:(kx ws a u).length=k:=by rw[Kz.out,kq3,kq3,fV]
  have T:=hid B;clear g0 F Lj X d B;go_wp2;go_ret2;have h5:=(((H.out.stored 1 (.int .u64 (N:Int))).1).stored 3 (.int .u64 0)).1;rw[<-Ll.out,<-Kz.out] at h5;refine⟨⟨some ⟨V.heap.size,0,none⟩,k,by rw[E.out.1,E.out.2,T.out];rfl,?_⟩,(hB.setCell (p:=⟨V.heap.size,1,none⟩) J _).setCell (p:=⟨V.heap.size,3,none⟩) J _⟩;rw[E.out.2,T.out];exact h5
 have K:=hid (show dY ws f t=bj ws f t by unfold dY;rw[if_neg z]);have Lu:(bj ws f t != 0)=true:=by rw[kqv];exact z
 have H0:=hid z;obtain⟨r,Z⟩:=xq (bj ws f t);obtain⟨q,hq⟩:=xq ((iH ws f t).length);rw[Z,hq] at U;rw[Z] at Lu K H0;clear z Z hq;go_enter func146,ntmps146;go_wp2_with fail;refine U.out.mono ?_;rintro e w1 ⟨⟨A1,c1,rfl,-,-⟩,g⟩;go_wp2;go_ret2;exact⟨bN K.out (qv K.out H0.out),g⟩
theorem mC(A:Option Addr)(ws:List Nat)(c n H:Nat)(w:World)(hn:ws.length=n)(h0:0<n)(hm:n<=1000000)(hr:RdW w H A ws)(hH:H<=w.heap.size):
 Calls prog 70 #[.slice A n c] w λe w'=>CM w ws e w':=by have y:=hid (hr.more hH);have r:=hid hn;have q:=hid (ki ws);obtain⟨b,j,rfl,v,-⟩:=RdW.at_ hr (show 0<ws.length by omega);have h:=λ(W:World)=>Lib.run_eql_slice_nil (P:=prog) (w:=W) 22 53 (some ⟨b,j,none⟩) n c 0 0 underlying22;simp only[Option.isNone_some] at h;clear hr hH hn v;obtain⟨B,u,f,i,k⟩:=kzr lq;have x:=hid u;have o:=hid f;have t:=hid i;have p:=hid k;clear u f i k;go_enter func70,ntmps70;go_wp2_with (at_builtin;refine aX _ (by rfl) _ _ 22 rfl w.heap.size 53 B _ 1 8 underlying22 x.out o.out t.out p.out rfl (by decide) (.slice (some ⟨w.heap.size,0,none⟩) 0 0) 0 [] (by rfl) (iT w _ _ _ (kqa _)) w.heap.size (some ⟨b,j,none⟩) n _ (ws.flatMap ae) (by rfl) (by rw[q.out,r.out];omega) (Rd.alloc y.out (kqa _) _) (dy qs _) (by unfold maxLen;omega) (by omega) (by simp) ?_;intro v1 wa a l;have d:=bu ((kqk w.heap.size w).alloc (kqa _) _) (by simp) (iT w w.heap.size 53 1 (kqa _)) l;simp only[kxd,kz2] at a;obtain⟨g,z,rfl⟩:=gt a (by omega);have m:=hid a;have s:=hid d;clear a d l);go_ret;exact⟨g,z,by rw[r.out];rfl,by rw[r.out];exact m.out,s.out⟩
def Cn (w:World) (xs:List Nat) (e:Ending) (w':World):Prop:=∃g c,e=.returned (.tuple #[.slice (some ⟨g,0,none⟩) xs.length c,.int .i64 0])/\w'.ownsRow w.heap.size 53 1 (.slice (some ⟨g,0,none⟩) xs.length c) xs.length (xs.flatMap ae)/\Below w.heap.size w w'
theorem pO(A B:Option Addr)(ws:List Nat)(E:List En)(c d n m H:Nat)(w:World)(hn:ws.length=n)(hm:E.length=m)(hs:ak (n:Int)=true)(hm2:m<=32)(hE:∀e∈E,0<=e.a/\e.a<(n:Int))(hr:RdW w H A ws)(he:RdE w H B E)(hH:H<=w.heap.size):
 Calls prog 53 #[.slice A n c,.slice B m d] w λe w'=>Cn w (ai ws E) e w':=by
 subst hm;obtain⟨b1,b2,-⟩:=(ab _).1 hs;have Z:=hid (aV hs);have HR:=hid (hr.more hH);have Y:=hid (he.more hH);have HN:=hid hn;have y:Hid (∀k,(ai ws (E.take k)).length=n):=hid λk=>by rw[au,hn]
 have O:Hid (∀k (h:k<E.length),0<=E[k].a/\E[k].a<(n:Int)):=hid λk h=>hE _ (kqn h);have I:Hid (∀k (h:k<E.length),ai ws (E.take (k+1))=(ai ws (E.take k)).set E[k].a.toNat E[k].v):=hid λk h=>by rw[oP h,hn,if_pos (hE _ (kqn h))]
 have q:=hid (λW (h:RdW W W.heap.size A ws)=>mC A ws c n W.heap.size W hn (by omega) (by omega) h (kqa _));unfold CM at q;rw[hn] at q;have h32:decide ((32:Int)<(E.length:Int))=false:=by rw[kqh];omega
 clear hr he hH hn hE hs;go_enter func53,ntmps53;go_wp2_with fail;refine (aB A n c w (by omega)).mono ?_;rintro e w1 ⟨rfl,rfl⟩;rw[Z.out];go_wp2_with fail;refine (q.out _ HR.out).mono ?_;rintro e w2 ⟨g,T,rfl,f,r⟩;have t:=hid f;have K:=hid r;clear f r;go_wp2_with fail;go_loopw [22] (λi wr=>∃k:Nat,k<=E.length/\i=.int .i64 k/\wr.ownsRow w.heap.size 53 1 (.slice (some ⟨g,0,none⟩) n T) n ((ai ws (E.take k)).flatMap ae)/\Below w.heap.size w wr) (λi _=>E.length-(intOf i).toNat)
 case atStart=>exact⟨0,kqz _,rfl,t.out,K.out⟩
 obtain⟨k,hk,rfl,f,z⟩:=hrel;have V:=z.size;have D:=ft f;by_cases o:k<E.length
 .obtain ⟨b,off,rfl,hb,U,Q⟩:=RdE.at_ (Rd.below Y.out z) o;have s:=hid (I.out k o);obtain⟨G,S⟩:=O.out k o;obtain⟨x,P⟩:=xq (E[k]);rw[P] at U Q s G S;obtain⟨xa,J⟩:=x;dsimp only at U Q s G S;obtain⟨a,rfl⟩:=kq1 G;rw[kqj] at s;have hk1:(k:Int)<(E.length:Int):=by omega
  have hk0:(0:Int)<=(k:Int):=by omega
  obtain⟨j,l⟩:=xq (ai ws (E.take k));have F:=y.out k;rw[l] at s f F;have N:=(f.cellAt a (by omega)).trans (iC j a (by omega));have X:=f.frozenAt a;obtain⟨u,R⟩:∃u,((j[a]'(by omega):Nat):Int)=u:=⟨_,rfl⟩;rw[R] at N;have L:g<wr.heap.size:=(f.lt g rfl).2;have c0':=(kze wr (.cells #[.int .i64 (a:Int),.int .u64 (J:Int)] 89) ⟨g,a,none⟩ L).trans N;have HO:=hid (f.alloc (.cells #[.int .i64 (a:Int),.int .u64 (J:Int)] 89));have f0':=HO.out.frozenAt a;have M:=hid f;clear P R f l N X;go_wp2;go_roundw
  case rel =>
   refine⟨k+1,by omega,by go_num,?_,(z.setCell (p:=⟨g,a,none⟩) D _).alloc (by rw[kz6];exact V) _⟩;rw[s.out,gC];exact (M.out.stored a (.int .u64 (J:Int))).1.alloc _
  case measure=>simp[intOf];omega
 rw[kq8 (by omega)] at f;have C:=y.out E.length;rw[kzf] at C;go_wp2;go_ret2;exact⟨g,T,by rw[C];rfl,by rw[C];exact f,z⟩
theorem px(l:List Bk):(∃k,k<l.length/\fj l k/\(gk l k).mark=true)\/fj l l.length:=by
 have a:∀n,n<=l.length->(∃k,k<l.length/\fj l k/\(gk l k).mark=true)\/fj l n:=by
  intro n
  induction n with
  | zero=>intro _;exact .inr (nB l)
  | succ n ih =>
   intro hn;rcases ih (by omega) with h|h
   .exact .inl h
   cases b:(gk l n).mark with
   | true=>exact .inl ⟨n,by omega,h,b⟩
   | false=>exact .inr (ol h b)
 exact a l.length (kqa _)
theorem tW(a b:List Bk):eQ (a++b)=eQ a++eQ b:=by unfold eQ;rw[kjc,kxu]
theorem rR{l:List Bk}:∀ {k},k<=l.length->fj l k->eQ (l.take k)=[]:=by
 intro k
 induction k with
 | zero=>intro _ _;rfl
 | succ k ih =>
  intro hk h;have a:k<l.length:=by omega
  rw[sw a,ih (by omega) (λj hj=>h j (by omega))];have:=h k (by omega);rw[bU l k a] at this;simp[this]
theorem Bj(b:Bk)(l:List Bk):(eQ (b::l)).length=(if b.mark=true then 1 else 0)+(eQ l).length:=by
 unfold eQ;cases h:b.mark
 .simp[h]
 simp[h];omega
theorem nT(hs:ak (ws.length:Int)=true){l:List Bk}(h1:128<=a)(h2:a<=ws.length)(h3:a%2=0)(hb:blocks ws a=some l)(hm:0<(eQ l).length):
 ∃(m z:Nat) (l':List Bk),bt ws (a:Int)=0/\(iO ws (a:Int)).at_=(m:Int)/\(iO ws (a:Int)).size=(z:Int)/\a<=m/\2<=z/\m+z<=ws.length/\(m+z)%2=0/\blocks ws (m+z)=some l'/\(eQ l').length+1=(eQ l).length:=by
 have c:fm ws.length (a:Int)=false:=by simp only[fm,kzs,kqh,kqr];omega
 obtain⟨o,q⟩:=cV (a:=(a:Int)) hs c (by rw[kqj];exact hb);rcases px l with⟨k,f,d,b⟩|d
 .obtain ⟨h,r⟩:=uT o q f d b;obtain⟨m,j,f2,t,s,n,p⟩:=cC _ _ hb h3 k f;have i:=aJ n;rw[bU l k f] at h b;have g:=cM p s;refine⟨m,szAt ws m,l.drop (k+1),r,by rw[h,j];rfl,by rw[h,j];rfl,t,i.1,i.2.2,by omega,?_,?_⟩
  .rw[g.2.2.2,kxx]
  have e:l=l.take k++(l[k]::l.drop (k+1)):=by rw[<-kx3 f,kxb]
  have:(eQ l).length=(eQ (l.take k++(l[k]::l.drop (k+1)))).length:=by rw[<-e]
  rw[this,tW,kqs,rR (by omega) d,Bj,b];simp;omega
 have:=rR (kqa _) d;rw[kzf] at this;rw[this] at hm;simp at hm
theorem yw(h:ax ws=0)(hp:¬ wd ws 16<3):ak (ws.length:Int)=true/\(wd ws 16=3\/wd ws 16=4)/\∃a:Nat,hU ws=(a:Int)/\128<=a/\a<=ws.length/\a%2=0/\∃l,blocks ws a=some l/\lfN ws=(eQ l).length:=by
 have t:=jz h;obtain⟨D,F⟩:=iK t;obtain⟨o,A,G⟩:=gx D;obtain⟨⟨l0,p,l2⟩,-⟩:=(bE ws).1 A;have hbd:=ir ws o;have H:=Ec h hp;have d:∀a:Nat,hU ws=(a:Int)->128<=a->a<=ws.length->a%2=0->∀l,blocks ws a=some l->∃a:Nat,hU ws=(a:Int)/\128<=a/\a<=ws.length/\a%2=0/\∃l,blocks ws a=some l/\lfN ws=(eQ l).length:=by
  intro a y B E C l e;refine⟨a,y,B,E,C,l,e,?_⟩;have j:fm ws.length (a:Int)=false:=by simp only[fm,kzs,kqh,kqr];omega
  rw[H,y,(cV (a:=(a:Int)) o j (by rw[kqj];exact e)).2]
 rcases (dd _ _ _).1 G with⟨x,z,u,i3⟩|⟨s,z,u⟩|⟨K,-⟩
 .refine ⟨o,.inr x,?_⟩;have g:=(a9 _).1 z;have r:bj ws (wd ws 17:Nat) (wd ws 18:Nat)=0:=by
   unfold ax at h;rw[if_pos t,if_pos x] at h;split at h
   .exact h
   simp at h
  obtain⟨-,-,l,e,-⟩:=co r;rw[kqj] at e;exact d (wd ws 17) (by unfold hU;rw[if_neg (by omega)]) g.1 p g.2.2 l e
 .refine ⟨o,.inl s,?_⟩;have r:bj ws 128 128=0:=by unfold ax at h;rwa [if_pos t,if_neg (by omega),if_pos s] at h
  obtain⟨-,-,l,e,-⟩:=co r;have f:blocks ws 128=some l:=e;by_cases w:wd ws 17=0
  .exact d 128 (by unfold hU;rw[if_pos (by omega)];rfl) (by omega) (by omega) (by omega) l f
  have g:=(a9 _).1 (u.resolve_left w);have i:hU ws=((wd ws 17:Nat):Int):=by unfold hU;rw[if_neg (by omega)]
  have c:=F s w;unfold pu at c;rw[f] at c;have c:(l.any (λb=>b.at_==((wd ws 17:Nat):Int))||wd ws 17==ws.length)=true:=c;rw[kx1,kx5] at c;rcases c with⟨b,L,n⟩|n
  .obtain ⟨k,J,rfl⟩:=kq0 L;obtain⟨m,I,f2,f3,f4,f5,v⟩:=cC _ _ f (by omega) k J;rw[kqx,I] at n;have q:m=wd ws 17:=by have:((m:Nat):Int)=((wd ws 17:Nat):Int):=n;omega
   rw[q] at v;exact d (wd ws 17) i g.1 p g.2.2 _ v
  rw[kqx] at n;exact d (wd ws 17) i g.1 p g.2.2 [] (aD (by omega))
 exact absurd K hp
def phE (p f t:Nat):List En:=[⟨16,p⟩,⟨17,f⟩,⟨18,t⟩]
theorem fZ(j v:Nat)(l:List En)(h:j<ws.length):ai ws (⟨(j:Int),v⟩::l)=ai (ws.set j v) l:=by simp only[ai];rw[if_pos (by omega),kqj]
def iZ (l:List En) (p:Nat):List En:=if 32<=l.length then l.take 31 else ⟨16,p⟩::l
def cq:List En:=[⟨16,4⟩,⟨17,128⟩,⟨18,128⟩]
theorem fO(h:bt ws (a:Int)=0):ak (ws.length:Int)=true/\128<=a/\a%2=0/\∃m:Nat,iO ws (a:Int)=bkAt ws m/\a<=m/\m%2=0/\2<=szAt ws m/\szAt ws m%2=0/\m+szAt ws m<=ws.length/\stands ws m=true/\(bkAt ws m).mark=true/\(bkAt ws m).kind=1/\∃l,blocks ws a=some l/\cj ws (a:Int)=0/\aT ws (a:Int)=l/\∃k,k<l.length/\fj l k/\blocks ws m=some (l.drop k):=by
 have d:cj ws (a:Int)=0:=by
  by_cases p:cj ws (a:Int)=0
  .exact p
  rw[(wH rfl p).2] at h;exact absurd h p
 have j:ak (ws.length:Int)=true:=by
  cases q:ak (ws.length:Int) with
  | true=>rfl
  | false=>rw[fP q] at d;cases d
 have c:fm ws.length (a:Int)=false:=by
  cases q:fm ws.length (a:Int) with
  | false=>rfl
  | true=>rw[jP j q] at d;cases d
 have ha:=kn c;cases o:blocks ws a with
 | none=>rw[eY j c (by rw[kqj];exact o)] at d;cases d
 | some l =>
  have f:=cV (a:=(a:Int)) j c (l:=l) (by rw[kqj];exact o);rcases px l with⟨k,e,i,g⟩|i
  .obtain ⟨t,-⟩:=uT d f.2 e i g;obtain⟨m,s,u,w,f4,r,v⟩:=cC _ _ o (by omega) k e;have n:=aJ r;have b:=Kp d (k:=k) (by rw[f.2];exact e);rw[f.2] at b;rw[bU l k e] at t g b;rw[s] at g b;rw[g] at b;simp only[kvx,kkm,kqx] at b;exact⟨j,by omega,by omega,m,by rw[t,s],w,u,n.1,n.2.1,n.2.2,r,g,b,l,rfl,d,f.2,k,e,i,v⟩
  rw[(BU d f.2 i).2] at h;cases h
def fixL (ws:List Nat):Nat->Nat->Int × List En
 | 0,_=>(0,cq)
 | f+1,a=>if bt ws (a:Int)=0 then (if b8 ws (iO ws (a:Int)).at_=[] then fixL ws f ((iO ws (a:Int)).at_+(iO ws (a:Int)).size).toNat
  else if dR ws (iO ws (a:Int)).at_=0 then (0,⟨17,((iO ws (a:Int)).at_+(iO ws (a:Int)).size).toNat⟩::cR ws (iO ws (a:Int)).at_)
  else (dR ws (iO ws (a:Int)).at_,[])) else (0,cq)
theorem BS :∀ {f a g:Nat},ws.length-a<f->ws.length-a<g->fixL ws f a=fixL ws g a:=by
 intro f
 induction f with
 | zero=>intro a g h;omega
 | succ f ih =>
  intro a g h hg;cases g with
  | zero=>omega
  | succ g =>
   simp only[fixL];by_cases b:bt ws (a:Int)=0
   .obtain ⟨hs,a1,a2,m,e,m1,m2,m3,m4,m5,-⟩:=fO b;have d:((iO ws (a:Int)).at_+(iO ws (a:Int)).size).toNat=m+szAt ws m:=by rw[e,af,bo];omega
    rw[if_pos b,if_pos b,d];by_cases c:b8 ws (iO ws (a:Int)).at_=[]
    .rw[if_pos c,if_pos c];exact ih (by omega) (by omega)
    rw[if_neg c,if_neg c]
   rw[if_neg b,if_neg b]
def lA (ws:List Nat) (a:Nat):Int × List En:=fixL ws (ws.length+1) a
theorem kL(h:bt ws (a:Int)≠0):lA ws a=(0,cq):=by unfold lA;rw[fixL,if_neg h]
theorem ll(h:bt ws (a:Int)=0)(e:iO ws (a:Int)=bkAt ws m)(h2:b8 ws (m:Int)=[]):lA ws a=lA ws (m+szAt ws m):=by
 obtain⟨hs,a1,a2,b,d,m1,m2,m3,m4,m5,-⟩:=fO h;have c:b=m:=by have:=congrArg Bk.at_ (e.symm.trans d);rw[af,af] at this;omega
 subst c;unfold lA;rw[fixL,if_pos h,e,af,if_pos h2,bo,show (((b:Int)+((szAt ws b:Nat):Int)).toNat)=b+szAt ws b by omega];exact BS (by omega) (by omega)
theorem wh(h:bt ws (a:Int)=0)(e:iO ws (a:Int)=bkAt ws m)(h2:b8 ws (m:Int)≠[])(h3:dR ws (m:Int)≠0):lA ws a=(dR ws (m:Int),[]):=by unfold lA;rw[fixL,if_pos h,e,af,if_neg h2,if_neg h3]
theorem qN(h:bt ws (a:Int)=0)(e:iO ws (a:Int)=bkAt ws m)(h2:b8 ws (m:Int)≠[])(h3:dR ws (m:Int)=0):lA ws a=(0,⟨17,m+szAt ws m⟩::cR ws (m:Int)):=by unfold lA;rw[fixL,if_pos h,e,af,if_neg h2,if_pos h3,bo,show (((m:Int)+((szAt ws m:Nat):Int)).toNat)=m+szAt ws m by omega]
def sgFix (ws:List Nat):Int × List En:=if wd ws 17=0 then (if eI ws=0 then (0,⟨17,128⟩::eC ws) else (eI ws,[])) else lA ws (wd ws 17)
def sgSld (ws:List Nat):Int × List En:=if bt ws ((wd ws 17:Nat):Int)=0 then
 (if dY ws (iO ws ((wd ws 17:Nat):Int)).at_ ((wd ws 18:Nat):Int)=0 then (0,⟨17,((iO ws ((wd ws 17:Nat):Int)).at_+(iO ws ((wd ws 17:Nat):Int)).size).toNat⟩::⟨18,(((wd ws 18:Nat):Int)+(iO ws ((wd ws 17:Nat):Int)).size).toNat⟩::jA ws (iO ws ((wd ws 17:Nat):Int)).at_ ((wd ws 18:Nat):Int))
 else (dY ws (iO ws ((wd ws 17:Nat):Int)).at_ ((wd ws 18:Nat):Int),[])) else (6,[])
noncomputable def ag (ws:List Nat):Int × List En:=if ax ws=0 then
 (if wd ws 16=1 then (if aC ws=0 then (0,iZ (aW ws) 2) else (aC ws,[]))
 else if wd ws 16=2 then (if aj ws=0 then (0,iZ (aK ws) 3) else (aj ws,[]))
 else if wd ws 16=3 then sgFix ws
 else if wd ws 16=4 then sgSld ws else (6,[])) else (ax ws,[])
theorem cN(h:32<=l.length):iZ l p=l.take 31:=by unfold iZ;rw[if_pos h]
theorem jb(h:¬ 32<=l.length):iZ l p=⟨16,p⟩::l:=by unfold iZ;rw[if_neg h]
theorem jn{x:Nat}(h:aG x=true)(hk:(ap x).kind=1)(m:Bool):aG (gN x m)=true/\ap (gN x m)={ ap x with mark:=m }/\pm x m=0/\gN x m<18446744073709551616:=by
 have e:jB (ap x)=true:=by unfold aG at h;simp only[kqu] at h;exact h.1
 have a:jB (iQ x m)=true:=by
  have d:=(bH _).1 e;rw[bH];unfold iQ;dsimp only;refine⟨d.1,.inl ?_⟩;rcases d.2 with b|b
  .exact b
  rw[hk] at b;exact absurd b.1 (by decide)
 have c:gN x m=cS (iQ x m):=by unfold gN jH;rw[if_pos h,if_pos a]
 refine⟨by rw[c];exact kt a,?_,by unfold pm;rw[if_pos h];exact js a,by rw[c];exact qt a⟩;rw[c,kp a];rfl
theorem nH{x:Nat}(h:aG x=true):2048<x:=by unfold aG at h;simp only[kqu] at h;have a:=(bH _).1 h.1;have b:(ap x).size=((x/65536%65536:Nat):Int):=rfl;rw[b] at a;omega
structure Rm (ws xs:List Nat):Prop where
 len:xs.length=ws.length
 at_:∀i,wd xs i=wd ws i\/(128<=i/\i%2=0/\aG (wd ws i)=true/\(ap (wd ws i)).kind=1/\∃m,wd xs i=gN (wd ws i) m)
section
variable {ws xs:List Nat}
theorem Rm.low(h:Rm ws xs)(hi:i<128):wd xs i=wd ws i:=by
 rcases h.at_ i with a|a
 .exact a
 omega
theorem Rm.odd(h:Rm ws xs)(hi:i%2=1):wd xs i=wd ws i:=by
 rcases h.at_ i with a|a
 .exact a
 omega
theorem Rm.sp(h:Rm ws xs)(i:Nat):aG (wd xs i)=aG (wd ws i):=by
 rcases h.at_ i with d|⟨-,-,a,c,m,b⟩
 .rw[d]
 rw[b,a,(jn a c m).1]
def tG (xs:List Nat) (i:Nat):Bool:=(ap (wd xs i)).mark
theorem Rm.raw(h:Rm ws xs)(i:Nat):ap (wd xs i)={ ap (wd ws i) with mark:=tG xs i }:=by
 unfold tG;rcases h.at_ i with d|⟨-,-,a,c,m,b⟩
 .rw[d]
 rw[b,(jn a c m).2.1]
theorem Rm.sz(h:Rm ws xs)(i:Nat):(ap (wd xs i)).size=(ap (wd ws i)).size:=by rw[h.raw i]
theorem Rm.szAt(h:Rm ws xs)(i:Nat):szAt xs i=szAt ws i:=by have a:=h.sz i;have e:∀w,(ap w).size=((w/65536%65536:Nat):Int):=λ_=>rfl;rw[e,e] at a;unfold Proofs.YtpcajamacpbjcaaGreat.szAt;exact Int.ofNat.inj a
theorem Rm.stands(h:Rm ws xs)(i:Nat):stands xs i=stands ws i:=by unfold Proofs.YtpcajamacpbjcaaGreat.stands;rw[h.sp,h.sz,h.len]
def mkB (xs:List Nat) (b:Bk):Bk:={ b with mark:=tG xs b.at_.toNat }
theorem Rm.bkAt(h:Rm ws xs)(hi:i%2=0):bkAt xs i=mkB xs (bkAt ws i):=by
 unfold mkB;have a:(Proofs.YtpcajamacpbjcaaGreat.bkAt ws i).at_.toNat=i:=by rw[af,kqj]
 rw[a];unfold Proofs.YtpcajamacpbjcaaGreat.bkAt;rw[h.raw i,h.odd (i:=i+1) (by omega)]
theorem Rm.blocks(h:Rm ws xs):∀i l,blocks ws i=some l->i%2=0->blocks xs i=some (l.map (mkB xs)):=by
 refine dP (λi l=>i%2=0->Proofs.YtpcajamacpbjcaaGreat.blocks xs i=some (l.map (mkB xs))) (λi b _=>?_) (λi l b c hb a d=>?_)
 .exact aD (by rw[h.len];exact b)
 have hsz:=aJ c;have a:=a (by omega);rw[aL (by rw[h.len];exact b) (by rw[h.stands];exact c),h.szAt,a,h.bkAt d];rfl
theorem zX(n:Nat)(l:List Bk):qR n (l.map (mkB xs))=qR n l:=by unfold qR;rw[List.foldl_map];rfl
theorem Kg(h:Rm ws xs)(hb:b.kind=1->tyA b+1<128):dW xs (mkB xs b)=dW ws b:=by
 have e:=DS (ws:=ws) (xs:=xs) (λj c=>h.low c) hb;by_cases a:b.kind=1
 .have h2:=hb a;unfold dW dj;show (b.kind != 1||(cD (wd xs (tyA b)) (wd xs (tyA b+1))&&b.size==((bg (wd xs (tyA b)%256):Nat):Int)))=_;rw[h.low (by omega),h.low (by omega)]
 rw[eK a,eK (b:=mkB xs b) a]
theorem Rm.heap(h:Rm ws xs)(h0:aj ws=0):aj xs=0/\ah xs=(ah ws).map (mkB xs):=by obtain⟨g,l,d,c,f⟩:=aA h0;have e:=h.blocks 128 l d (by omega);rw[f];refine fM (by rw[h.len];exact g) e ?_;rw[List.all_map,kzv];rw[kzv] at c;intro b a;show dW xs (mkB xs b)=true;rw[Kg h (iN d (by omega) b a)];exact c b a
theorem Rm.tb(h:Rm ws xs)(h0:aj ws=0)(a:Nat):tb xs a=tb ws a:=by unfold Proofs.YtpcajamacpbjcaaGreat.tb;rw[(h.heap h0).2,h.len,zX]
theorem Rm.slAt(h:Rm ws xs)(hi:i<16):slAt xs i=slAt ws i:=by unfold Proofs.YtpcajamacpbjcaaGreat.slAt;rw[h.low (by omega)]
theorem Rm.slsOk(h:Rm ws xs):slsOk xs=slsOk ws:=by
 rw[kzl,cG,cG];unfold pt;constructor
 .intro b i a;rw[<-h.slAt a];exact b i a
 intro b i a;rw[h.slAt a];exact b i a
theorem mh(h:fi ws a):(ap (wd ws a)).typ.toNat<8:=by have h7:=(bH _).1 (fG h.2.2.2.1);have h5:=h.2.2.2.2.1;omega
theorem Rm.flds(h:Rm ws xs)(h0:aj ws=0)(ha:Proofs.YtpcajamacpbjcaaGreat.tb ws a≠0):flds xs a=flds ws a:=by obtain⟨b,-⟩:=iU h0 ha;have:=mh b;unfold Proofs.YtpcajamacpbjcaaGreat.flds;rw[h.raw a];dsimp only;rw[h.low (by omega),h.low (by omega)]
theorem Rm.ref(h:Rm ws xs)(hg:qh ws)(h0:aj ws=0)(ha:Rch ws a)(ht:Proofs.YtpcajamacpbjcaaGreat.tb ws a≠0)(hf:(Proofs.YtpcajamacpbjcaaGreat.flds ws a)[i]? = some 3):wd xs (a+2+i)=wd ws (a+2+i):=by
 rcases h.at_ (a+2+i) with c|⟨-,-,d,-⟩
 .exact c
 exfalso;have hb:=nH d;have b:=hg _ (Rch.ref a i ha ht hf (by omega));rw[kvg (by omega)] at b;have:=ro b;have:=(ir ws (aA h0).1).2.1;omega
theorem Rm.rch(h:Rm ws xs)(hg:qh ws)(h0:aj ws=0)(a:Nat):Rch xs a↔Rch ws a:=by
 constructor
 .intro b
  induction b with
  | slot i hi hu=>rw[h.slAt hi] at hu |-;exact Rch.slot i hi hu
  | ref a i b ht hf hv ih =>rw[h.tb h0] at ht;rw[h.flds h0 ht] at hf;rw[h.ref hg h0 ih ht hf] at hv |-;exact Rch.ref a i ih ht hf hv
 intro b
 induction b with
 | slot i hi hu=>rw[<-h.slAt hi] at hu |-;exact Rch.slot i hi hu
 | ref a i b ht hf hv ih =>rw[<-h.ref hg h0 b ht hf] at hv |-;exact Rch.ref a i ih (by rw[h.tb h0];exact ht) (by rw[h.flds h0 ht];exact hf) hv
theorem aH(h:aC ws=0):aj ws=0/\slsOk ws=true/\qh ws:=by
 unfold aC at h;by_cases a:aj ws=0
 .rw[if_pos a] at h;by_cases b:Proofs.YtpcajamacpbjcaaGreat.slsOk ws=true
  .rw[if_pos b] at h;by_cases c:qh ws
   .exact ⟨a,b,c⟩
   rw[if_neg c] at h;cases h
  rw[if_neg b] at h;cases h
 rw[if_neg a] at h;exact absurd h a
theorem Rm.same(h:Rm ws xs)(h0:aC ws=0):aC xs=0/\dm xs=dm ws/\seenL xs=seenL ws/\aj xs=0/\ah xs=(ah ws).map (mkB xs):=by
 obtain⟨b,i,c⟩:=aH h0;have d:=h.rch c b;have g:=h.heap b;have j:qh xs:=λa k=>by rw[h.tb b];exact c a ((d a).1 k)
 have f:aC xs=0:=DQ g.1 (by rw[h.slsOk];exact i) j;have e:seenL xs=seenL ws:=by unfold seenL;rw[h.len];refine kz5 λa _=>?_;exact decide_eq_decide.2 (d a)
 refine⟨f,?_,e,g⟩;rw[eF f,eF h0,e,h.len]
end
theorem Ic:∀ {a b:List Int},a.Pairwise (· < ·)->b.Pairwise (· < ·)->(∀x,x∈a↔x∈b)->a=b:=by
 intro a
 induction a with
 | nil =>
  intro b _ _ h;cases b with
  | nil=>rfl
  | cons y b=>exact absurd ((h y).2 (by simp)) (by simp)
 | cons x a ih =>
  intro b f e h;cases b with
  | nil=>exact absurd ((h x).1 (by simp)) (by simp)
  | cons y b =>
   rw[kjr] at f e;have i:x=y:=by
    have d:=(h x).1 (by simp);have c:=(h y).2 (by simp);rw[kqw] at d c;rcases d with d|d
    .exact d
    rcases c with c|c
    .exact c.symm
    have:=e.1 _ d;have:=f.1 _ c;omega
   subst i;rw[ih f.2 e.2 (λz=>?_)];have g:=h z;rw[kqw,kqw] at g;constructor
   .intro d;have:=f.1 _ d;rcases g.1 (.inr d) with c|c
    .omega
    exact c
   intro d;have:=e.1 _ d;rcases g.2 (.inr d) with c|c
   .omega
   exact c
theorem eG(l:List En):∀ws:List Nat,l.Pairwise (λa b=>a.a<b.a)->∀e∈l,0<=e.a->e.a<(ws.length:Int)->wd (ai ws l) e.a.toNat=e.v:=by
 induction l with
 | nil=>intro ws _ e c;simp at c
 | cons x l ih =>
  intro ws f e c g d;rw[kjr] at f;simp only[ai];rcases kqw.1 c with rfl|c
  .rw[aP l _ _ (λy h=>by have:=f.1 y h;omega),if_pos ⟨g,d⟩];unfold wd;rw[kz4 (by omega)];rfl
  refine ih _ f.2 e c g ?_;split
  .rw[kq3];exact d
  exact d
theorem ml :∀i l,blocks ws i=some l->(∀b∈l,(i:Int)<=b.at_)/\l.Pairwise (λa b=>a.at_<b.at_):=by
 refine dP _ (λi _=>⟨λb h=>by simp at h,List.Pairwise.nil⟩) (λi l hi d hb c=>?_);have hsz:=aJ d;refine⟨λb h=>?_,List.Pairwise.cons (λb h=>?_) c.2⟩
 .rcases kqw.1 h with rfl|h
  .rw[af];omega
  have:=c.1 b h;omega
 have:=c.1 b h;rw[af];omega
theorem cr(h:aj ws=0):(∀b∈ah ws,∃a:Nat,b=bkAt ws a/\128<=a/\a%2=0/\a<ws.length/\stands ws a=true)/\(ah ws).Pairwise (λa b=>a.at_<b.at_):=by obtain⟨h1,l,c,h3,g⟩:=aA h;rw[g];refine⟨λb d=>?_,(ml _ _ c).2⟩;obtain⟨k,f,rfl⟩:=kq0 d;obtain⟨a,j,i,e3,m,e,-⟩:=cC _ _ c (by omega) k f;exact⟨a,j,by omega,i,m,e⟩
theorem rj(h:aC ws=0)(ha:Rch ws a):∃b∈ah ws,b=bkAt ws a/\b.kind=1/\fi ws a:=by obtain⟨g,h2,d⟩:=aH h;obtain⟨c,-⟩:=iU g (d a ha);obtain⟨k,f,e,-⟩:=c.2.2.2.2.2.2;exact⟨_,kqn f,e,by rw[e];exact c.2.2.2.2.1,c⟩
noncomputable def eZ (ws:List Nat) (b:Bk):Bool:=(seenL ws)[b.at_.toNat]?.getD false
theorem fH(h:a<ws.length):eZ ws (bkAt ws a)=true↔Rch ws a:=by unfold eZ;rw[af,kqj];exact lv h
theorem DT(h:aC ws=0)(hb:b∈ah ws)(hk:eU (seenL ws) b=false):b.kind=1:=by
 obtain⟨d,-,-⟩:=aH h;obtain⟨a,rfl,a1,a2,j,a4⟩:=(cr d).1 b hb;cases f:(bkAt ws a).mark with
 | true =>obtain⟨_,l,g,-,m⟩:=aA d;rw[m] at hb;exact jE g (by omega) _ hb f
 | false =>
  have i:eZ ws (bkAt ws a)=true:=by
   unfold eU at hk;rw[f] at hk;unfold eZ;cases k:(seenL ws)[(bkAt ws a).at_.toNat]?.getD false with
   | true=>rfl
   | false=>rw[k] at hk;exact absurd hk (by decide)
  obtain⟨b',-,e,c,-⟩:=rj h ((fH j).1 i);rw[e] at c;exact c
theorem dU(h:aC ws=0):aW ws=(mt (seenL ws) (ah ws)).map (zD ws (seenL ws)):=by unfold aW;rw[if_pos h]
theorem dZ(h:aC ws=0){e:En}(he:e∈aW ws):∃a:Nat,bkAt ws a∈ah ws/\128<=a/\a%2=0/\a<ws.length/\aG (wd ws a)=true/\(ap (wd ws a)).kind=1/\e=⟨(a:Int),gN (wd ws a) (eZ ws (bkAt ws a))⟩/\eU (seenL ws) (bkAt ws a)=false:=by
 obtain⟨k,-,-⟩:=aH h;rw[dU h,kzx] at he;obtain⟨b,d,rfl⟩:=he;have f:=qK d;have i:eU (seenL ws) b=false:=by
  unfold mt at d;have:=(kzu.1 d).2
  simpa using this
 have c:=DT h f i;obtain⟨a,rfl,l,m,j,g⟩:=(cr k).1 b f;refine⟨a,f,l,m,j,?_,c,rfl,i⟩;unfold stands at g;simp only[kqu] at g;exact g.1
theorem ey(h:aC ws=0):(aW ws).Pairwise (λa b=>a.a<b.a):=by obtain⟨c,-,-⟩:=aH h;rw[dU h,kjy];exact List.Pairwise.filter _ (cr c).2
theorem rI(h:aC ws=0):∀e∈aW ws,e.v<18446744073709551616:=by intro e c;obtain⟨a,-,-,-,-,d,b,rfl,-⟩:=dZ h c;exact (jn d b _).2.2.2
theorem Dn(h:aC ws=0):Rm ws (ai ws (aW ws)):=by
 refine⟨au _ _,λi=>?_⟩;by_cases f:∃e∈aW ws,e.a=(i:Int)
 .obtain ⟨e,b,d⟩:=f;obtain⟨a,-,k,l,a3,m,g,rfl,-⟩:=dZ h b;have c:a=i:=by dsimp only at d;omega
  subst c;refine .inr ⟨k,l,m,g,eZ ws (bkAt ws a),?_⟩;have:=eG (aW ws) ws (ey h) _ b (by dsimp only;omega) (by dsimp only;omega);dsimp only at this;rw[kqj] at this;exact this
 exact .inl (aP _ _ _ (λe b j=>f ⟨e,b,j⟩))
theorem lU(h:aC ws=0)(hb:b∈ah ws):(mkB (ai ws (aW ws)) b).mark=eZ ws b:=by
 obtain⟨n,-,-⟩:=aH h;obtain⟨a,rfl,a1,a2,a3,a4⟩:=(cr n).1 b hb;show tG _ (bkAt ws a).at_.toNat=_;rw[af,kqj];cases f:eU (seenL ws) (bkAt ws a) with
 | false =>
  have d:zD ws (seenL ws) (bkAt ws a)∈aW ws:=by rw[dU h,kzx];refine⟨_,?_,rfl⟩;unfold mt;rw[kzu];exact⟨hb,by rw[f];rfl⟩
  obtain⟨g,-,k,m,p,i,j,e,-⟩:=dZ h d;have q:=congrArg En.a e;have:g=a:=by have:((bkAt ws a).at_:Int)=(g:Int):=q;rw[af] at this;omega
  subst this;have:=eG (aW ws) ws (ey h) _ d (by rw[e];dsimp only;omega) (by rw[e];dsimp only;omega);rw[e] at this;dsimp only at this;rw[kqj] at this;unfold tG;rw[this,(jn i j _).2.1]
 | true =>
  have l:wd (ai ws (aW ws)) a=wd ws a:=aP _ _ _ (λe d o=>by
   obtain⟨g,hm,k,m,p,i,j,rfl,c⟩:=dZ h d;have:g=a:=by dsimp only at o;omega
   subst this;rw[f] at c;cases c)
  unfold tG;rw[l];unfold eU at f;exact kqx.1 f
theorem Ft{l:List Bk}(h:l.Pairwise (λa b=>a.at_<b.at_)):(eQ l).Pairwise (· < ·):=by unfold eQ;rw[kjy];exact List.Pairwise.filter _ h
theorem BI{l:List Bk}(h:l.Pairwise (λa b=>a.at_<b.at_)):(l.map (mkB xs)).Pairwise (λa b=>a.at_<b.at_):=by rw[kjy];exact h
theorem fq(h:aC ws=0)(x:Int):x∈dm ws↔∃a:Nat,x=(a:Int)/\a<ws.length/\Rch ws a:=by
 rw[eF h];unfold s7;rw[kzx];constructor
 .rintro ⟨a,b,rfl⟩;rw[kzu,kzi] at b;exact⟨a,rfl,b.1,(lv b.1).1 b.2⟩
 rintro ⟨a,rfl,c,d⟩;exact⟨a,kzu.2 ⟨kzi.2 c,(lv c).2 d⟩,rfl⟩
theorem rW(h:aC ws=0):(dm ws).Pairwise (· < ·):=by rw[eF h];unfold s7;rw[kjy];refine List.Pairwise.filter _ ?_;refine List.Pairwise.imp (R:=(· < ·)) (λ{a b} hab=>?_) List.pairwise_lt_range;omega
theorem F8(h:aC ws=0):eQ ((ah ws).map (mkB (ai ws (aW ws))))=dm ws:=by
 obtain⟨l,-,h3⟩:=aH h;have d:=cr l;refine Ic (Ft (BI d.2)) (rW h) λx=>?_;rw[fq h];unfold eQ;rw[kzx];constructor
 .rintro ⟨c,f,rfl⟩;rw[kzu,kzx] at f;obtain⟨⟨b,e,rfl⟩,j⟩:=f;rw[lU h e] at j;obtain⟨a,rfl,a1,a2,i,a4⟩:=d.1 b e;exact⟨a,af ws a,i,(fH i).1 j⟩
 rintro ⟨a,rfl,k,g⟩;obtain⟨b,e,rfl,-,-⟩:=rj h g;refine⟨mkB (ai ws (aW ws)) (bkAt ws a),?_,af ws a⟩;rw[kzu];refine⟨kx6 e,?_⟩;rw[lU h e];exact (fH k).2 g
theorem ry(h:aC ws=0):(∀(i:Nat) (x:En),(aW ws)[i]? = some x->128<=x.a/\x.a<(ws.length:Int))/\∀(i:Nat) (x y:En),(aW ws)[i]? = some x->(aW ws)[i+1]? = some y->x.a<y.a:=by
 refine⟨λi x b=>?_,λi x y b f=>?_⟩
 .obtain ⟨a,-,a1,-,a3,-,-,rfl,-⟩:=dZ h (List.mem_of_getElem? b);dsimp only;omega
 have c:=ey h;rw[kzj] at c;obtain⟨d,j⟩:=kza.1 b;obtain⟨e,g⟩:=kza.1 f;rw[<-j,<-g];exact c i (i+1) d e (by omega)
theorem jp(ws:List Nat)(a u:Nat):(kx ws a u).length=szAt ws a:=by simp[kx]
theorem Gb(l:List Nat):∀(ws:List Nat) (t:Nat),t+l.length<=ws.length->ai ws ((List.range l.length).map λj=>(⟨((t+j:Nat):Int),l[j]?.getD 0⟩:En))=fa ws t l:=by
 induction l with
 | nil=>intro ws t _;rfl
 | cons v l ih =>intro ws t h;simp only[kq2] at h;rw[kq2,List.range_succ_eq_map,kxm,List.map_map];simp only[ai,fa,kxa];rw[if_pos (by omega),kqj,List.getElem?_cons_zero,kq5,<-ih _ (t+1) (by rw[kq3];omega)];congr 1;apply kz5;intro j _;simp only[Function.comp];rw[show t+Nat.succ j=t+1+j by omega];simp
theorem Db(h:u+szAt ws a<=ws.length):ai ws (kx ws a u)=fa ws u (ei ws a):=by rw[<-Gb _ _ _ (by rw[gM];exact h),gM];congr 1;unfold kx;apply kz5;intro j b;rw[kE _ _ _ (kzi.1 b)];rfl
theorem uK(ho:∀x∈ws,x<18446744073709551616)(h:jB { ap (wd ws a) with mark:=false }=true):∀e∈kx ws a u,e.v<18446744073709551616:=by
 intro e b;simp only[kx,kzx] at b;obtain⟨j,-,rfl⟩:=b;dsimp only;split
 .exact qt h
 split
 .omega
 exact fT ho _
theorem gU{k:Nat}(h:k<(kx ws a u).length):((kx ws a u)[k]).a=((u+k:Nat):Int):=by simp[kx]
theorem xg:∀ {l:List Bk} {s:Int},(∀b∈l,0<=b.size)->s<=aO l s:=by
 intro l
 induction l with
 | nil=>intro s _;exact kks _
 | cons b l ih =>
  intro s h;have h1:=h b (by simp);simp only[aO];split
  .have:=ih (s:=s+b.size) (λc a=>h c (by simp[a]));omega
  exact ih (λc a=>h c (by simp[a]))
theorem t4:∀ {l:List Bk} {s:Int},0<=s->(∀b∈l,0<=b.size)->∀e∈aY l s,(e.v:Int)<=aO l s:=by
 intro l
 induction l with
 | nil=>intro s _ _ e h;simp[aY] at h
 | cons b l ih =>
  intro s hs h e a;have h1:=h b (by simp);have f:∀c∈l,0<=c.size:=λc g=>h c (by simp[g]);have hns:s<=fg b s:=by unfold fg;split<;>omega
  have hge:=xg (l:=l) (s:=fg b s) f;have d:aO (b::l) s=aO l (fg b s):=by simp only[aO,fg];split<;>rfl
  rw[d];simp only[aY,kzo] at a;rcases a with a|a
  .split at a
   .simp only[kqw,kzk,or_false] at a;subst a;show ((bG b s:Nat):Int)<=_;unfold bG;split<;>omega
   simp at a
  exact ih (by omega) f e a
theorem qF(h:aj x=0):(aK x).length<=1024/\∀e∈aK x,e.v<18446744073709551616:=by
 have j:aK x=aY (ah x) 128:=by unfold aK;rw[if_pos h]
 rw[j];refine⟨kz7 (nD _ _) (gY x),λe k=>?_⟩;obtain⟨a,c,d,hs3⟩:=fd (ga h).2.2.1;have h1:=t4 (l:=ah x) (s:=128) (by omega) (λb f=>by
  obtain⟨i,m,rfl⟩:=kq0 f;have:=wg (ga h).2.2.1 m;omega) e k
 have g:=lJ a (kqa _) c d;rw[kzf] at g;omega
structure Small (n:Nat) (E:List En):Prop where
 pos:1<=E.length
 le:E.length<=32
 inc:E.Pairwise (λa b=>a.a<b.a)
 ins:∀e∈E,(16<=e.a/\e.a<19\/112<=e.a)/\e.a<(n:Int)
 val:∀e∈E,e.v<18446744073709551616
theorem Co(h:l.Pairwise (λa b=>a.a<b.a))(k:Nat):(l.take k).Pairwise (λa b=>a.a<b.a):=h.sublist (kjz k l)
theorem Ca(hn:256<=n)(hp:p<4)(h1:l.Pairwise (λa b=>a.a<b.a))(h2:∀e∈l,128<=e.a/\e.a<(n:Int))(h3:∀e∈l,e.v<18446744073709551616):Small n (iZ l p):=by
 by_cases h:32<=l.length
 .rw[cN h];refine⟨by rw[kq4];omega,by rw[kq4];omega,Co h1 31,λe c=>?_,λe c=>h3 e (kxp c)⟩;have:=h2 e (kxp c);omega
 rw[jb h];refine⟨by simp,by rw[kq2];omega,List.Pairwise.cons (λe c=>?_) h1,λe c=>?_,λe c=>?_⟩
 .have:=h2 e c;dsimp only;omega
 .rcases kqw.1 c with rfl|c
  .dsimp only;omega
  have:=h2 e c;omega
 rcases kqw.1 c with rfl|c
 .dsimp only;omega
 exact h3 e c
theorem Gp{a:Int}(h:dR ws a=0):∀e∈cR ws a,a<=e.a/\e.a<(ws.length:Int)/\e.v<2048:=by
 obtain⟨f,-,-,-,-,-,m,o,p,d⟩:=jh h;intro e j;obtain⟨r,n,r2,k,r4⟩:=p e j;have b:=eG (cR ws a) ws d e j (by omega) (by omega);rw[n,kqj] at b;by_cases c:∃i,i<(b8 ws a).length/\f i=r
 .obtain ⟨i,g,e2⟩:=c;have:=(m i g).2.1;omega
 have:=o r (λi g l=>c ⟨i,g,l⟩);rw[b] at this;exact absurd this.symm k
theorem cQ(h:ax ws=0):cP ws=0/\ak (ws.length:Int)=true/\ji ws=true/\Ba (wd ws 16) (wd ws 17) (wd ws 18)=true:=by have a:=(iK (jz h)).1;exact⟨a,gx a⟩
theorem yv(h1:ak (xs.length:Int)=true)(h2:ji xs=true)(h3:Ba (wd xs 16) (wd xs 17) (wd xs 18)=true):cP xs=0:=(nt h1 (by rw[h2,h3];rfl)).1
theorem iu(h:∀e∈E,19<=e.a)(hi:i<19):wd (ai ws E) i=wd ws i:=aP _ _ _ λe b=>by have:=h e b;omega
theorem ls(h:Small n E)(h1:19<=i)(h2:i<112):wd (ai ws E) i=wd ws i:=aP _ _ _ λe a=>by have:=(h.ins e a).1;omega
theorem kZ(hs:Small ws.length E)(hl:ji ws=true)(h16:wd (ai ws E) 16<=ws.length)(h17:wd (ai ws E) 17<=ws.length)(h18:wd (ai ws E) 18<=ws.length):ji (ai ws E)=true:=by obtain⟨-,b,d,e,c,a⟩:=(bE ws).1 hl;rw[bE,au];exact⟨⟨h16,h17,h18⟩,by rw[ls hs (by omega) (by omega)];exact b,by rw[ls hs (by omega) (by omega)];exact d,by rw[ls hs (by omega) (by omega)];exact e,by rw[ls hs (by omega) (by omega)];exact c,by rw[ls hs (by omega) (by omega)];exact a⟩
def onW (ws xs:List Nat):Prop:=wd ws 16<=wd xs 16/\(wd xs 16=wd ws 16->wd ws 17<=wd xs 17/\wd ws 18<=wd xs 18)
theorem kQ(hj:j<ws.length)(hl:∀e∈l,e.a≠(j:Int)):wd (ai ws (⟨(j:Int),v⟩::l)) j=v:=by rw[fZ j v l hj,aP _ _ _ hl];unfold wd;rw[kz4 hj];rfl
theorem qV(hj:j<ws.length)(_hne:i≠j):wd (ai ws (⟨(j:Int),v⟩::l)) i=wd (ai (ws.set j v) l) i:=by rw[fZ j v l hj]
theorem dQ(h:i≠j):wd (ws.set j v) i=wd ws i:=by unfold wd;rw[kx0 (by omega)]
theorem fW(hck:ax ws=0)(hp:wd ws 16=p)(hp2:p=1\/p=2)(h1:l.Pairwise (λa b=>a.a<b.a))(h2:∀e∈l,128<=e.a/\e.a<(ws.length:Int))(h3:∀e∈l,e.v<18446744073709551616):
 Small ws.length (iZ l (p+1))/\cP (ai ws (iZ l (p+1)))=0/\onW ws (ai ws (iZ l (p+1)))/\wd (ai ws (iZ l (p+1))) 16=(if 32<=l.length then p else p+1)/\wd (ai ws (iZ l (p+1))) 17=0/\wd (ai ws (iZ l (p+1))) 18=0:=by
 obtain⟨-,o,q,m⟩:=cQ hck;have hb:=(ab _).1 o;have d:=Ca (n:=ws.length) (p:=p+1) (by omega) (by omega) h1 h2 h3;have k:wd ws 17=0/\wd ws 18=0:=by rcases (dd _ _ _).1 m with h|h|h<;>omega
 have r:wd (ai ws (iZ l (p+1))) 16=(if 32<=l.length then p else p+1)/\wd (ai ws (iZ l (p+1))) 17=0/\wd (ai ws (iZ l (p+1))) 18=0:=by
  by_cases h:32<=l.length
  .rw[cN h,if_pos h];have c:∀e∈l.take 31,19<=e.a:=λe f=>by have:=h2 e (kxp f);omega
   rw[iu c (by omega),iu c (by omega),iu c (by omega)];exact⟨hp,k⟩
  rw[jb h,if_neg h,show (16:Int)=((16:Nat):Int) from rfl];have c:∀e∈l,19<=e.a:=λe f=>by have:=h2 e f;omega
  rw[kQ (by omega) (λe f=>by have:=c e f;omega),qV (by omega) (by omega),qV (by omega) (by omega),iu c (by omega),iu c (by omega),dQ (by omega),dQ (by omega)];exact⟨rfl,k⟩
 obtain⟨g,j,i⟩:=r;have hle:(if 32<=l.length then p else p+1)<=3/\p<=(if 32<=l.length then p else p+1):=by split<;>omega
 refine⟨d,yv (by rw[au];exact o) (kZ d q (by rw[g];omega) (by rw[j];omega) (by rw[i];omega)) ?_,⟨by rw[g,hp];omega,λ_=>by rw[j,i,k.1,k.2];exact⟨kqa _,kqa _⟩⟩,g,j,i⟩;rw[g,j,i,dd];rcases hp2 with rfl|rfl
 .right;right;split<;>omega
 by_cases h:32<=l.length
 .rw[if_pos h];right;right;omega
 rw[if_neg h];right;left;exact⟨rfl,rfl,.inl rfl⟩
theorem j9{f:Nat}(hck:ax ws=0)(hp:wd ws 16=3)(hf:me f=true)(hfn:f<=ws.length)(hfw:wd ws 17<=f)(h0:l.length<=31)(h1:l.Pairwise (λa b=>a.a<b.a))(h2:∀e∈l,112<=e.a/\e.a<(ws.length:Int))(h3:∀e∈l,e.v<18446744073709551616):
 Small ws.length (⟨17,f⟩::l)/\cP (ai ws (⟨17,f⟩::l))=0/\onW ws (ai ws (⟨17,f⟩::l))/\wd (ai ws (⟨17,f⟩::l)) 16=3/\wd (ai ws (⟨17,f⟩::l)) 17=f/\wd (ai ws (⟨17,f⟩::l)) 18=0:=by
 obtain⟨-,o,p,n⟩:=cQ hck;have hb:=(ab _).1 o;have hi:=(a9 f).1 hf;have c:∀e∈l,19<=e.a:=λe d=>by have:=h2 e d;omega
 have i:wd ws 18=0:=by rcases (dd _ _ _).1 n with h|h|h<;>omega
 have g:Small ws.length (⟨17,f⟩::l):=by
  refine⟨by simp,by rw[kq2];omega,List.Pairwise.cons (λe d=>?_) h1,λe d=>?_,λe d=>?_⟩
  .have:=c e d;dsimp only;omega
  .rcases kqw.1 d with rfl|d
   .dsimp only;omega
   have:=h2 e d;omega
  rcases kqw.1 d with rfl|d
  .dsimp only;omega
  exact h3 e d
 have q:wd (ai ws (⟨17,f⟩::l)) 16=3/\wd (ai ws (⟨17,f⟩::l)) 17=f/\wd (ai ws (⟨17,f⟩::l)) 18=0:=by rw[show (17:Int)=((17:Nat):Int) from rfl];rw[qV (by omega) (by omega),kQ (by omega) (λe d=>by have:=c e d;omega),qV (by omega) (by omega),iu c (by omega),iu c (by omega),dQ (by omega),dQ (by omega)];exact⟨hp,rfl,i⟩
 obtain⟨j,m,k⟩:=q;refine⟨g,yv (by rw[au];exact o) (kZ g p (by rw[j];omega) (by rw[m];omega) (by rw[k];omega)) ?_,⟨by rw[j,hp];exact kqa _,λ_=>by rw[m,k,i];exact⟨hfw,kqa _⟩⟩,j,m,k⟩;rw[j,m,k,dd];right;left;exact⟨rfl,rfl,.inr hf⟩
theorem ig(hck:ax ws=0)(hp:wd ws 16=3):Small ws.length cq/\cP (ai ws cq)=0/\onW ws (ai ws cq)/\wd (ai ws cq) 16=4/\wd (ai ws cq) 17=128/\wd (ai ws cq) 18=128:=by
 obtain⟨-,g,i,hph⟩:=cQ hck;have hb:=(ab _).1 g;have b:Small ws.length cq:=by
  refine⟨by decide,by decide,by unfold cq;simp,λe a=>?_,λe a=>?_⟩
  .unfold cq at a;simp only[kqw,kzk,or_false] at a;rcases a with rfl|rfl|rfl<;>(dsimp only;omega)
  unfold cq at a;simp only[kqw,kzk,or_false] at a;rcases a with rfl|rfl|rfl<;>(dsimp only;omega)
 have j:wd (ai ws cq) 16=4/\wd (ai ws cq) 17=128/\wd (ai ws cq) 18=128:=by
  unfold cq;rw[show (16:Int)=((16:Nat):Int) from rfl,show (17:Int)=((17:Nat):Int) from rfl,show (18:Int)=((18:Nat):Int) from rfl];rw[fZ 16 _ _ (by omega),fZ 17 _ _ (by rw[kq3];omega),fZ 18 _ _ (by rw[kq3,kq3];omega)];simp only[ai];refine⟨?_,?_,?_⟩
  .rw[dQ (by omega),dQ (by omega)];unfold wd;rw[kz4 (by omega)];rfl
  .rw[dQ (by omega)];unfold wd;rw[kz4 (by rw[kq3];omega)];rfl
  unfold wd;rw[kz4 (by rw[kq3,kq3];omega)];rfl
 obtain⟨c,f,d⟩:=j;refine⟨b,yv (by rw[au];exact g) (kZ b i (by rw[c];omega) (by rw[f];omega) (by rw[d];omega)) (by rw[c,f,d];decide),⟨by rw[c,hp];omega,λh=>by rw[c,hp] at h;exact absurd h (by decide)⟩,c,f,d⟩
theorem oz{f t:Nat}(hck:ax ws=0)(hp:wd ws 16=4)(hf:me f=true)(ht:me t=true)(htf:t<=f)(hfn:f<=ws.length)(hfw:wd ws 17<=f)(htw:wd ws 18<=t)(h0:l.length<=30)(h1:l.Pairwise (λa b=>a.a<b.a))(h2:∀e∈l,112<=e.a/\e.a<(ws.length:Int))(h3:∀e∈l,e.v<18446744073709551616):
 Small ws.length (⟨17,f⟩::⟨18,t⟩::l)/\cP (ai ws (⟨17,f⟩::⟨18,t⟩::l))=0/\onW ws (ai ws (⟨17,f⟩::⟨18,t⟩::l))/\wd (ai ws (⟨17,f⟩::⟨18,t⟩::l)) 16=4/\wd (ai ws (⟨17,f⟩::⟨18,t⟩::l)) 17=f/\wd (ai ws (⟨17,f⟩::⟨18,t⟩::l)) 18=t:=by
 obtain⟨-,k,m,hph⟩:=cQ hck;have hb:=(ab _).1 k;have hi:=(a9 f).1 hf;have hj:=(a9 t).1 ht;have d:∀e∈l,19<=e.a:=λe c=>by have:=h2 e c;omega
 have g:Small ws.length (⟨17,f⟩::⟨18,t⟩::l):=by
  refine⟨by simp,by rw[kq2,kq2];omega,List.Pairwise.cons (λe c=>?_) (List.Pairwise.cons (λe c=>?_) h1),λe c=>?_,λe c=>?_⟩
  .rcases kqw.1 c with rfl|c
   .dsimp only;omega
   have:=d e c;dsimp only;omega
  .have:=d e c;dsimp only;omega
  .rcases kqw.1 c with rfl|c
   .dsimp only;omega
   rcases kqw.1 c with rfl|c
   .dsimp only;omega
   have:=h2 e c;omega
  rcases kqw.1 c with rfl|c
  .dsimp only;omega
  rcases kqw.1 c with rfl|c
  .dsimp only;omega
  exact h3 e c
 have n:wd (ai ws (⟨17,f⟩::⟨18,t⟩::l)) 16=4/\wd (ai ws (⟨17,f⟩::⟨18,t⟩::l)) 17=f/\wd (ai ws (⟨17,f⟩::⟨18,t⟩::l)) 18=t:=by
  rw[show (17:Int)=((17:Nat):Int) from rfl,show (18:Int)=((18:Nat):Int) from rfl];rw[fZ 17 _ _ (by omega),fZ 18 _ _ (by rw[kq3];omega),iu d (by omega),iu d (by omega),iu d (by omega)];refine⟨?_,?_,?_⟩
  .rw[dQ (by omega),dQ (by omega)];exact hp
  .rw[dQ (by omega)];unfold wd;rw[kz4 (by omega)];rfl
  unfold wd;rw[kz4 (by rw[kq3];omega)];rfl
 obtain⟨h,j,i⟩:=n;refine⟨g,yv (by rw[au];exact k) (kZ g m (by rw[h];omega) (by rw[j];omega) (by rw[i];omega)) ?_,⟨by rw[h,hp];exact kqa _,λ_=>by rw[j,i];exact⟨hfw,htw⟩⟩,h,j,i⟩;rw[h,j,i,dd];left;exact⟨rfl,hf,ht,htf⟩
theorem oj{α:Type}{p q:α->Bool}:∀ {l:List α},(∀b∈l,q b=true->p b=true)->(l.filter q).length<=(l.filter p).length/\((∃b∈l,p b=true/\q b=false)->(l.filter q).length<(l.filter p).length):=by
 intro l
 induction l with
 | nil=>intro _;exact⟨kqa _,λ⟨b,d,_⟩=>by simp at d⟩
 | cons b l ih =>
  intro h;obtain⟨i1,j⟩:=ih (λc a=>h c (by simp[a]));have d:=h b (by simp);rw[kjt,kjt];refine⟨?_,λ⟨c,a,g,f⟩=>?_⟩
  .cases e:q b with
   | true=>rw[d e];simp;omega
   | false=>cases i:p b<;>simp<;>omega
  rcases kqw.1 a with rfl|a
  .rw[g,f];simp;omega
  have:=j ⟨c,a,g,f⟩;cases e:q b with
  | true=>rw[d e];simp;omega
  | false=>cases i:p b<;>simp<;>omega
theorem jq(h:aC ws=0)(hs:E.Sublist (aW ws)):Rm ws (ai ws E):=by
 have l:E.Pairwise (λa b=>a.a<b.a):=(ey h).sublist hs;refine⟨au _ _,λi=>?_⟩;by_cases g:∃e∈E,e.a=(i:Int)
 .obtain ⟨e,c,f⟩:=g;obtain⟨a,-,m,n,a3,o,j,rfl,-⟩:=dZ h (hs.subset c);have d:a=i:=by dsimp only at f;omega
  subst d;refine .inr ⟨m,n,o,j,eZ ws (bkAt ws a),?_⟩;have:=eG E ws l _ c (by dsimp only;omega) (by dsimp only;omega);dsimp only at this;rw[kqj] at this;exact this
 exact .inl (aP _ _ _ (λe c k=>g ⟨e,c,k⟩))
theorem wc(h:aC ws=0)(h32:32<=(aW ws).length):aC (ai ws ((aW ws).take 31))=0/\(aW (ai ws ((aW ws).take 31))).length<(aW ws).length:=by
 have c:((aW ws).take 31).Sublist (aW ws):=kjz _ _;have q:((aW ws).take 31).Pairwise (λa b=>a.a<b.a):=(ey h).sublist c;obtain⟨C,g2,I,g4,J⟩:=(jq h c).same h;refine⟨C,?_⟩;rw[dU C,I,J,kzg,dU h,kzg];rw[<-dU h];obtain⟨x,u⟩:=xq (ai ws ((aW ws).take 31));rw[u];unfold mt;rw[List.filter_map,kzg];have g:=cr (aH h).1;have w:∀b∈ah ws,(∀e∈(aW ws).take 31,e.a≠b.at_)->(mkB x b).mark=b.mark:=by intro b t y;obtain⟨a,rfl,a1,a2,a3,a4⟩:=g.1 b t;show tG x (bkAt ws a).at_.toNat=_;rw[af,kqj];unfold tG;rw[<-u,aP _ _ _ (λe k=>by have:=y e k;rwa [af] at this)];rfl
 refine (oj (λb t l=>?_)).2 ?_
 .dsimp only[Function.comp_apply] at l |-;cases z:eU (seenL ws) b with
  | false=>rfl
  | true =>
   exfalso;have s:=w b t (λe k D=>by
    obtain⟨a,s,G,H,K,p,r,rfl,f⟩:=dZ h (c.subset k);dsimp only at D;have:bkAt ws a=b:=by
     have v:=g.2;rw[kzj] at v;obtain⟨i,B,m⟩:=kq0 s;obtain⟨j,E,F⟩:=kq0 t;have h3:(ah ws)[i].at_=(ah ws)[j].at_:=by rw[m,F,af];exact D
     rcases kkc i j with o|o|o
     .have:=v i j B E o;omega
     .subst o;rw[<-m,<-F]
     have:=v j i E B o;omega
    rw[this,z] at f;cases f)
   unfold eU at z l;rw[s] at l
   change (!(b.mark==((seenL ws)[b.at_.toNat]?.getD false)))=true at l
   rw[z] at l;exact absurd l (by decide)
 have n:0<((aW ws).take 31).length:=by rw[kq4];omega
 have k:=kqn n;obtain⟨a,s,G,H,K,p,r,m,f⟩:=dZ h (c.subset k);refine⟨bkAt ws a,s,by rw[f];rfl,?_⟩;dsimp only[Function.comp_apply];have d:=eG _ ws q _ k (by rw[m];dsimp only;omega) (by rw[m];dsimp only;omega);rw[m] at d;dsimp only at d;rw[kqj,u] at d;unfold eU;show (!((mkB x (bkAt ws a)).mark==((seenL ws)[(bkAt ws a).at_.toNat]?.getD false)))=false;have A:(mkB x (bkAt ws a)).mark=eZ ws (bkAt ws a):=by show tG x (bkAt ws a).at_.toNat=_;rw[af,kqj];unfold tG;rw[d,(jn p r _).2.1]
 rw[A];unfold eZ;simp
structure Ev (ws xs:List Nat):Prop where
 len:xs.length=ws.length
 at_:∀i,(i%2=0/\96<=i\/96<=i/\i<128)->wd xs i=wd ws i
def nxB (xs:List Nat) (b:Bk):Bk:={ b with next:=wd xs (b.at_.toNat+1) }
section
variable {ws xs:List Nat}
theorem Ev.stands(h:Ev ws xs)(hi:i%2=0)(h96:96<=i):stands xs i=stands ws i:=by unfold Proofs.YtpcajamacpbjcaaGreat.stands;rw[h.at_ i (.inl ⟨hi,h96⟩),h.len]
theorem Ev.bkAt(h:Ev ws xs)(hi:i%2=0)(h96:96<=i):bkAt xs i=nxB xs (bkAt ws i):=by
 unfold nxB;have a:(Proofs.YtpcajamacpbjcaaGreat.bkAt ws i).at_.toNat=i:=by rw[af,kqj]
 rw[a];unfold Proofs.YtpcajamacpbjcaaGreat.bkAt;rw[h.at_ i (.inl ⟨hi,h96⟩)]
theorem Ev.blocks(h:Ev ws xs):∀i l,blocks ws i=some l->i%2=0->96<=i->blocks xs i=some (l.map (nxB xs)):=by
 refine dP (λi l=>i%2=0->96<=i->Proofs.YtpcajamacpbjcaaGreat.blocks xs i=some (l.map (nxB xs))) (λi d _ _=>?_) (λi l d e hb c b a=>?_)
 .exact aD (by rw[h.len];exact d)
 have hsz:=aJ e;have c:=c (by omega) (by omega);have f:szAt xs i=szAt ws i:=by unfold szAt;rw[h.at_ i (.inl ⟨b,a⟩)]
 rw[aL (by rw[h.len];exact d) (by rw[h.stands b a];exact e),f,c,h.bkAt b a];rfl
theorem Ie(h:Ev ws xs)(hb:b.kind=1->tyA b+1<128):dW xs (nxB xs b)=dW ws b:=by
 by_cases a:b.kind=1
 .have d:=hb a;have c:96<=tyA b:=by unfold tyA;omega
  unfold dW dj;show (b.kind != 1||(cD (wd xs (tyA b)) (wd xs (tyA b+1))&&b.size==((bg (wd xs (tyA b)%256):Nat):Int)))=_;rw[h.at_ _ (.inr ⟨c,by omega⟩),h.at_ _ (.inr ⟨by omega,d⟩)]
 rw[eK a,eK (b:=nxB xs b) a]
theorem Ev.heap(h:Ev ws xs)(h0:aj ws=0):aj xs=0/\ah xs=(ah ws).map (nxB xs):=by obtain⟨g,l,d,c,f⟩:=aA h0;have e:=h.blocks 128 l d (by omega) (by omega);rw[f];refine fM (by rw[h.len];exact g) e ?_;rw[List.all_map,kzv];rw[kzv] at c;intro b a;show dW xs (nxB xs b)=true;rw[Ie h (iN d (by omega) b a)];exact c b a
end
theorem gA:∀ {l:List Bk} {s:Int} {e:En},e∈aY l s->∃b∈l,b.kind=1/\e.a=b.at_+1:=by
 intro l
 induction l with
 | nil=>intro s e h;simp[aY] at h
 | cons x l ih =>
  intro s e h;simp only[aY,kzo] at h;rcases h with h|h
  .split at h
   .rename_i hx;rw[kqy] at h;subst h;exact⟨x,by simp,hx.1,rfl⟩
   simp at h
  obtain⟨b,d,c⟩:=ih h;exact⟨b,by simp[d],c⟩
theorem FU :∀ {l:List Bk} {s:Int},l.Pairwise (λa b=>a.at_<b.at_)->(∀b∈l,0<=b.at_)->(∀b∈l,b.kind=1->wd xs (b.at_.toNat+1)=b.next\/∃e∈aY l s,e.a=b.at_+1/\wd xs (b.at_.toNat+1)=e.v) ->
 (aY (l.map (nxB xs)) s).length<=(aY l s).length/\((∃e∈aY l s,wd xs e.a.toNat=e.v)->(aY (l.map (nxB xs)) s).length<(aY l s).length):=by
 intro l
 induction l with
 | nil=>intro s _ _ _;exact⟨kqa _,λ⟨e,d,_⟩=>by simp[aY] at d⟩
 | cons b l ih =>
  intro s q w u;rw[kjr] at q;have k:∀c∈l,c.kind=1->wd xs (c.at_.toNat+1)=c.next\/∃e∈aY l (fg b s),e.a=c.at_+1/\wd xs (c.at_.toNat+1)=e.v:=by
   intro c g m;rcases u c (by simp[g]) m with j|⟨e,d,t,r⟩
   .exact .inl j
   simp only[aY,kzo] at d;rcases d with d|d
   .split at d
    .rw[kqy] at d;subst d;dsimp only at t;have:=q.1 c g;omega
    simp at d
   exact .inr ⟨e,d,t,r⟩
  obtain⟨i1,x⟩:=ih (s:=fg b s) q.2 (λc g=>w c (by simp[g])) k;have hb0:=w b (by simp);rw[kxm];simp only[aY];have A:fg (nxB xs b) s=fg b s:=rfl;have z:bG (nxB xs b) s=bG b s:=rfl;rw[A,z,kqs,kqs];have p:(nxB xs b).next=wd xs (b.at_.toNat+1):=rfl;have o:(nxB xs b).kind=b.kind:=rfl;have n:(nxB xs b).at_=b.at_:=rfl;have i:b.kind=1->wd xs (b.at_.toNat+1)=b.next\/wd xs (b.at_.toNat+1)=bG b s:=by
   intro m;rcases u b (by simp) m with j|⟨e,d,t,r⟩
   .exact .inl j
   simp only[aY,kzo] at d;rcases d with d|d
   .split at d
    .rw[kqy] at d;subst d;exact .inr r
    simp at d
   obtain⟨c,g,-,h4⟩:=gA d;have:=q.1 c g;omega
  have hle:(if (nxB xs b).kind=1/\(nxB xs b).next≠bG b s then [(⟨(nxB xs b).at_+1,bG b s⟩:En)] else []).length<=(if b.kind=1/\b.next≠bG b s then [(⟨b.at_+1,bG b s⟩:En)] else []).length:=by
   rw[p,o,n];by_cases m:b.kind=1
   .rcases i m with j|j
    .rw[j];exact kqa _
    rw[if_neg (λh=>h.2 j)];exact kqz _
   rw[if_neg (λh=>m h.1)];exact kqz _
  refine⟨by omega,λ⟨e,d,f⟩=>?_⟩;rcases kzo.1 d with d|d
  .split at d
   .rename_i g;rw[kqy] at d;subst d;dsimp only at f;have y:(b.at_+1).toNat=b.at_.toNat+1:=by omega
    rw[y] at f;rw[p,o,n,if_neg (λh=>h.2 f),if_pos g];simp only[kxf,kq2];omega
   simp at d
  have:=x ⟨e,d,f⟩;omega
noncomputable def stM (ws:List Nat):Nat:=if wd ws 16=1 then (aW ws).length+1 else if wd ws 16=2 then (aK ws).length+1 else ws.length+1-wd ws 17
theorem py :∀k a,ws.length-a<=k->a<=ws.length->(lA ws a).1=0->lA ws a=(0,cq)\/∃m:Nat,128<=m/\a<=m/\m%2=0/\2<=szAt ws m/\szAt ws m%2=0/\m+szAt ws m<=ws.length/\dR ws (m:Int)=0/\lA ws a=(0,⟨17,m+szAt ws m⟩::cR ws (m:Int)):=by
 intro k
 induction k with
 | zero =>
  intro a B A h;by_cases b:bt ws (a:Int)=0
  .obtain ⟨y,v,z,m,e,j,i,f,g,l,-⟩:=fO b;omega
  exact .inl (kL b)
 | succ k ih =>
  intro a B A h;by_cases b:bt ws (a:Int)=0
  .obtain ⟨y,v,z,m,e,j,i,f,g,l,-⟩:=fO b;by_cases d:b8 ws (m:Int)=[]
   .have x:=ll b e d;rw[x] at h |-;rcases ih (m+szAt ws m) (by omega) (by omega) h with u|⟨q,s,q2,p,t,o,n,w,r⟩
    .exact .inl u
    exact .inr ⟨q,s,by omega,p,t,o,n,w,r⟩
   by_cases c:dR ws (m:Int)=0
   .exact .inr ⟨m,by omega,j,i,f,g,l,c,qN b e d c⟩
   rw[wh b e d c] at h;exact absurd h c
  exact .inl (kL b)
theorem tA(h:aj x=0):aK x=aY (ah x) 128:=by unfold aK;rw[if_pos h]
theorem pD(h:aj ws=0):(aK ws).Pairwise (λa b=>a.a<b.a)/\(∀e∈aK ws,128<=e.a/\e.a<(ws.length:Int))/\(∀e∈aK ws,e.v<18446744073709551616):=by
 have d:aK ws=aY (ah ws) 128:=by unfold aK;rw[if_pos h]
 obtain⟨_,l,c,-,g⟩:=aA h;refine⟨?_,λe f=>?_,(qF h).2⟩
 .rw[d,g];exact De _ _ c 128
 rw[d,g] at f;have:=qq _ _ c 128 e f;omega
theorem Kt(h:aj ws=0)(h32:32<=(aK ws).length):aj (ai ws ((aK ws).take 31))=0/\(aK (ai ws ((aK ws).take 31))).length<(aK ws).length:=by
 obtain⟨C,y,i3⟩:=pD h;have p:aK ws=aY (ah ws) 128:=by unfold aK;rw[if_pos h]
 have d:=cr h;have c:((aK ws).take 31).Sublist (aK ws):=kjz _ _;have g:((aK ws).take 31).Pairwise (λa b=>a.a<b.a):=C.sublist c;have n:∀e∈aK ws,∃a:Nat,e.a=((a+1:Nat):Int)/\a%2=0/\128<=a:=by intro e f;rw[p] at f;obtain⟨b,k,-,B⟩:=gA f;obtain⟨a,rfl,r,t,-⟩:=d.1 b k;exact⟨a,by rw[B,af];rfl,t,r⟩
 have q:Ev ws (ai ws ((aK ws).take 31)):=by refine⟨au _ _,λi hi=>aP _ _ _ λe f x=>?_⟩;obtain⟨a,u,r,t⟩:=n e (c.subset f);omega
 obtain⟨w,A⟩:=q.heap h;refine⟨w,?_⟩;have o:aK (ai ws ((aK ws).take 31))=aY ((ah ws).map (nxB (ai ws ((aK ws).take 31)))) 128:=by rw[tA w,A]
 rw[o];have j:=FU (xs:=ai ws ((aK ws).take 31)) (l:=ah ws) (s:=128) d.2 (λb k=>by obtain⟨a,rfl,-⟩:=d.1 b k;rw[af];omega) (λb k hk=>by
  obtain⟨a,rfl,r,t,a3,z⟩:=d.1 b k;have hsz:=aJ z;rw[af,kqj];by_cases v:∃e∈(aK ws).take 31,e.a=((a+1:Nat):Int)
  .obtain ⟨e,f,u⟩:=v;refine .inr ⟨e,by rw[<-p];exact c.subset f,by rw[u];omega,?_⟩;have:=eG _ ws g e f (by omega) (by omega);rw[u,kqj] at this;exact this
  exact .inl (by rw[aP _ _ _ (λe f x=>v ⟨e,f,x⟩)];rfl))
 rw[<-p] at j;refine j.2 ?_;have m:0<((aK ws).take 31).length:=by rw[kq4];omega
 have f:=kqn m;have hin:=y _ (c.subset f);exact⟨_,c.subset f,eG _ ws g _ f (by omega) (by omega)⟩
theorem mE(ho:∀x∈ws,x<18446744073709551616)(h:(ag ws).1=0):ax ws=0/\Small ws.length (ag ws).2/\cP (ai ws (ag ws).2)=0/\onW ws (ai ws (ag ws).2)/\(wd (ai ws (ag ws).2) 16=wd ws 16->stM (ai ws (ag ws).2)<stM ws)/\(1<=wd ws 16/\wd ws 16<=4)/\wd (ai ws (ag ws).2) 16<=wd ws 16+1/\(wd ws 16=4->wd (ai ws (ag ws).2) 16=4):=by
 have c:ax ws=0:=by
  by_cases d:ax ws=0
  .exact d
  unfold ag at h;rw[if_neg d] at h;exact absurd h d
 obtain⟨-,hs,hl,O⟩:=cQ c;have hb:=(ab _).1 hs;obtain⟨⟨l1,l2,l3⟩,-⟩:=(bE ws).1 hl;by_cases p:wd ws 16=1
 .have y:aC ws=0:=by
   by_cases d:aC ws=0
   .exact d
   unfold ag at h;rw[if_pos c,if_pos p,if_neg d] at h;exact absurd h d
  have e:ag ws=(0,iZ (aW ws) 2):=by unfold ag;rw[if_pos c,if_pos p,if_pos y]
  rw[e];dsimp only;obtain⟨R,Z⟩:=ry y;obtain⟨q,w,r,o,D,H⟩:=fW c p (.inl rfl) (ey y) (λx hx=>by
   obtain⟨i,X⟩:=kj6.1 hx;exact R i x X) (rI y)
  simp only[Nat.reduceAdd] at q w r o D H;refine⟨c,q,w,r,λg=>?_,by omega,by rw[o];split<;>omega,λg=>by omega⟩;have s:32<=(aW ws).length:=by
   rw[o] at g;split at g
   .assumption
   omega
  have hd:=(wc y s).2;rw[p] at g;unfold stM;rw[if_pos g,if_pos p,cN s];omega
 by_cases A:wd ws 16=2
 .have F:aj ws=0:=by
   by_cases d:aj ws=0
   .exact d
   unfold ag at h;rw[if_pos c,if_neg p,if_pos A,if_neg d] at h;exact absurd h d
  have e:ag ws=(0,iZ (aK ws) 3):=by unfold ag;rw[if_pos c,if_neg p,if_pos A,if_pos F]
  rw[e];dsimp only;obtain⟨R,Z,r3⟩:=pD F;obtain⟨q,w,r,o,D,H⟩:=fW c A (.inr rfl) R Z r3;simp only[Nat.reduceAdd] at q w r o D H;refine⟨c,q,w,r,λg=>?_,by omega,by rw[o];split<;>omega,λg=>by omega⟩;have s:32<=(aK ws).length:=by
   rw[o] at g;split at g
   .assumption
   omega
  have hd:=(Kt F s).2;rw[A] at g;unfold stM;rw[if_neg (by omega),if_pos g,if_neg p,if_pos A,cN s];omega
 by_cases J:wd ws 16=3
 .have e:ag ws=sgFix ws:=by unfold ag;rw[if_pos c,if_neg p,if_neg A,if_pos J]
  rw[e] at h |-;have I:∀(f:Nat) (l:List En),sgFix ws=(0,⟨17,f⟩::l)->me f=true->f<=ws.length->wd ws 17<f->l.length<=31->l.Pairwise (λa b=>a.a<b.a)->(∀e∈l,112<=e.a/\e.a<(ws.length:Int))->(∀e∈l,e.v<18446744073709551616) ->
   ax ws=0/\Small ws.length (sgFix ws).2/\cP (ai ws (sgFix ws).2)=0/\onW ws (ai ws (sgFix ws).2)/\(wd (ai ws (sgFix ws).2) 16=wd ws 16->stM (ai ws (sgFix ws).2)<stM ws)/\(1<=wd ws 16/\wd ws 16<=4)/\wd (ai ws (sgFix ws).2) 16<=wd ws 16+1/\(wd ws 16=4->wd (ai ws (sgFix ws).2) 16=4):=by
   intro f l C f1 f2 f3 f4 f5 f6 f7;rw[C];dsimp only;obtain⟨q,w,r,o,D,H⟩:=j9 c J f1 f2 (by omega) f4 f5 f6 f7;refine⟨c,q,w,r,λg=>?_,by omega,by rw[o];omega,λg=>by omega⟩;unfold stM;rw[o,if_neg (by decide),if_neg (by decide),if_neg p,if_neg A,au,D];omega
  by_cases z:wd ws 17=0
  .have L:eI ws=0:=by
    by_cases d:eI ws=0
    .exact d
    unfold sgFix at h;rw[if_pos z,if_neg d] at h;exact absurd h d
   have C:sgFix ws=(0,⟨17,128⟩::eC ws):=by unfold sgFix;rw[if_pos z,if_pos L]
   obtain⟨-,-,-,-,-,-,-,U,q2,q3,-⟩:=kk L;exact I 128 (eC ws) C (by decide) (by omega) (by omega) (by omega) q2 (λe B=>by have:=(U e B).1;omega) (λe B=>(U e B).2)
  have C:sgFix ws=lA ws (wd ws 17):=by unfold sgFix;rw[if_neg z]
  have h':(lA ws (wd ws 17)).1=0:=by rw[<-C];exact h
  rcases py ws.length (wd ws 17) (by omega) l2 h' with K|⟨m,m1,m2,m3,m4,m5,m6,Q,T⟩
  .rw[C,K];dsimp only;obtain⟨q,w,r,o,D,H⟩:=ig c J;exact⟨c,q,w,r,λg=>by rw[o] at g;omega,by omega,by rw[o];omega,λg=>by omega⟩
  obtain⟨f,-,-,-,-,q5,-,-,-,q9⟩:=jh Q;have q6:=Gp Q;exact I (m+szAt ws m) (cR ws (m:Int)) (by rw[C,T]) ((a9 _).2 (by omega)) m6 (by omega) (by omega) q9 (λe B=>by have:=q6 e B;omega) (λe B=>by have:=q6 e B;omega)
 by_cases N:wd ws 16=4
 .have e:ag ws=sgSld ws:=by unfold ag;rw[if_pos c,if_neg p,if_neg A,if_neg J,if_pos N]
  rw[e] at h |-;have G:bt ws ((wd ws 17:Nat):Int)=0:=by
   by_cases d:bt ws ((wd ws 17:Nat):Int)=0
   .exact d
   unfold sgSld at h;rw[if_neg d] at h;exact absurd h (by decide)
  obtain⟨-,a1,a2,m,Y,m1,m2,m3,m4,m5,m6,Q,T,-⟩:=fO G;have E:dY ws (m:Int) ((wd ws 18:Nat):Int)=0:=by
   by_cases d:dY ws (m:Int) ((wd ws 18:Nat):Int)=0
   .exact d
   unfold sgSld at h;rw[if_pos G,Y,af,if_neg d] at h;exact absurd h d
  have C:sgSld ws=(0,⟨17,m+szAt ws m⟩::⟨18,wd ws 18+szAt ws m⟩::kx ws m (wd ws 18)):=by unfold sgSld;rw[if_pos G,Y,af,if_pos E,bo,show ((m:Int)+((szAt ws m:Nat):Int)).toNat=m+szAt ws m by omega,show (((wd ws 18:Nat):Int)+((szAt ws m:Nat):Int)).toNat=wd ws 18+szAt ws m by omega];unfold jA;rw[if_pos E,kqj,kqj]
  obtain⟨a,u,n,V,W,en,n2,n10,hu,hua,han,hst,hlv,-,-,S⟩:=gI E;have V:a=m:=by omega
  have W:u=wd ws 18:=by omega
  subst V W;subst en;have P:=(dd _ _ _).1 O;have M:me (wd ws 17)=true/\me (wd ws 18)=true/\wd ws 18<=wd ws 17:=by
   rcases P with K|K|K
   .exact K.2
   .omega
   omega
  have i1:=(a9 _).1 M.1;have i2:=(a9 _).1 M.2.1;rw[C];dsimp only;obtain⟨q,w,r,o,D,H⟩:=oz (f:=a+szAt ws a) (t:=wd ws 18+szAt ws a) (l:=kx ws a (wd ws 18)) c N ((a9 _).2 (by omega)) ((a9 _).2 (by omega)) (by omega) (by omega) (by omega) (by omega) (by rw[jp];omega) (by
   rw[kzj];intro i j X hj hij;rw[gU,gU];omega) (λe B=>by
   obtain⟨k,hk,rfl⟩:=kq0 B;rw[gU];rw[jp] at hk;omega) (uK ho S)
  refine⟨c,q,w,r,λg=>?_,by omega,by rw[o];omega,λg=>o⟩;unfold stM;rw[o,if_neg (by decide),if_neg (by decide),if_neg p,if_neg A,au,D];omega
 have e:ag ws=(6,[]):=by unfold ag;rw[if_pos c,if_neg p,if_neg A,if_neg J,if_neg N]
 rw[e] at h;exact absurd h (by decide)
noncomputable def na (p:Nat):Nat->List Nat->Int × List (List En) × List Nat
 | 0,x=>(0,[],x)
 | f+1,x=>if wd x 16=p then (if (ag x).1=6 then (0,[],x) else if (ag x).1=0 then
  (if (na p f (ai x (ag x).2)).1=0 then (0,(ag x).2::(na p f (ai x (ag x).2)).2.1,(na p f (ai x (ag x).2)).2.2) else ((na p f (ai x (ag x).2)).1,[],[]))
  else ((ag x).1,[],[])) else (0,[],x)
noncomputable def mzS (p:Nat) (x:List Nat):Nat:=if wd x 16=p then stM x+1 else 0
theorem dA(ho:∀x∈ws,x<18446744073709551616)(h:(ag ws).1=0):∀x∈ai ws (ag ws).2,x<18446744073709551616:=oU _ _ ho (mE ho h).2.1.val
theorem fE(ho:∀v∈x,v<18446744073709551616)(hp:wd x 16=p)(h:(ag x).1=0):mzS p (ai x (ag x).2)<mzS p x:=by
 unfold mzS;rw[if_pos hp];split
 .rename_i h1;have:=(mE ho h).2.2.2.2.1 (by rw[h1,hp]);omega
 omega
theorem DN :∀ {f g:Nat} {x:List Nat},(∀v∈x,v<18446744073709551616)->mzS p x<=f->mzS p x<=g->na p f x=na p g x:=by
 have i:∀n,∀f g x,(∀v∈x,v<18446744073709551616)->mzS p x<=n->mzS p x<=f->mzS p x<=g->na p f x=na p g x:=by
  intro n
  induction n with
  | zero =>
   intro f g x b h e d;have a:¬ wd x 16=p:=λa=>by unfold mzS at h;rw[if_pos a] at h;omega
   cases f with
   | zero =>
    cases g with
    | zero=>rfl
    | succ g=>simp only[na];rw[if_neg a]
   | succ f =>
    cases g with
    | zero=>simp only[na];rw[if_neg a]
    | succ g=>simp only[na];rw[if_neg a,if_neg a]
  | succ n ih =>
   intro f g x b h e d;by_cases a:wd x 16=p
   .have h1:0<mzS p x:=by unfold mzS;rw[if_pos a];omega
    obtain⟨f,rfl⟩:∃f',f=f'+1:=⟨f-1,by omega⟩;obtain⟨g,rfl⟩:∃g',g=g'+1:=⟨g-1,by omega⟩;simp only[na];by_cases c:(ag x).1=0
    .have hd:=fE b a c;rw[ih f g (ai x (ag x).2) (dA b c) (by omega) (by omega) (by omega)]
    simp only[c,if_false]
   cases f with
   | zero =>
    cases g with
    | zero=>rfl
    | succ g=>simp only[na];rw[if_neg a]
   | succ f =>
    cases g with
    | zero=>simp only[na];rw[if_neg a]
    | succ g=>simp only[na];rw[if_neg a,if_neg a]
 intro f g x b e d;exact i _ f g x b (kqa _) e d
noncomputable def cA (p:Nat) (x:List Nat):Int × List (List En) × List Nat:=na p (mzS p x) x
theorem cE(h:wd x 16≠p):cA p x=(0,[],x):=by unfold cA mzS;rw[if_neg h];rfl
theorem iD(hp:wd x 16=p)(h:(ag x).1=6):cA p x=(0,[],x):=by unfold cA mzS;rw[if_pos hp];simp only[na];rw[if_pos hp,if_pos h]
theorem lT(hp:wd x 16=p)(h:(ag x).1≠6)(h2:(ag x).1≠0):cA p x=((ag x).1,[],[]):=by unfold cA mzS;rw[if_pos hp];simp only[na];rw[if_pos hp,if_neg h,if_neg h2]
theorem dt(ho:∀v∈x,v<18446744073709551616)(hp:wd x 16=p)(h:(ag x).1=0):cA p x=(if (cA p (ai x (ag x).2)).1=0 then (0,(ag x).2::(cA p (ai x (ag x).2)).2.1,(cA p (ai x (ag x).2)).2.2) else ((cA p (ai x (ag x).2)).1,[],[])):=by
 have hd:=fE ho hp h;have a:mzS p x=stM x+1:=by unfold mzS;rw[if_pos hp]
 have e:na p (stM x) (ai x (ag x).2)=cA p (ai x (ag x).2):=DN (dA ho h) (by omega) (kqa _)
 conv=>lhs;unfold cA
 rw[a];simp only[na];rw[if_pos hp,if_neg (by rw[h];decide),if_pos h,e]
noncomputable def jy (ws:List Nat):Int × List (List En) × List Nat:=if ax ws=0 then cA (wd ws 16) ws else (ax ws,[],[])
end Go.Proofs.YtpcajamacpbjcaaGreat
