/- Texts laid together: SldM SldU CurP StgP RmkP MkPP SlP WnB StgQ StgD StgS. -/
import Derived.Test.YtpcajamacpbjcaaGreatZKMove
import Derived.WalkSpells
import Derived.Test.YtpcajamacpbjcaaGreatZKCursor
import Derived.Test.YtpcajamacpbjcaaGreatZKWnt
import Derived.Test.YtpcajamacpbjcaaGreatZKFix
import Derived.Test.YtpcajamacpbjcaaGreatZKHeap
set_option maxHeartbeats 16000000
set_option maxRecDepth 100000
set_option linter.all false
namespace Go.Proofs.YtpcajamacpbjcaaGreat
open Lib (hid)
open Go.RowKit
variable {b:Bk}{f t:Int}{E l:List En}{ws x xs:List Nat}{a i j m n p u v:Nat}
open Go.Proofs.Tryz
def gl (ws:List Nat) (a u n i:Nat):List En:=(List.range n).map λj=>if j<i then ⟨((u+j:Nat):Int),wd ws (a+j)⟩ else ⟨0,0⟩
def jN (ws:List Nat) (a u:Nat):List En:=(List.range (szAt ws a)).map λj=>⟨((u+j:Nat):Int),if j=0 then cR { ar (wd ws a) with mark:=false } else if j=1 then 0 else wd ws (a+j)⟩
def iW (ws:List Nat) (f t:Int):List En:=if dK ws f t=0 then jN ws f.toNat t.toNat else []
theorem qp{r:Int}(hr:dK ws f t=r)(h0:r≠0):iW ws f t=[]:=by subst hr;simp[iW,h0]
theorem ft(ws:List Nat)(a u n i:Nat):(gl ws a u n i).length=n:=by simp[gl]
theorem gX(ws:List Nat)(a u n i j:Nat)(hj:j<n):(gl ws a u n i)[j]? = some (if j<i then ⟨((u+j:Nat):Int),wd ws (a+j)⟩ else ⟨0,0⟩):=by simp[gl,hj]
theorem xH(ws:List Nat)(a u n i:Nat)(hi:i<n):gl ws a u n (i+1)=(gl ws a u n i).set i ⟨((u+i:Nat):Int),wd ws (a+i)⟩:=by
 apply kx3;intro j;rw[kxe];by_cases b:j<n
 .rw[gX _ _ _ _ _ _ b,gX _ _ _ _ _ _ b];by_cases e:i=j
  .subst e;rw[if_pos (show i<i+1 by omega),if_pos rfl,if_pos (show i<(gl ws a u n i).length by rw[ft];exact hi)]
  rw[if_neg e];by_cases h:j<i
  .rw[if_pos h,if_pos (by omega)]
  rw[if_neg h,if_neg (by omega)]
 rw[kzb (by rw[ft];omega),if_neg (by omega),kzb (by rw[ft];omega)]
theorem en_set(l:List En)(k:Nat)(x:En):(l.set k x).flatMap En.cells=((l.flatMap En.cells).set (k*2) (.int .i64 x.a)).set (k*2+1) (.int .u64 (x.v:Int)):=by
 have d:=eF En.cells 2 En.len l k 0 (by omega) ⟨x.a,(l[k]?.getD default).v⟩ (.int .i64 x.a) (λy b=>by rw[b];rfl);have c:=eF En.cells 2 En.len (l.set k ⟨x.a,(l[k]?.getD default).v⟩) k 1 (by omega) x (.int .u64 (x.v:Int)) (λy b=>by
  rw[kxe] at b;simp only[if_true] at b;split at b
  .cases b;rfl
  cases b)
 rw[List.set_set] at c;rw[c,d];rfl
theorem Ay(l:List En)(k:Nat)(x:En)(v:Nat)(hk:l[k]? = some x):(l.set k ⟨x.a,v⟩).flatMap En.cells=(l.flatMap En.cells).set (k*2+1) (.int .u64 (v:Int)):=
 eF En.cells 2 En.len l k 1 (by omega) ⟨x.a,v⟩ (.int .u64 (v:Int)) (λy b=>by rw[hk] at b;cases b;rfl)
theorem FC(hn:szAt ws a=n)(h2:2<=n):jN ws a u=((gl ws a u n n).set 0 ⟨(u:Int),cR { ar (wd ws a) with mark:=false }⟩).set 1 ⟨((u+1:Nat):Int),0⟩:=by
 apply kx3;intro j;rw[kxe,kxe];unfold jN;rw[hn];by_cases b:j<n
 .rw[gX _ _ _ _ _ _ b,if_pos b];simp only[kxl,kvi b,kzz,kq4,ft];by_cases c:j=0
  .subst c;simp[b]
  by_cases d:j=1
  .subst d;simp[b]
  rw[if_neg c,if_neg d,if_neg (λh=>d h.symm),if_neg (λh=>c h.symm)]
 rw[if_neg (by omega),if_neg (by omega),kzb (by simp;omega),kzb (by rw[ft];omega)]
theorem GC(n:Nat):(madeCells #[Value.int .i64 0,.int .u64 0] (n*2)).toList=(List.replicate n (⟨0,0⟩:En)).flatMap En.cells:=by
 apply kx3;intro j;by_cases c:j<n*2
 .have d:j/2<(List.replicate n (⟨0,0⟩:En)).length:=by rw[kjl];omega
  have a:=iM En.cells 2 En.len (List.replicate n ⟨0,0⟩) (j/2) (j%2) d (by omega);rw[show j/2*2+j%2=j by omega,List.getElem_replicate] at a;rw[a];have b:(madeCells #[Value.int .i64 0,.int .u64 0] (n*2)).toList[j]? = some (#[Value.int .i64 0,.int .u64 0][j%2]!):=by simp[madeCells,c]
  rw[b];rcases (show j%2=0\/j%2=1 by omega) with h|h<;>rw[h]<;>rfl
 rw[kzb (by rw[kkm,size_madeCells];omega),kzb (by rw[cj En.cells 2 En.len,kjl];omega)]
theorem wN(ws:List Nat)(a u n:Nat):gl ws a u n 0=List.replicate n ⟨0,0⟩:=by
 apply kx3;intro j;by_cases b:j<n
 .rw[gX _ _ _ _ _ _ b];simp[b]
 rw[kzb (by rw[ft];omega),kzb (by simp;omega)]
theorem rq(h:aW ws f t=0){l:List Bk}(hl:blocks ws f.toNat=some l)(a:l=[]\/(gk l 0).mark=false):dK ws f t=6:=by
 unfold dK;rw[if_pos h,hl];cases l with
 | nil=>rfl
 | cons b l =>
  rcases a with a|a
  .cases a
  rw[nh] at a;simp[a]
theorem ww(h:aW ws f t=0){l:List Bk}(hl:blocks ws f.toNat=some l)(h0:0<l.length)(h2:(gk l 0).mark=true):dK ws f t=0:=by
 unfold dK;rw[if_pos h,hl];cases l with
 | nil=>simp at h0
 | cons b l=>rw[nh] at h2;simp[h2]
theorem C5(A:Option Addr)(ws:List Nat)(c n:Nat)(f t:Int)(w:World)(hn:ws.length=n)(hm:n<=9223372036854775807)(hf : -9223372036854775808<=f/\f<=9223372036854775807)(ht : -9223372036854775808<=t/\t<=9223372036854775807)(hr:RdW w w.heap.size A ws)(ho:∀x∈ws,x<18446744073709551616):
 Calls prog 146 #[.slice A n c,.int .i64 f,.int .i64 t] w λe w'=>ii w.heap.size (dK ws f t) (iW ws f t) e w'/\Below w.heap.size w w':=by
 subst hn;have HR:=hid hr;have HO:=hid ho;have U:=hid (pN A ws c ws.length f t w rfl hm hf ht hr ho);unfold vD at U;have m:=hid (λW (h:RdW W W.heap.size A ws)=>lU A ws c ws.length f W rfl hm h ho);unfold pG at m;clear hr ho;by_cases z:aW ws f t=0
 .obtain ⟨g1,g2,l,K,g4,g5⟩:=bY z;rw[fk] at g1;obtain⟨f1,f2⟩:=cF g1 (pM g2) K;rw[z] at U;rw[f1,f2] at m;obtain⟨q,hq⟩:=xq ((ic ws f t).length);rw[hq] at U;by_cases o:l.length=0
  .have N:=hid (rq z K (.inl (kx0 o)));rw[o] at m;clear g1 g2 K g4 g5 f1 f2 z hq o;go_enter func146,ntmps146;go_wp2_with fail;refine U.out.mono ?_;rintro e w1 ⟨⟨A1,c1,rfl,-,-⟩,g⟩;go_wp2_with fail;refine (m.out _ (HR.out.up g g.size)).mono ?_;rintro e w2 ⟨⟨A2,c2,rfl,-,-⟩,v⟩;go_wp2;go_ret2;exact⟨bL N.out (qp N.out (by omega)),g.trans (v.mono g.size)⟩
  have s:0<l.length:=by omega
  have hne:((l.length:Int)==0)=false:=by rw[kqi];omega
  have hnen:(l.length==0)=false:=by rw[kqi];exact o
  have hl1i:(0:Int)<(l.length:Int):=by omega
  cases j:(gk l 0).mark
  .have N:=hid (rq z K (.inr j));rw[bN l 0 s] at j;clear g1 g2 K g4 g5 f1 f2 z hq o;go_enter func146,ntmps146;go_wp2_with fail;refine U.out.mono ?_;rintro e w1 ⟨⟨A1,c1,rfl,-,-⟩,g⟩;go_wp2_with fail;refine (m.out _ (HR.out.up g g.size)).mono ?_;rintro e w2 ⟨⟨A2,c2,rfl,G,-⟩,v⟩;obtain⟨b,off,rfl,hb,q0,q1,q2,q3,q4,q5⟩:=RdB.at_ G s;rw[j] at q4;simp only[kvn,kz8] at q4;clear q0 q1 q2 q3 q5 G j;go_wp2;go_ret2;exact⟨bL N.out (qp N.out (by omega)),g.trans (v.mono g.size)⟩
  have Q:=ww z K s j;obtain⟨a,u,n,rfl,rfl,Z,n2,n10,hu,hua,han,I,Jy,-,-,Jh⟩:=gb Q;rw[kqj] at K;have V:=(cp K (by omega)).2.1;have Jq:l[0]=bkAt ws a:=by rw[<-bN l 0 s,V]
  have Jm:l[0].size=((n:Nat):Int):=by rw[Jq,bq,Z]
  rw[bN l 0 s] at j;have Jc:aB (wd ws a)=true:=by unfold stands at I;simp only[kqt] at I;exact I.1
  have Ja:fX (wd ws a) false=cR { ar (wd ws a) with mark:=false }/\n9 (wd ws a) false=0:=by unfold fX n9;rw[if_pos Jc,if_pos Jc];have h1:iY (il (wd ws a) false)=true:=Jh;exact⟨by unfold jy;rw[if_pos h1];rfl,iR h1⟩
  have S:=hid (λW=>ov (wd ws a) false W (fF HO.out a));rw[Ja.1,Ja.2] at S;have Jd:=hid (FC (u:=u) Z.symm n2);have H:Hid (dK ws (a:Int) (u:Int)=0/\iW ws (a:Int) (u:Int)=jN ws a u):=hid ⟨Q,by simp[iW,Q]⟩;obtain⟨J,Jf⟩:∃J,cR { ar (wd ws a) with mark:=false }=J:=⟨_,rfl⟩;rw[Jf] at S Jd;obtain⟨b0,Jl,Je,Jt,p0⟩:=RdW.at_ HR.out (show a<ws.length by omega);subst Je;rw[<-cq] at p0;have Ji:=gJ ws g1;have hlen:ws.length<=2048:=Ji.2.1;have ha0:(0:Int)<=(a:Int):=by omega
  have ha1:(a:Int)<(ws.length:Int):=by omega
  have hn0:(0:Int)<=(n:Int):=by omega
  obtain⟨x,hx⟩:=xq (wd ws a);rw[hx] at p0 S;clear g1 g2 K g4 g5 f1 f2 z Q hq o V Jq Jc Ja Jh Jf I Jy hx Ji hf ht Z;obtain⟨i0,hi,Jk,Jg,Jo⟩:=kzv dm;have O:=hid (And.intro hi (And.intro Jk (And.intro Jg Jo)));clear hi Jk Jg Jo;go_enter func146,ntmps146;go_wp2_with fail;refine U.out.mono ?_;rintro e w1 ⟨⟨A1,c1,rfl,-,-⟩,g⟩;go_wp2_with fail;refine (m.out _ (HR.out.up g g.size)).mono ?_;rintro e w2 ⟨⟨A2,c2,rfl,G,-⟩,v⟩;have M:=g.trans (v.mono g.size);obtain⟨b,off,rfl,hb,q0,q1,q2,q3,q4,q5⟩:=RdB.at_ G s;rw[j] at q4;rw[Jm] at q1;simp only[kvn,kz8] at q4 q1;have p2:=(M.cell (p:=⟨b0,Jl+a,none⟩) Jt).trans p0;clear q0 q2 q3 q5 G j Jm;go_wp2_with fail;refine (S.out _).mono ?_;rintro e T ⟨rfl,Eq⟩;have Jb:=M.trans (Eq.mono M.size);have q1':=(Eq.cell (p:=⟨b,off+1,none⟩) hb).trans q1;obtain⟨W0,j,B,Js⟩:=run_make_full (P:=prog) T w.heap.size 26 89 i0 (.agg #[.int .i64 0,.int .u64 0]) 2 underlying26 O.out.1 O.out.2.1 O.out.2.2.1 .i64 .i64 n (by rw[O.out.2.2.2];omega) (by unfold maxLen;omega) Jb.size;have C:W0.ownsRow w.heap.size 89 2 (.slice (some ⟨T.heap.size,0,none⟩) n n) n ((gl ws a u n 0).flatMap En.cells):=by rw[wN,<-GC];exact B
  have Ka:=hid C;have Jv:=hid (Jb.grown Js Jb.size (λk hk=>by cases hk));clear B Js C Eq M v g q4 q1 p2;go_wp2_with fail;clear j q1';have Jw:Hid (∀i,i<n->gl ws a u n (i+1)=(gl ws a u n i).set i ⟨((u+i:Nat):Int),wd ws (a+i)⟩):=hid λi hi=>xH ws a u n i hi;have R:Hid (∀i,((gl ws a u n i).flatMap En.cells).length=n*2):=hid λi=>by rw[cj En.cells 2 En.len,ft]
  go_loopw [57] (λi wr=>∃k:Nat,k<=n/\i=.int .i64 k/\wr.ownsRow w.heap.size 89 2 (.slice (some ⟨T.heap.size,0,none⟩) n n) n ((gl ws a u n k).flatMap En.cells)/\Below w.heap.size w wr) (λi _=>n-(intOf i).toNat)
  case atStart=>exact⟨0,kqy _,rfl,Ka.out,Jv.out⟩
  obtain⟨k,hk,rfl,d,hB⟩:=hrel;have L:=gp d;by_cases Ju:k<n
  .obtain ⟨b0',off0',Je,hb0',p0⟩:=RdW.at_ (Rd.below HR.out hB) (show a+k<ws.length by omega);cases Je;rw[<-cq] at p0;have HS:=hid (Jw.out k Ju);obtain⟨y,hy⟩:=xq (wd ws (a+k));rw[hy] at p0 HS;obtain⟨u0,Jj⟩:∃u0,((gl ws a u n k).flatMap En.cells)[k*2]? = some u0:=⟨_,kqk (by rw[R.out];omega)⟩;obtain⟨u1,E⟩:∃u1,((gl ws a u n k).flatMap En.cells)[k*2+1]? = some u1:=⟨_,kqk (by rw[R.out];omega)⟩;have d0:=(d.cellAt (k*2) (by omega)).trans Jj;have d1:=(d.cellAt (k*2+1) (by omega)).trans E;have e0:=d.frozenAt (k*2);have e1:=d.frozenAt (k*2+1);have D:=hid d;have hk1:(k:Int)<(n:Int):=by omega
   have hk0:(0:Int)<=(k:Int):=by omega
   have hak:(a:Int)+(k:Int)<(ws.length:Int):=by omega
   have hak0:(0:Int)<=(a:Int)+(k:Int):=by omega
   have hakt:((a:Int)+(k:Int)).toNat=a+k:=by omega
   have hwa:IntKind.i64.wrap ((a:Int)+(k:Int))=(a:Int)+(k:Int):=kqs _ (by omega);have hwu:IntKind.i64.wrap ((u:Int)+(k:Int))=(u:Int)+(k:Int):=kqs _ (by omega);clear hy Jj E d;go_wp2;go_roundw
   case rel =>
    refine⟨k+1,by omega,by go_num,?_,(hB.setCell (p:=⟨T.heap.size,k*2,none⟩) L _).setCell (p:=⟨T.heap.size,k*2+1,none⟩) L _⟩;rw[HS.out,en_set];have h5:=(((D.out.stored (k*2) (.int .i64 ((u:Int)+(k:Int)))).1).stored (k*2+1) (.int .u64 (y:Int))).1;rw[show (((u+k:Nat)):Int)=(u:Int)+(k:Int) by omega];exact h5
   case measure=>simp[intOf];omega
  obtain rfl:k=n:=by omega
  have g0:(gl ws a u k k)[0]? = some ⟨((u+0:Nat):Int),wd ws (a+0)⟩:=by rw[gX _ _ _ _ _ _ (by omega),if_pos (by omega)]
  obtain⟨u1,E⟩:∃u1,((gl ws a u k k).flatMap En.cells)[1]? = some u1:=⟨_,kqk (by rw[R.out];omega)⟩;obtain⟨u3,Jr⟩:∃u3,((gl ws a u k k).flatMap En.cells)[3]? = some u3:=⟨_,kqk (by rw[R.out];omega)⟩;have d1:=(d.cellAt 1 (by omega)).trans E;have d3:=(d.cellAt 3 (by omega)).trans Jr;have e1:=d.frozenAt 1;have e3:=d.frozenAt 3;have hn1i:(1:Int)<(k:Int):=by omega
  have hn0i:(0:Int)<(k:Int):=by omega
  have X:(((gl ws a u k k).set 0 ⟨(u:Int),J⟩).set 1 ⟨((u+1:Nat):Int),0⟩).flatMap En.cells=(((gl ws a u k k).flatMap En.cells).set 1 (.int .u64 (J:Int))).set 3 (.int .u64 0):=by rw[Ay ((gl ws a u k k).set 0 ⟨(u:Int),J⟩) 1 ⟨((u+1:Nat):Int),wd ws (a+1)⟩ 0 (by rw[kxe,if_neg (by omega),gX _ _ _ _ _ _ (by omega),if_pos (by omega)])];rw[show (⟨(u:Int),J⟩:En)=⟨(⟨((u+0:Nat):Int),wd ws (a+0)⟩:En).a,J⟩ from rfl,Ay _ 0 _ J g0];rfl
  have Jp:=hid X;have D:=hid d;have F:(jN ws a u).length=k:=by rw[Jd.out,kq4,kq4,ft]
  have Y:=hid F;clear g0 E Jr X d F;go_wp2;go_ret2;have h5:=(((D.out.stored 1 (.int .u64 (J:Int))).1).stored 3 (.int .u64 0)).1;rw[<-Jp.out,<-Jd.out] at h5;refine⟨⟨some ⟨T.heap.size,0,none⟩,k,by rw[H.out.1,H.out.2,Y.out];rfl,?_⟩,(hB.setCell (p:=⟨T.heap.size,1,none⟩) L _).setCell (p:=⟨T.heap.size,3,none⟩) L _⟩;rw[H.out.2,Y.out];exact h5
 have N:=hid (show dK ws f t=aW ws f t by unfold dK;rw[if_neg z]);have Jz:(aW ws f t != 0)=true:=by rw[kqv];exact z
 have H0:=hid z;obtain⟨r,hr⟩:=xq (aW ws f t);obtain⟨q,hq⟩:=xq ((ic ws f t).length);rw[hr,hq] at U;rw[hr] at Jz N H0;clear z hr hq;go_enter func146,ntmps146;go_wp2_with fail;refine U.out.mono ?_;rintro e w1 ⟨⟨A1,c1,rfl,-,-⟩,g⟩;go_wp2;go_ret2;exact⟨bL N.out (qp N.out H0.out),g⟩
theorem qk(A:Option Addr)(ws:List Nat)(c n H:Nat)(w:World)(hn:ws.length=n)(h0:0<n)(hm:n<=1000000)(hr:RdW w H A ws)(hH:H<=w.heap.size):
 Calls prog 70 #[.slice A n c] w λe w'=>xT w ws e w':=by have B:=hid (hr.more hH);have s:=hid hn;have o:=hid (ir ws);obtain⟨b,m,rfl,z,-⟩:=RdW.at_ hr (show 0<ws.length by omega);have i:=λ(W:World)=>Lib.run_eql_slice_nil (P:=prog) (w:=W) 22 53 (some ⟨b,m,none⟩) n c 0 0 underlying22;simp only[Option.isNone_some] at i;clear hr hH hn z;obtain⟨y,u,d,j,l⟩:=kzv mC;have v:=hid u;have p:=hid d;have r:=hid j;have q:=hid l;clear u d j l;go_enter func70,ntmps70;go_wp2_with (at_builtin;refine bC _ (by rfl) _ _ 22 rfl w.heap.size 53 y _ 1 8 underlying22 v.out p.out r.out q.out rfl (by decide) (.slice (some ⟨w.heap.size,0,none⟩) 0 0) 0 [] (by rfl) (gY w _ _ _ (kqd _)) w.heap.size (some ⟨b,m,none⟩) n _ (ws.flatMap ab) (by rfl) (by rw[o.out,s.out];omega) (Rd.alloc B.out (kqd _) _) (dF pL _) (by unfold maxLen;omega) (by omega) (by simp) ?_;intro v1 wa a k;have h:=co ((kql w.heap.size w).alloc (kqd _) _) (by simp) (gY w w.heap.size 53 1 (kqd _)) k;simp only[kxa,kz2] at a;obtain⟨g,x,rfl⟩:=fK a (by omega);have f:=hid a;have t:=hid h;clear a h k);go_ret;exact⟨g,x,by rw[s.out];rfl,by rw[s.out];exact f.out,t.out⟩
def OwnV (w:World) (xs:List Nat) (e:Ending) (w':World):Prop:=∃g c,e=.returned (.tuple #[.slice (some ⟨g,0,none⟩) xs.length c,.int .i64 0])/\w'.ownsRow w.heap.size 53 1 (.slice (some ⟨g,0,none⟩) xs.length c) xs.length (xs.flatMap ab)/\Below w.heap.size w w'
theorem Al(A B:Option Addr)(ws:List Nat)(E:List En)(c d n m H:Nat)(w:World)(hn:ws.length=n)(hm:E.length=m)(hs:aj (n:Int)=true)(hm2:m<=32)(hE:∀e∈E,0<=e.a/\e.a<(n:Int))(hr:RdW w H A ws)(he:RdE w H B E)(hH:H<=w.heap.size):
 Calls prog 53 #[.slice A n c,.slice B m d] w λe w'=>OwnV w (am ws E) e w':=by
 subst hm;obtain⟨b1,b2,-⟩:=(aa _).1 hs;have X:=hid (aX hs);have Y:=hid (hr.more hH);have Z:=hid (he.more hH);have HN:=hid hn;have t:Hid (∀k,(am ws (E.take k)).length=n):=hid λk=>by rw[ax,hn]
 have J:Hid (∀k (h:k<E.length),0<=E[k].a/\E[k].a<(n:Int)):=hid λk h=>hE _ (kqp h);have N:Hid (∀k (h:k<E.length),am ws (E.take (k+1))=(am ws (E.take k)).set E[k].a.toNat E[k].v):=hid λk h=>by rw[yO h,hn,if_pos (hE _ (kqp h))]
 have q:=hid (λW (h:RdW W W.heap.size A ws)=>qk A ws c n W.heap.size W hn (by omega) (by omega) h (kqd _));unfold xT at q;rw[hn] at q;have h32:decide ((32:Int)<(E.length:Int))=false:=by rw[kqh];omega
 clear hr he hH hn hE hs;go_enter func53,ntmps53;go_wp2_with fail;refine (aE A n c w (by omega)).mono ?_;rintro e w1 ⟨rfl,rfl⟩;rw[X.out];go_wp2_with fail;refine (q.out _ Y.out).mono ?_;rintro e w2 ⟨g,R,rfl,f,y⟩;have r:=hid f;have M:=hid y;clear f y;go_wp2_with fail;go_loopw [22] (λi wr=>∃k:Nat,k<=E.length/\i=.int .i64 k/\wr.ownsRow w.heap.size 53 1 (.slice (some ⟨g,0,none⟩) n R) n ((am ws (E.take k)).flatMap ab)/\Below w.heap.size w wr) (λi _=>E.length-(intOf i).toNat)
 case atStart=>exact⟨0,kqy _,rfl,r.out,M.out⟩
 obtain⟨k,hk,rfl,f,z⟩:=hrel;have hz:=z.size;have L:=gp f;by_cases o:k<E.length
 .obtain ⟨b,off,rfl,hb,S,Q⟩:=RdE.at_ (Rd.below Z.out z) o;have s:=hid (N.out k o);obtain⟨C,P⟩:=J.out k o;obtain⟨x,T⟩:=xq (E[k]);rw[T] at S Q s C P;obtain⟨xa,G⟩:=x;dsimp only at S Q s C P;obtain⟨a,rfl⟩:=kq1 C;rw[kqj] at s;have hk1:(k:Int)<(E.length:Int):=by omega
  have hk0:(0:Int)<=(k:Int):=by omega
  obtain⟨j,l⟩:=xq (am ws (E.take k));have O:=t.out k;rw[l] at s f O;have I:=(f.cellAt a (by omega)).trans (rI j a (by omega));have V:=f.frozenAt a;obtain⟨u,U⟩:∃u,((j[a]'(by omega):Nat):Int)=u:=⟨_,rfl⟩;rw[U] at I;have D:g<wr.heap.size:=(f.lt g rfl).2;have c0':=(kzi wr (.cells #[.int .i64 (a:Int),.int .u64 (G:Int)] 89) ⟨g,a,none⟩ D).trans I;have HO:=hid (f.alloc (.cells #[.int .i64 (a:Int),.int .u64 (G:Int)] 89));have f0':=HO.out.frozenAt a;have K:=hid f;clear T U f l I V;go_wp2;go_roundw
  case rel =>
   refine⟨k+1,by omega,by go_num,?_,(z.setCell (p:=⟨g,a,none⟩) L _).alloc (by rw[kxb];exact hz) _⟩;rw[s.out,nk];exact (K.out.stored a (.int .u64 (G:Int))).1.alloc _
  case measure=>simp[intOf];omega
 rw[kq5 (by omega)] at f;have F:=t.out E.length;rw[kzn] at F;go_wp2;go_ret2;exact⟨g,R,by rw[F];rfl,by rw[F];exact f,z⟩
theorem oj(l:List Bk):(∃k,k<l.length/\fa l k/\(gk l k).mark=true)\/fa l l.length:=by
 have a:∀n,n<=l.length->(∃k,k<l.length/\fa l k/\(gk l k).mark=true)\/fa l n:=by
  intro n
  induction n with
  | zero=>intro _;exact .inr (nn l)
  | succ n ih =>
   intro hn;rcases ih (by omega) with h|h
   .exact .inl h
   cases b:(gk l n).mark with
   | true=>exact .inl ⟨n,by omega,h,b⟩
   | false=>exact .inr (mK h b)
 exact a l.length (kqd _)
theorem sb(a b:List Bk):eE (a++b)=eE a++eE b:=by unfold eE;rw[kx8,kjj]
theorem rv{l:List Bk}:∀ {k},k<=l.length->fa l k->eE (l.take k)=[]:=by
 intro k
 induction k with
 | zero=>intro _ _;rfl
 | succ k ih =>
  intro hk h;have a:k<l.length:=by omega
  rw[rW a,ih (by omega) (λj hj=>h j (by omega))];have:=h k (by omega);rw[bN l k a] at this;simp[this]
theorem yE(b:Bk)(l:List Bk):(eE (b::l)).length=(if b.mark=true then 1 else 0)+(eE l).length:=by
 unfold eE;cases h:b.mark
 .simp[h]
 simp[h];omega
theorem nE(hs:aj (ws.length:Int)=true){l:List Bk}(h1:128<=a)(h2:a<=ws.length)(h3:a%2=0)(hb:blocks ws a=some l)(hm:0<(eE l).length):
 ∃(m z:Nat) (l':List Bk),bg ws (a:Int)=0/\(ie ws (a:Int)).at_=(m:Int)/\(ie ws (a:Int)).size=(z:Int)/\a<=m/\2<=z/\m+z<=ws.length/\(m+z)%2=0/\blocks ws (m+z)=some l'/\(eE l').length+1=(eE l).length:=by
 have c:fc ws.length (a:Int)=false:=by simp only[fc,kzl,kqh,kqq];omega
 obtain⟨n,t⟩:=cF (a:=(a:Int)) hs c (by rw[kqj];exact hb);rcases oj l with⟨k,d,f,b⟩|f
 .obtain ⟨g,r⟩:=te n t d f b;obtain⟨m,i,f2,s,o,p,q⟩:=b9 _ _ hb h3 k d;have j:=aH p;rw[bN l k d] at g b;have h:=cp q o;refine⟨m,szAt ws m,l.drop (k+1),r,by rw[g,i];rfl,by rw[g,i];rfl,s,j.1,j.2.2,by omega,?_,?_⟩
  .rw[h.2.2.2,kxm]
  have e:l=l.take k++(l[k]::l.drop (k+1)):=by rw[<-kxx d,kxg]
  have:(eE l).length=(eE (l.take k++(l[k]::l.drop (k+1)))).length:=by rw[<-e]
  rw[this,sb,kqu,rv (by omega) f,yE,b];simp;omega
 have:=rv (kqd _) f;rw[kzn] at this;rw[this] at hm;simp at hm
theorem xo(h:aw ws=0)(hp:¬ wd ws 16<3):aj (ws.length:Int)=true/\(wd ws 16=3\/wd ws 16=4)/\∃a:Nat,gi ws=(a:Int)/\128<=a/\a<=ws.length/\a%2=0/\∃l,blocks ws a=some l/\lfN ws=(eE l).length:=by
 have s:=ky h;obtain⟨E,K⟩:=ix s;obtain⟨n,G,F⟩:=fU E;obtain⟨⟨l0,t,l2⟩,-⟩:=(bt ws).1 G;have hbd:=gJ ws n;have B:=Aj h hp;have d:∀a:Nat,gi ws=(a:Int)->128<=a->a<=ws.length->a%2=0->∀l,blocks ws a=some l->∃a:Nat,gi ws=(a:Int)/\128<=a/\a<=ws.length/\a%2=0/\∃l,blocks ws a=some l/\lfN ws=(eE l).length:=by
  intro a v A L C l e;refine⟨a,v,A,L,C,l,e,?_⟩;have i:fc ws.length (a:Int)=false:=by simp only[fc,kzl,kqh,kqq];omega
  rw[B,v,(cF (a:=(a:Int)) n i (by rw[kqj];exact e)).2]
 rcases (cI _ _ _).1 F with⟨u,y,w,i3⟩|⟨q,y,w⟩|⟨H,-⟩
 .refine ⟨n,.inr u,?_⟩;have g:=(aT _).1 y;have r:aW ws (wd ws 17:Nat) (wd ws 18:Nat)=0:=by
   unfold aw at h;rw[if_pos s,if_pos u] at h;split at h
   .exact h
   simp at h
  obtain⟨-,-,l,e,-⟩:=bY r;rw[kqj] at e;exact d (wd ws 17) (by unfold gi;rw[if_neg (by omega)]) g.1 t g.2.2 l e
 .refine ⟨n,.inl q,?_⟩;have r:aW ws 128 128=0:=by unfold aw at h;rwa [if_pos s,if_neg (by omega),if_pos q] at h
  obtain⟨-,-,l,e,-⟩:=bY r;have f:blocks ws 128=some l:=e;by_cases z:wd ws 17=0
  .exact d 128 (by unfold gi;rw[if_pos (by omega)];rfl) (by omega) (by omega) (by omega) l f
  have g:=(aT _).1 (w.resolve_left z);have j:gi ws=((wd ws 17:Nat):Int):=by unfold gi;rw[if_neg (by omega)]
  have c:=K q z;unfold nR at c;rw[f] at c;have c:(l.any (λb=>b.at_==((wd ws 17:Nat):Int))||wd ws 17==ws.length)=true:=c;rw[kxv,kx1] at c;rcases c with⟨b,D,o⟩|o
  .obtain ⟨k,I,rfl⟩:=kqz D;obtain⟨m,J,f2,f3,f4,f5,x⟩:=b9 _ _ f (by omega) k I;rw[kqw,J] at o;have p:m=wd ws 17:=by have:((m:Nat):Int)=((wd ws 17:Nat):Int):=o;omega
   rw[p] at x;exact d (wd ws 17) j g.1 t g.2.2 _ x
  rw[kqw] at o;exact d (wd ws 17) j g.1 t g.2.2 [] (aD (by omega))
 exact absurd H hp
def phE (p f t:Nat):List En:=[⟨16,p⟩,⟨17,f⟩,⟨18,t⟩]
theorem fD(j v:Nat)(l:List En)(h:j<ws.length):am ws (⟨(j:Int),v⟩::l)=am (ws.set j v) l:=by simp only[am];rw[if_pos (by omega),kqj]
def iA (l:List En) (p:Nat):List En:=if 32<=l.length then l.take 31 else ⟨16,p⟩::l
def bZ:List En:=[⟨16,4⟩,⟨17,128⟩,⟨18,128⟩]
theorem fq(h:bg ws (a:Int)=0):aj (ws.length:Int)=true/\128<=a/\a%2=0/\∃m:Nat,ie ws (a:Int)=bkAt ws m/\a<=m/\m%2=0/\2<=szAt ws m/\szAt ws m%2=0/\m+szAt ws m<=ws.length/\stands ws m=true/\(bkAt ws m).mark=true/\(bkAt ws m).kind=1/\∃l,blocks ws a=some l/\bQ ws (a:Int)=0/\aN ws (a:Int)=l/\∃k,k<l.length/\fa l k/\blocks ws m=some (l.drop k):=by
 have d:bQ ws (a:Int)=0:=by
  by_cases n:bQ ws (a:Int)=0
  .exact n
  rw[(uS rfl n).2] at h;exact absurd h n
 have i:aj (ws.length:Int)=true:=by
  cases q:aj (ws.length:Int) with
  | true=>rfl
  | false=>rw[fv q] at d;cases d
 have c:fc ws.length (a:Int)=false:=by
  cases q:fc ws.length (a:Int) with
  | false=>rfl
  | true=>rw[jj i q] at d;cases d
 have ha:=jE c;cases o:blocks ws a with
 | none=>rw[eQ i c (by rw[kqj];exact o)] at d;cases d
 | some l =>
  have g:=cF (a:=(a:Int)) i c (l:=l) (by rw[kqj];exact o);rcases oj l with⟨k,f,j,e⟩|j
  .obtain ⟨s,-⟩:=te d g.2 f j e;obtain⟨m,t,v,w,f4,r,u⟩:=b9 _ _ o (by omega) k f;have p:=aH r;have b:=GF d (k:=k) (by rw[g.2];exact f);rw[g.2] at b;rw[bN l k f] at s e b;rw[t] at e b;rw[e] at b;simp only[kvs,kvt,kqw] at b;exact⟨i,by omega,by omega,m,by rw[s,t],w,v,p.1,p.2.1,p.2.2,r,e,b,l,rfl,d,g.2,k,f,j,u⟩
  rw[(Ce d g.2 j).2] at h;cases h
def fixL (ws:List Nat):Nat->Nat->Int × List En
 | 0,_=>(0,bZ)
 | f+1,a=>if bg ws (a:Int)=0 then (if bM ws (ie ws (a:Int)).at_=[] then fixL ws f ((ie ws (a:Int)).at_+(ie ws (a:Int)).size).toNat
  else if dt ws (ie ws (a:Int)).at_=0 then (0,⟨17,((ie ws (a:Int)).at_+(ie ws (a:Int)).size).toNat⟩::cD ws (ie ws (a:Int)).at_)
  else (dt ws (ie ws (a:Int)).at_,[])) else (0,bZ)
theorem Be :∀ {f a g:Nat},ws.length-a<f->ws.length-a<g->fixL ws f a=fixL ws g a:=by
 intro f
 induction f with
 | zero=>intro a g h;omega
 | succ f ih =>
  intro a g h hg;cases g with
  | zero=>omega
  | succ g =>
   simp only[fixL];by_cases b:bg ws (a:Int)=0
   .obtain ⟨hs,a1,a2,m,e,m1,m2,m3,m4,m5,-⟩:=fq b;have d:((ie ws (a:Int)).at_+(ie ws (a:Int)).size).toNat=m+szAt ws m:=by rw[e,ae,bq];omega
    rw[if_pos b,if_pos b,d];by_cases c:bM ws (ie ws (a:Int)).at_=[]
    .rw[if_pos c,if_pos c];exact ih (by omega) (by omega)
    rw[if_neg c,if_neg c]
   rw[if_neg b,if_neg b]
def kK (ws:List Nat) (a:Nat):Int × List En:=fixL ws (ws.length+1) a
theorem jT(h:bg ws (a:Int)≠0):kK ws a=(0,bZ):=by unfold kK;rw[fixL,if_neg h]
theorem kN(h:bg ws (a:Int)=0)(e:ie ws (a:Int)=bkAt ws m)(h2:bM ws (m:Int)=[]):kK ws a=kK ws (m+szAt ws m):=by
 obtain⟨hs,a1,a2,b,d,m1,m2,m3,m4,m5,-⟩:=fq h;have c:b=m:=by have:=congrArg Bk.at_ (e.symm.trans d);rw[ae,ae] at this;omega
 subst c;unfold kK;rw[fixL,if_pos h,e,ae,if_pos h2,bq,show (((b:Int)+((szAt ws b:Nat):Int)).toNat)=b+szAt ws b by omega];exact Be (by omega) (by omega)
theorem uO(h:bg ws (a:Int)=0)(e:ie ws (a:Int)=bkAt ws m)(h2:bM ws (m:Int)≠[])(h3:dt ws (m:Int)≠0):kK ws a=(dt ws (m:Int),[]):=by unfold kK;rw[fixL,if_pos h,e,ae,if_neg h2,if_neg h3]
theorem pU(h:bg ws (a:Int)=0)(e:ie ws (a:Int)=bkAt ws m)(h2:bM ws (m:Int)≠[])(h3:dt ws (m:Int)=0):kK ws a=(0,⟨17,m+szAt ws m⟩::cD ws (m:Int)):=by unfold kK;rw[fixL,if_pos h,e,ae,if_neg h2,if_pos h3,bq,show (((m:Int)+((szAt ws m:Nat):Int)).toNat)=m+szAt ws m by omega]
def sgFix (ws:List Nat):Int × List En:=if wd ws 17=0 then (if ep ws=0 then (0,⟨17,128⟩::dV ws) else (ep ws,[])) else kK ws (wd ws 17)
def sgSld (ws:List Nat):Int × List En:=if bg ws ((wd ws 17:Nat):Int)=0 then
 (if dK ws (ie ws ((wd ws 17:Nat):Int)).at_ ((wd ws 18:Nat):Int)=0 then (0,⟨17,((ie ws ((wd ws 17:Nat):Int)).at_+(ie ws ((wd ws 17:Nat):Int)).size).toNat⟩::⟨18,(((wd ws 18:Nat):Int)+(ie ws ((wd ws 17:Nat):Int)).size).toNat⟩::iW ws (ie ws ((wd ws 17:Nat):Int)).at_ ((wd ws 18:Nat):Int))
 else (dK ws (ie ws ((wd ws 17:Nat):Int)).at_ ((wd ws 18:Nat):Int),[])) else (6,[])
noncomputable def af (ws:List Nat):Int × List En:=if aw ws=0 then
 (if wd ws 16=1 then (if aA ws=0 then (0,iA (aO ws) 2) else (aA ws,[]))
 else if wd ws 16=2 then (if ah ws=0 then (0,iA (aG ws) 3) else (ah ws,[]))
 else if wd ws 16=3 then sgFix ws
 else if wd ws 16=4 then sgSld ws else (6,[])) else (aw ws,[])
theorem cr(h:32<=l.length):iA l p=l.take 31:=by unfold iA;rw[if_pos h]
theorem iK(h:¬ 32<=l.length):iA l p=⟨16,p⟩::l:=by unfold iA;rw[if_neg h]
theorem iS{x:Nat}(h:aB x=true)(hk:(ar x).kind=1)(m:Bool):aB (fX x m)=true/\ar (fX x m)={ ar x with mark:=m }/\n9 x m=0/\fX x m<18446744073709551616:=by
 have e:iY (ar x)=true:=by unfold aB at h;simp only[kqt] at h;exact h.1
 have a:iY (il x m)=true:=by
  have d:=(bA _).1 e;rw[bA];unfold il;dsimp only;refine⟨d.1,.inl ?_⟩;rcases d.2 with b|b
  .exact b
  rw[hk] at b;exact absurd b.1 (by decide)
 have c:fX x m=cR (il x m):=by unfold fX jy;rw[if_pos h,if_pos a]
 refine⟨by rw[c];exact oG a,?_,by unfold n9;rw[if_pos h];exact iR a,by rw[c];exact qi a⟩;rw[c,mw a];rfl
theorem nB{x:Nat}(h:aB x=true):2048<x:=by unfold aB at h;simp only[kqt] at h;have a:=(bA _).1 h.1;have b:(ar x).size=((x/65536%65536:Nat):Int):=rfl;rw[b] at a;omega
structure Rm (ws xs:List Nat):Prop where
 len:xs.length=ws.length
 at_:∀i,wd xs i=wd ws i\/(128<=i/\i%2=0/\aB (wd ws i)=true/\(ar (wd ws i)).kind=1/\∃m,wd xs i=fX (wd ws i) m)
section
variable {ws xs:List Nat}
theorem Rm.low(h:Rm ws xs)(hi:i<128):wd xs i=wd ws i:=by
 rcases h.at_ i with a|a
 .exact a
 omega
theorem Rm.odd(h:Rm ws xs)(hi:i%2=1):wd xs i=wd ws i:=by
 rcases h.at_ i with a|a
 .exact a
 omega
theorem Rm.sp(h:Rm ws xs)(i:Nat):aB (wd xs i)=aB (wd ws i):=by
 rcases h.at_ i with b|⟨-,-,a,c,m,d⟩
 .rw[b]
 rw[d,a,(iS a c m).1]
def rO (xs:List Nat) (i:Nat):Bool:=(ar (wd xs i)).mark
theorem Rm.raw(h:Rm ws xs)(i:Nat):ar (wd xs i)={ ar (wd ws i) with mark:=rO xs i }:=by
 unfold rO;rcases h.at_ i with a|⟨-,-,d,b,m,c⟩
 .rw[a]
 rw[c,(iS d b m).2.1]
theorem Rm.sz(h:Rm ws xs)(i:Nat):(ar (wd xs i)).size=(ar (wd ws i)).size:=by rw[h.raw i]
theorem Rm.szAt(h:Rm ws xs)(i:Nat):szAt xs i=szAt ws i:=by have a:=h.sz i;have e:∀w,(ar w).size=((w/65536%65536:Nat):Int):=λ_=>rfl;rw[e,e] at a;unfold Proofs.YtpcajamacpbjcaaGreat.szAt;exact Int.ofNat.inj a
theorem Rm.stands(h:Rm ws xs)(i:Nat):stands xs i=stands ws i:=by unfold Proofs.YtpcajamacpbjcaaGreat.stands;rw[h.sp,h.sz,h.len]
def mkB (xs:List Nat) (b:Bk):Bk:={ b with mark:=rO xs b.at_.toNat }
theorem Rm.bkAt(h:Rm ws xs)(hi:i%2=0):bkAt xs i=mkB xs (bkAt ws i):=by
 unfold mkB;have a:(Proofs.YtpcajamacpbjcaaGreat.bkAt ws i).at_.toNat=i:=by rw[ae,kqj]
 rw[a];unfold Proofs.YtpcajamacpbjcaaGreat.bkAt;rw[h.raw i,h.odd (i:=i+1) (by omega)]
theorem Rm.blocks(h:Rm ws xs):∀i l,blocks ws i=some l->i%2=0->blocks xs i=some (l.map (mkB xs)):=by
 refine dU (λi l=>i%2=0->Proofs.YtpcajamacpbjcaaGreat.blocks xs i=some (l.map (mkB xs))) (λi a _=>?_) (λi l a c hb b d=>?_)
 .exact aD (by rw[h.len];exact a)
 have hsz:=aH c;have b:=b (by omega);rw[aL (by rw[h.len];exact a) (by rw[h.stands];exact c),h.szAt,b,h.bkAt d];rfl
theorem yv(n:Nat)(l:List Bk):pz n (l.map (mkB xs))=pz n l:=by unfold pz;rw[List.foldl_map];rfl
theorem FK(h:Rm ws xs)(hb:b.kind=1->tyA b+1<128):dC xs (mkB xs b)=dC ws b:=by
 have e:=zo (ws:=ws) (xs:=xs) (λj c=>h.low c) hb;by_cases a:b.kind=1
 .have h2:=hb a;unfold dC cZ;show (b.kind != 1||(ch (wd xs (tyA b)) (wd xs (tyA b+1))&&b.size==((aY (wd xs (tyA b)%256):Nat):Int)))=_;rw[h.low (by omega),h.low (by omega)]
 rw[ey a,ey (b:=mkB xs b) a]
theorem Rm.heap(h:Rm ws xs)(h0:ah ws=0):ah xs=0/\ag xs=(ag ws).map (mkB xs):=by obtain⟨f,l,c,d,g⟩:=ay h0;have e:=h.blocks 128 l c (by omega);rw[g];refine fS (by rw[h.len];exact f) e ?_;rw[List.all_map,kzu];rw[kzu] at d;intro b a;show dC xs (mkB xs b)=true;rw[FK h (je c (by omega) b a)];exact d b a
theorem Rm.tb(h:Rm ws xs)(h0:ah ws=0)(a:Nat):tb xs a=tb ws a:=by unfold Proofs.YtpcajamacpbjcaaGreat.tb;rw[(h.heap h0).2,h.len,yv]
theorem Rm.slAt(h:Rm ws xs)(hi:i<16):slAt xs i=slAt ws i:=by unfold Proofs.YtpcajamacpbjcaaGreat.slAt;rw[h.low (by omega)]
theorem Rm.slsOk(h:Rm ws xs):slsOk xs=slsOk ws:=by
 rw[kzg,cN,cN];unfold nY;constructor
 .intro b i a;rw[<-h.slAt a];exact b i a
 intro b i a;rw[h.slAt a];exact b i a
theorem nJ(h:fQ ws a):(ar (wd ws a)).typ.toNat<8:=by have h7:=(bA _).1 (fG h.2.2.2.1);have h5:=h.2.2.2.2.1;omega
theorem Rm.flds(h:Rm ws xs)(h0:ah ws=0)(ha:Proofs.YtpcajamacpbjcaaGreat.tb ws a≠0):flds xs a=flds ws a:=by obtain⟨b,-⟩:=iy h0 ha;have:=nJ b;unfold Proofs.YtpcajamacpbjcaaGreat.flds;rw[h.raw a];dsimp only;rw[h.low (by omega),h.low (by omega)]
theorem Rm.ref(h:Rm ws xs)(hg:oB ws)(h0:ah ws=0)(ha:Rch ws a)(ht:Proofs.YtpcajamacpbjcaaGreat.tb ws a≠0)(hf:(Proofs.YtpcajamacpbjcaaGreat.flds ws a)[i]? = some 3):wd xs (a+2+i)=wd ws (a+2+i):=by
 rcases h.at_ (a+2+i) with d|⟨-,-,c,-⟩
 .exact d
 exfalso;have hb:=nB c;have b:=hg _ (Rch.ref a i ha ht hf (by omega));rw[kva (by omega)] at b;have:=rZ b;have:=(gJ ws (ay h0).1).2.1;omega
theorem Rm.rch(h:Rm ws xs)(hg:oB ws)(h0:ah ws=0)(a:Nat):Rch xs a↔Rch ws a:=by
 constructor
 .intro b
  induction b with
  | slot i hi hu=>rw[h.slAt hi] at hu |-;exact Rch.slot i hi hu
  | ref a i b ht hf hv ih =>rw[h.tb h0] at ht;rw[h.flds h0 ht] at hf;rw[h.ref hg h0 ih ht hf] at hv |-;exact Rch.ref a i ih ht hf hv
 intro b
 induction b with
 | slot i hi hu=>rw[<-h.slAt hi] at hu |-;exact Rch.slot i hi hu
 | ref a i b ht hf hv ih =>rw[<-h.ref hg h0 b ht hf] at hv |-;exact Rch.ref a i ih (by rw[h.tb h0];exact ht) (by rw[h.flds h0 ht];exact hf) hv
theorem aF(h:aA ws=0):ah ws=0/\slsOk ws=true/\oB ws:=by
 unfold aA at h;by_cases a:ah ws=0
 .rw[if_pos a] at h;by_cases b:Proofs.YtpcajamacpbjcaaGreat.slsOk ws=true
  .rw[if_pos b] at h;by_cases c:oB ws
   .exact ⟨a,b,c⟩
   rw[if_neg c] at h;cases h
  rw[if_neg b] at h;cases h
 rw[if_neg a] at h;exact absurd h a
theorem Rm.same(h:Rm ws xs)(h0:aA ws=0):aA xs=0/\dX xs=dX ws/\seenL xs=seenL ws/\ah xs=0/\ag xs=(ag ws).map (mkB xs):=by
 obtain⟨b,j,e⟩:=aF h0;have f:=h.rch e b;have c:=h.heap b;have i:oB xs:=λa k=>by rw[h.tb b];exact e a ((f a).1 k)
 have g:aA xs=0:=Ap c.1 (by rw[h.slsOk];exact j) i;have d:seenL xs=seenL ws:=by unfold seenL;rw[h.len];refine kz4 λa _=>?_;exact decide_eq_decide.2 (f a)
 refine⟨g,?_,d,c⟩;rw[dW g,dW h0,d,h.len]
end
theorem GJ:∀ {a b:List Int},a.Pairwise (· < ·)->b.Pairwise (· < ·)->(∀x,x∈a↔x∈b)->a=b:=by
 intro a
 induction a with
 | nil =>
  intro b _ _ h;cases b with
  | nil=>rfl
  | cons y b=>exact absurd ((h y).2 (by simp)) (by simp)
 | cons x a ih =>
  intro b f e h;cases b with
  | nil=>exact absurd ((h x).1 (by simp)) (by simp)
  | cons y b =>
   rw[kke] at f e;have i:x=y:=by
    have d:=(h x).1 (by simp);have c:=(h y).2 (by simp);rw[kqx] at d c;rcases d with d|d
    .exact d
    rcases c with c|c
    .exact c.symm
    have:=e.1 _ d;have:=f.1 _ c;omega
   subst i;rw[ih f.2 e.2 (λz=>?_)];have g:=h z;rw[kqx,kqx] at g;constructor
   .intro d;have:=f.1 _ d;rcases g.1 (.inr d) with c|c
    .omega
    exact c
   intro d;have:=e.1 _ d;rcases g.2 (.inr d) with c|c
   .omega
   exact c
theorem dR(l:List En):∀ws:List Nat,l.Pairwise (λa b=>a.a<b.a)->∀e∈l,0<=e.a->e.a<(ws.length:Int)->wd (am ws l) e.a.toNat=e.v:=by
 induction l with
 | nil=>intro ws _ e c;simp at c
 | cons x l ih =>
  intro ws f e c g d;rw[kke] at f;simp only[am];rcases kqx.1 c with rfl|c
  .rw[aP l _ _ (λy h=>by have:=f.1 y h;omega),if_pos ⟨g,d⟩];unfold wd;rw[kz6 (by omega)];rfl
  refine ih _ f.2 e c g ?_;split
  .rw[kq4];exact d
  exact d
theorem lg :∀i l,blocks ws i=some l->(∀b∈l,(i:Int)<=b.at_)/\l.Pairwise (λa b=>a.at_<b.at_):=by
 refine dU _ (λi _=>⟨λb h=>by simp at h,List.Pairwise.nil⟩) (λi l hi d hb c=>?_);have hsz:=aH d;refine⟨λb h=>?_,List.Pairwise.cons (λb h=>?_) c.2⟩
 .rcases kqx.1 h with rfl|h
  .rw[ae];omega
  have:=c.1 b h;omega
 have:=c.1 b h;rw[ae];omega
theorem cg(h:ah ws=0):(∀b∈ag ws,∃a:Nat,b=bkAt ws a/\128<=a/\a%2=0/\a<ws.length/\stands ws a=true)/\(ag ws).Pairwise (λa b=>a.at_<b.at_):=by obtain⟨h1,l,c,h3,j⟩:=ay h;rw[j];refine⟨λb f=>?_,(lg _ _ c).2⟩;obtain⟨k,m,rfl⟩:=kqz f;obtain⟨a,d,g,e3,i,e,-⟩:=b9 _ _ c (by omega) k m;exact⟨a,d,by omega,g,i,e⟩
theorem pS(h:aA ws=0)(ha:Rch ws a):∃b∈ag ws,b=bkAt ws a/\b.kind=1/\fQ ws a:=by obtain⟨f,h2,d⟩:=aF h;obtain⟨c,-⟩:=iy f (d a ha);obtain⟨k,g,e,-⟩:=c.2.2.2.2.2.2;exact⟨_,kqp g,e,by rw[e];exact c.2.2.2.2.1,c⟩
noncomputable def eO (ws:List Nat) (b:Bk):Bool:=(seenL ws)[b.at_.toNat]?.getD false
theorem fm(h:a<ws.length):eO ws (bkAt ws a)=true↔Rch ws a:=by unfold eO;rw[ae,kqj];exact kV h
theorem Bi(h:aA ws=0)(hb:b∈ag ws)(hk:eG (seenL ws) b=false):b.kind=1:=by
 obtain⟨f,-,-⟩:=aF h;obtain⟨a,rfl,a1,a2,g,a4⟩:=(cg f).1 b hb;cases d:(bkAt ws a).mark with
 | true =>obtain⟨_,l,k,-,j⟩:=ay f;rw[j] at hb;exact jA k (by omega) _ hb d
 | false =>
  have i:eO ws (bkAt ws a)=true:=by
   unfold eG at hk;rw[d] at hk;unfold eO;cases m:(seenL ws)[(bkAt ws a).at_.toNat]?.getD false with
   | true=>rfl
   | false=>rw[m] at hk;exact absurd hk (by decide)
  obtain⟨b',-,e,c,-⟩:=pS h ((fm g).1 i);rw[e] at c;exact c
theorem eg(h:aA ws=0):aO ws=(lm (seenL ws) (ag ws)).map (xS ws (seenL ws)):=by unfold aO;rw[if_pos h]
theorem dN(h:aA ws=0){e:En}(he:e∈aO ws):∃a:Nat,bkAt ws a∈ag ws/\128<=a/\a%2=0/\a<ws.length/\aB (wd ws a)=true/\(ar (wd ws a)).kind=1/\e=⟨(a:Int),fX (wd ws a) (eO ws (bkAt ws a))⟩/\eG (seenL ws) (bkAt ws a)=false:=by
 obtain⟨l,-,-⟩:=aF h;rw[eg h,kzw] at he;obtain⟨b,d,rfl⟩:=he;have f:=qt d;have i:eG (seenL ws) b=false:=by
  unfold lm at d;have:=(kzo.1 d).2
  simpa using this
 have c:=Bi h f i;obtain⟨a,rfl,m,k,j,g⟩:=(cg l).1 b f;refine⟨a,f,m,k,j,?_,c,rfl,i⟩;unfold stands at g;simp only[kqt] at g;exact g.1
theorem dQ(h:aA ws=0):(aO ws).Pairwise (λa b=>a.a<b.a):=by obtain⟨c,-,-⟩:=aF h;rw[eg h,kk1];exact List.Pairwise.filter _ (cg c).2
theorem pt(h:aA ws=0):∀e∈aO ws,e.v<18446744073709551616:=by intro e c;obtain⟨a,-,-,-,-,b,d,rfl,-⟩:=dN h c;exact (iS b d _).2.2.2
theorem zM(h:aA ws=0):Rm ws (am ws (aO ws)):=by
 refine⟨ax _ _,λi=>?_⟩;by_cases f:∃e∈aO ws,e.a=(i:Int)
 .obtain ⟨e,b,d⟩:=f;obtain⟨a,-,m,k,a3,g,l,rfl,-⟩:=dN h b;have c:a=i:=by dsimp only at d;omega
  subst c;refine .inr ⟨m,k,g,l,eO ws (bkAt ws a),?_⟩;have:=dR (aO ws) ws (dQ h) _ b (by dsimp only;omega) (by dsimp only;omega);dsimp only at this;rw[kqj] at this;exact this
 exact .inl (aP _ _ _ (λe b j=>f ⟨e,b,j⟩))
theorem kJ(h:aA ws=0)(hb:b∈ag ws):(mkB (am ws (aO ws)) b).mark=eO ws b:=by
 obtain⟨k,-,-⟩:=aF h;obtain⟨a,rfl,a1,a2,a3,a4⟩:=(cg k).1 b hb;show rO _ (bkAt ws a).at_.toNat=_;rw[ae,kqj];cases d:eG (seenL ws) (bkAt ws a) with
 | false =>
  have g:xS ws (seenL ws) (bkAt ws a)∈aO ws:=by rw[eg h,kzw];refine⟨_,?_,rfl⟩;unfold lm;rw[kzo];exact⟨hb,by rw[d];rfl⟩
  obtain⟨f,-,m,p,l,i,j,e,-⟩:=dN h g;have n:=congrArg En.a e;have:f=a:=by have:((bkAt ws a).at_:Int)=(f:Int):=n;rw[ae] at this;omega
  subst this;have:=dR (aO ws) ws (dQ h) _ g (by rw[e];dsimp only;omega) (by rw[e];dsimp only;omega);rw[e] at this;dsimp only at this;rw[kqj] at this;unfold rO;rw[this,(iS i j _).2.1]
 | true =>
  have o:wd (am ws (aO ws)) a=wd ws a:=aP _ _ _ (λe g q=>by
   obtain⟨f,hm,m,p,l,i,j,rfl,c⟩:=dN h g;have:f=a:=by dsimp only at q;omega
   subst this;rw[d] at c;cases c)
  unfold rO;rw[o];unfold eG at d;exact kqw.1 d
theorem El{l:List Bk}(h:l.Pairwise (λa b=>a.at_<b.at_)):(eE l).Pairwise (· < ·):=by unfold eE;rw[kk1];exact List.Pairwise.filter _ h
theorem y9{l:List Bk}(h:l.Pairwise (λa b=>a.at_<b.at_)):(l.map (mkB xs)).Pairwise (λa b=>a.at_<b.at_):=by rw[kk1];exact h
theorem gc(h:aA ws=0)(x:Int):x∈dX ws↔∃a:Nat,x=(a:Int)/\a<ws.length/\Rch ws a:=by
 rw[dW h];unfold rB;rw[kzw];constructor
 .rintro ⟨a,b,rfl⟩;rw[kzo,kzh] at b;exact⟨a,rfl,b.1,(kV b.1).1 b.2⟩
 rintro ⟨a,rfl,c,d⟩;exact⟨a,kzo.2 ⟨kzh.2 c,(kV c).2 d⟩,rfl⟩
theorem BE(h:aA ws=0):(dX ws).Pairwise (· < ·):=by rw[dW h];unfold rB;rw[kk1];refine List.Pairwise.filter _ ?_;refine List.Pairwise.imp (R:=(· < ·)) (λ{a b} hab=>?_) List.pairwise_lt_range;omega
theorem DJ(h:aA ws=0):eE ((ag ws).map (mkB (am ws (aO ws))))=dX ws:=by
 obtain⟨k,-,h3⟩:=aF h;have d:=cg k;refine GJ (El (y9 d.2)) (BE h) λx=>?_;rw[gc h];unfold eE;rw[kzw];constructor
 .rintro ⟨c,g,rfl⟩;rw[kzo,kzw] at g;obtain⟨⟨b,e,rfl⟩,j⟩:=g;rw[kJ h e] at j;obtain⟨a,rfl,a1,a2,f,a4⟩:=d.1 b e;exact⟨a,ae ws a,f,(fm f).1 j⟩
 rintro ⟨a,rfl,l,i⟩;obtain⟨b,e,rfl,-,-⟩:=pS h i;refine⟨mkB (am ws (aO ws)) (bkAt ws a),?_,ae ws a⟩;rw[kzo];refine⟨kju e,?_⟩;rw[kJ h e];exact (fm l).2 i
theorem pg(h:aA ws=0):(∀(i:Nat) (x:En),(aO ws)[i]? = some x->128<=x.a/\x.a<(ws.length:Int))/\∀(i:Nat) (x y:En),(aO ws)[i]? = some x->(aO ws)[i+1]? = some y->x.a<y.a:=by
 refine⟨λi x b=>?_,λi x y b j=>?_⟩
 .obtain ⟨a,-,a1,-,a3,-,-,rfl,-⟩:=dN h (List.mem_of_getElem? b);dsimp only;omega
 have c:=dQ h;rw[kzj] at c;obtain⟨g,d⟩:=kza.1 b;obtain⟨f,e⟩:=kza.1 j;rw[<-d,<-e];exact c i (i+1) g f (by omega)
theorem iD(ws:List Nat)(a u:Nat):(jN ws a u).length=szAt ws a:=by simp[jN]
theorem C6(l:List Nat):∀(ws:List Nat) (t:Nat),t+l.length<=ws.length->am ws ((List.range l.length).map λj=>(⟨((t+j:Nat):Int),l[j]?.getD 0⟩:En))=eN ws t l:=by
 induction l with
 | nil=>intro ws t _;rfl
 | cons v l ih =>intro ws t h;simp only[kq2] at h;rw[kq2,List.range_succ_eq_map,kxz,List.map_map];simp only[am,eN,kz8];rw[if_pos (by omega),kqj,List.getElem?_cons_zero,kq9,<-ih _ (t+1) (by rw[kq4];omega)];congr 1;apply kz4;intro j _;simp only[Function.comp];rw[show t+Nat.succ j=t+1+j by omega];simp
theorem BY(h:u+szAt ws a<=ws.length):am ws (jN ws a u)=eN ws u (dH ws a):=by rw[<-C6 _ _ _ (by rw[fZ];exact h),fZ];congr 1;unfold jN;apply kz4;intro j b;rw[kk _ _ _ (kzh.1 b)];rfl
theorem tg(ho:∀x∈ws,x<18446744073709551616)(h:iY { ar (wd ws a) with mark:=false }=true):∀e∈jN ws a u,e.v<18446744073709551616:=by
 intro e b;simp only[jN,kzw] at b;obtain⟨j,-,rfl⟩:=b;dsimp only;split
 .exact qi h
 split
 .omega
 exact fF ho _
theorem ga{k:Nat}(h:k<(jN ws a u).length):((jN ws a u)[k]).a=((u+k:Nat):Int):=by simp[jN]
theorem vH:∀ {l:List Bk} {s:Int},(∀b∈l,0<=b.size)->s<=aK l s:=by
 intro l
 induction l with
 | nil=>intro s _;exact kvg _
 | cons b l ih =>
  intro s h;have h1:=h b (by simp);simp only[aK];split
  .have:=ih (s:=s+b.size) (λc a=>h c (by simp[a]));omega
  exact ih (λc a=>h c (by simp[a]))
theorem sJ:∀ {l:List Bk} {s:Int},0<=s->(∀b∈l,0<=b.size)->∀e∈aQ l s,(e.v:Int)<=aK l s:=by
 intro l
 induction l with
 | nil=>intro s _ _ e h;simp[aQ] at h
 | cons b l ih =>
  intro s hs h e a;have h1:=h b (by simp);have f:∀c∈l,0<=c.size:=λc g=>h c (by simp[g]);have hns:s<=eU b s:=by unfold eU;split<;>omega
  have hge:=vH (l:=l) (s:=eU b s) f;have d:aK (b::l) s=aK l (eU b s):=by simp only[aK,eU];split<;>rfl
  rw[d];simp only[aQ,kz1] at a;rcases a with a|a
  .split at a
   .simp only[kqx,kzf,or_false] at a;subst a;show ((bv b s:Nat):Int)<=_;unfold bv;split<;>omega
   simp at a
  exact ih (by omega) f e a
theorem uH(h:ah x=0):(aG x).length<=1024/\∀e∈aG x,e.v<18446744073709551616:=by
 have j:aG x=aQ (ag x) 128:=by unfold aG;rw[if_pos h]
 rw[j];refine⟨kz5 (nF _ _) (jh x),λe m=>?_⟩;obtain⟨a,d,c,hs3⟩:=eP (gj h).2.2.1;have h1:=sJ (l:=ag x) (s:=128) (by omega) (λb f=>by
  obtain⟨i,g,rfl⟩:=kqz f;have:=vg (gj h).2.2.1 g;omega) e m
 have k:=kx a (kqd _) d c;rw[kzn] at k;omega
structure Small (n:Nat) (E:List En):Prop where
 pos:1<=E.length
 le:E.length<=32
 inc:E.Pairwise (λa b=>a.a<b.a)
 ins:∀e∈E,(16<=e.a/\e.a<19\/112<=e.a)/\e.a<(n:Int)
 val:∀e∈E,e.v<18446744073709551616
theorem zc(h:l.Pairwise (λa b=>a.a<b.a))(k:Nat):(l.take k).Pairwise (λa b=>a.a<b.a):=h.sublist (kjr k l)
theorem Bg(hn:256<=n)(hp:p<4)(h1:l.Pairwise (λa b=>a.a<b.a))(h2:∀e∈l,128<=e.a/\e.a<(n:Int))(h3:∀e∈l,e.v<18446744073709551616):Small n (iA l p):=by
 by_cases h:32<=l.length
 .rw[cr h];refine⟨by rw[kq3];omega,by rw[kq3];omega,zc h1 31,λe c=>?_,λe c=>h3 e (kxt c)⟩;have:=h2 e (kxt c);omega
 rw[iK h];refine⟨by simp,by rw[kq2];omega,List.Pairwise.cons (λe c=>?_) h1,λe c=>?_,λe c=>?_⟩
 .have:=h2 e c;dsimp only;omega
 .rcases kqx.1 c with rfl|c
  .dsimp only;omega
  have:=h2 e c;omega
 rcases kqx.1 c with rfl|c
 .dsimp only;omega
 exact h3 e c
theorem Dq{a:Int}(h:dt ws a=0):∀e∈cD ws a,a<=e.a/\e.a<(ws.length:Int)/\e.v<2048:=by
 obtain⟨f,-,-,-,-,-,k,p,l,g⟩:=iQ h;intro e j;obtain⟨r,n,r2,o,r4⟩:=l e j;have b:=dR (cD ws a) ws g e j (by omega) (by omega);rw[n,kqj] at b;by_cases c:∃i,i<(bM ws a).length/\f i=r
 .obtain ⟨i,d,e2⟩:=c;have:=(k i d).2.1;omega
 have:=p r (λi d m=>c ⟨i,d,m⟩);rw[b] at this;exact absurd this.symm o
theorem cP(h:aw ws=0):cA ws=0/\aj (ws.length:Int)=true/\iF ws=true/\zP (wd ws 16) (wd ws 17) (wd ws 18)=true:=by have a:=(ix (ky h)).1;exact⟨a,fU a⟩
theorem vu(h1:aj (xs.length:Int)=true)(h2:iF xs=true)(h3:zP (wd xs 16) (wd xs 17) (wd xs 18)=true):cA xs=0:=(mj h1 (by rw[h2,h3];rfl)).1
theorem gI(h:∀e∈E,19<=e.a)(hi:i<19):wd (am ws E) i=wd ws i:=aP _ _ _ λe b=>by have:=h e b;omega
theorem kU(h:Small n E)(h1:19<=i)(h2:i<112):wd (am ws E) i=wd ws i:=aP _ _ _ λe a=>by have:=(h.ins e a).1;omega
theorem kE(hs:Small ws.length E)(hl:iF ws=true)(h16:wd (am ws E) 16<=ws.length)(h17:wd (am ws E) 17<=ws.length)(h18:wd (am ws E) 18<=ws.length):iF (am ws E)=true:=by obtain⟨-,a,e,c,d,b⟩:=(bt ws).1 hl;rw[bt,ax];exact⟨⟨h16,h17,h18⟩,by rw[kU hs (by omega) (by omega)];exact a,by rw[kU hs (by omega) (by omega)];exact e,by rw[kU hs (by omega) (by omega)];exact c,by rw[kU hs (by omega) (by omega)];exact d,by rw[kU hs (by omega) (by omega)];exact b⟩
def onW (ws xs:List Nat):Prop:=wd ws 16<=wd xs 16/\(wd xs 16=wd ws 16->wd ws 17<=wd xs 17/\wd ws 18<=wd xs 18)
theorem jU(hj:j<ws.length)(hl:∀e∈l,e.a≠(j:Int)):wd (am ws (⟨(j:Int),v⟩::l)) j=v:=by rw[fD j v l hj,aP _ _ _ hl];unfold wd;rw[kz6 hj];rfl
theorem qq(hj:j<ws.length)(_hne:i≠j):wd (am ws (⟨(j:Int),v⟩::l)) i=wd (am (ws.set j v) l) i:=by rw[fD j v l hj]
theorem dp(h:i≠j):wd (ws.set j v) i=wd ws i:=by unfold wd;rw[kjc (by omega)]
theorem fp(hck:aw ws=0)(hp:wd ws 16=p)(hp2:p=1\/p=2)(h1:l.Pairwise (λa b=>a.a<b.a))(h2:∀e∈l,128<=e.a/\e.a<(ws.length:Int))(h3:∀e∈l,e.v<18446744073709551616):
 Small ws.length (iA l (p+1))/\cA (am ws (iA l (p+1)))=0/\onW ws (am ws (iA l (p+1)))/\wd (am ws (iA l (p+1))) 16=(if 32<=l.length then p else p+1)/\wd (am ws (iA l (p+1))) 17=0/\wd (am ws (iA l (p+1))) 18=0:=by
 obtain⟨-,o,r,m⟩:=cP hck;have hb:=(aa _).1 o;have d:=Bg (n:=ws.length) (p:=p+1) (by omega) (by omega) h1 h2 h3;have j:wd ws 17=0/\wd ws 18=0:=by rcases (cI _ _ _).1 m with h|h|h<;>omega
 have q:wd (am ws (iA l (p+1))) 16=(if 32<=l.length then p else p+1)/\wd (am ws (iA l (p+1))) 17=0/\wd (am ws (iA l (p+1))) 18=0:=by
  by_cases h:32<=l.length
  .rw[cr h,if_pos h];have c:∀e∈l.take 31,19<=e.a:=λe f=>by have:=h2 e (kxt f);omega
   rw[gI c (by omega),gI c (by omega),gI c (by omega)];exact⟨hp,j⟩
  rw[iK h,if_neg h,show (16:Int)=((16:Nat):Int) from rfl];have c:∀e∈l,19<=e.a:=λe f=>by have:=h2 e f;omega
  rw[jU (by omega) (λe f=>by have:=c e f;omega),qq (by omega) (by omega),qq (by omega) (by omega),gI c (by omega),gI c (by omega),dp (by omega),dp (by omega)];exact⟨rfl,j⟩
 obtain⟨i,k,g⟩:=q;have hle:(if 32<=l.length then p else p+1)<=3/\p<=(if 32<=l.length then p else p+1):=by split<;>omega
 refine⟨d,vu (by rw[ax];exact o) (kE d r (by rw[i];omega) (by rw[k];omega) (by rw[g];omega)) ?_,⟨by rw[i,hp];omega,λ_=>by rw[k,g,j.1,j.2];exact⟨kqd _,kqd _⟩⟩,i,k,g⟩;rw[i,k,g,cI];rcases hp2 with rfl|rfl
 .right;right;split<;>omega
 by_cases h:32<=l.length
 .rw[if_pos h];right;right;omega
 rw[if_neg h];right;left;exact⟨rfl,rfl,.inl rfl⟩
theorem jd{f:Nat}(hck:aw ws=0)(hp:wd ws 16=3)(hf:lx f=true)(hfn:f<=ws.length)(hfw:wd ws 17<=f)(h0:l.length<=31)(h1:l.Pairwise (λa b=>a.a<b.a))(h2:∀e∈l,112<=e.a/\e.a<(ws.length:Int))(h3:∀e∈l,e.v<18446744073709551616):
 Small ws.length (⟨17,f⟩::l)/\cA (am ws (⟨17,f⟩::l))=0/\onW ws (am ws (⟨17,f⟩::l))/\wd (am ws (⟨17,f⟩::l)) 16=3/\wd (am ws (⟨17,f⟩::l)) 17=f/\wd (am ws (⟨17,f⟩::l)) 18=0:=by
 obtain⟨-,o,q,n⟩:=cP hck;have hb:=(aa _).1 o;have hi:=(aT f).1 hf;have c:∀e∈l,19<=e.a:=λe d=>by have:=h2 e d;omega
 have g:wd ws 18=0:=by rcases (cI _ _ _).1 n with h|h|h<;>omega
 have i:Small ws.length (⟨17,f⟩::l):=by
  refine⟨by simp,by rw[kq2];omega,List.Pairwise.cons (λe d=>?_) h1,λe d=>?_,λe d=>?_⟩
  .have:=c e d;dsimp only;omega
  .rcases kqx.1 d with rfl|d
   .dsimp only;omega
   have:=h2 e d;omega
  rcases kqx.1 d with rfl|d
  .dsimp only;omega
  exact h3 e d
 have p:wd (am ws (⟨17,f⟩::l)) 16=3/\wd (am ws (⟨17,f⟩::l)) 17=f/\wd (am ws (⟨17,f⟩::l)) 18=0:=by rw[show (17:Int)=((17:Nat):Int) from rfl];rw[qq (by omega) (by omega),jU (by omega) (λe d=>by have:=c e d;omega),qq (by omega) (by omega),gI c (by omega),gI c (by omega),dp (by omega),dp (by omega)];exact⟨hp,rfl,g⟩
 obtain⟨k,m,j⟩:=p;refine⟨i,vu (by rw[ax];exact o) (kE i q (by rw[k];omega) (by rw[m];omega) (by rw[j];omega)) ?_,⟨by rw[k,hp];exact kqd _,λ_=>by rw[m,j,g];exact⟨hfw,kqd _⟩⟩,k,m,j⟩;rw[k,m,j,cI];right;left;exact⟨rfl,rfl,.inr hf⟩
theorem gq(hck:aw ws=0)(hp:wd ws 16=3):Small ws.length bZ/\cA (am ws bZ)=0/\onW ws (am ws bZ)/\wd (am ws bZ) 16=4/\wd (am ws bZ) 17=128/\wd (am ws bZ) 18=128:=by
 obtain⟨-,g,j,hph⟩:=cP hck;have hb:=(aa _).1 g;have c:Small ws.length bZ:=by
  refine⟨by decide,by decide,by unfold bZ;simp,λe a=>?_,λe a=>?_⟩
  .unfold bZ at a;simp only[kqx,kzf,or_false] at a;rcases a with rfl|rfl|rfl<;>(dsimp only;omega)
  unfold bZ at a;simp only[kqx,kzf,or_false] at a;rcases a with rfl|rfl|rfl<;>(dsimp only;omega)
 have i:wd (am ws bZ) 16=4/\wd (am ws bZ) 17=128/\wd (am ws bZ) 18=128:=by
  unfold bZ;rw[show (16:Int)=((16:Nat):Int) from rfl,show (17:Int)=((17:Nat):Int) from rfl,show (18:Int)=((18:Nat):Int) from rfl];rw[fD 16 _ _ (by omega),fD 17 _ _ (by rw[kq4];omega),fD 18 _ _ (by rw[kq4,kq4];omega)];simp only[am];refine⟨?_,?_,?_⟩
  .rw[dp (by omega),dp (by omega)];unfold wd;rw[kz6 (by omega)];rfl
  .rw[dp (by omega)];unfold wd;rw[kz6 (by rw[kq4];omega)];rfl
  unfold wd;rw[kz6 (by rw[kq4,kq4];omega)];rfl
 obtain⟨b,f,d⟩:=i;refine⟨c,vu (by rw[ax];exact g) (kE c j (by rw[b];omega) (by rw[f];omega) (by rw[d];omega)) (by rw[b,f,d];decide),⟨by rw[b,hp];omega,λh=>by rw[b,hp] at h;exact absurd h (by decide)⟩,b,f,d⟩
theorem nq{f t:Nat}(hck:aw ws=0)(hp:wd ws 16=4)(hf:lx f=true)(ht:lx t=true)(htf:t<=f)(hfn:f<=ws.length)(hfw:wd ws 17<=f)(htw:wd ws 18<=t)(h0:l.length<=30)(h1:l.Pairwise (λa b=>a.a<b.a))(h2:∀e∈l,112<=e.a/\e.a<(ws.length:Int))(h3:∀e∈l,e.v<18446744073709551616):
 Small ws.length (⟨17,f⟩::⟨18,t⟩::l)/\cA (am ws (⟨17,f⟩::⟨18,t⟩::l))=0/\onW ws (am ws (⟨17,f⟩::⟨18,t⟩::l))/\wd (am ws (⟨17,f⟩::⟨18,t⟩::l)) 16=4/\wd (am ws (⟨17,f⟩::⟨18,t⟩::l)) 17=f/\wd (am ws (⟨17,f⟩::⟨18,t⟩::l)) 18=t:=by
 obtain⟨-,k,n,hph⟩:=cP hck;have hb:=(aa _).1 k;have hi:=(aT f).1 hf;have hj:=(aT t).1 ht;have d:∀e∈l,19<=e.a:=λe c=>by have:=h2 e c;omega
 have g:Small ws.length (⟨17,f⟩::⟨18,t⟩::l):=by
  refine⟨by simp,by rw[kq2,kq2];omega,List.Pairwise.cons (λe c=>?_) (List.Pairwise.cons (λe c=>?_) h1),λe c=>?_,λe c=>?_⟩
  .rcases kqx.1 c with rfl|c
   .dsimp only;omega
   have:=d e c;dsimp only;omega
  .have:=d e c;dsimp only;omega
  .rcases kqx.1 c with rfl|c
   .dsimp only;omega
   rcases kqx.1 c with rfl|c
   .dsimp only;omega
   have:=h2 e c;omega
  rcases kqx.1 c with rfl|c
  .dsimp only;omega
  rcases kqx.1 c with rfl|c
  .dsimp only;omega
  exact h3 e c
 have m:wd (am ws (⟨17,f⟩::⟨18,t⟩::l)) 16=4/\wd (am ws (⟨17,f⟩::⟨18,t⟩::l)) 17=f/\wd (am ws (⟨17,f⟩::⟨18,t⟩::l)) 18=t:=by
  rw[show (17:Int)=((17:Nat):Int) from rfl,show (18:Int)=((18:Nat):Int) from rfl];rw[fD 17 _ _ (by omega),fD 18 _ _ (by rw[kq4];omega),gI d (by omega),gI d (by omega),gI d (by omega)];refine⟨?_,?_,?_⟩
  .rw[dp (by omega),dp (by omega)];exact hp
  .rw[dp (by omega)];unfold wd;rw[kz6 (by omega)];rfl
  unfold wd;rw[kz6 (by rw[kq4];omega)];rfl
 obtain⟨i,j,h⟩:=m;refine⟨g,vu (by rw[ax];exact k) (kE g n (by rw[i];omega) (by rw[j];omega) (by rw[h];omega)) ?_,⟨by rw[i,hp];exact kqd _,λ_=>by rw[j,h];exact⟨hfw,htw⟩⟩,i,j,h⟩;rw[i,j,h,cI];left;exact⟨rfl,hf,ht,htf⟩
theorem mH{α:Type}{p q:α->Bool}:∀ {l:List α},(∀b∈l,q b=true->p b=true)->(l.filter q).length<=(l.filter p).length/\((∃b∈l,p b=true/\q b=false)->(l.filter q).length<(l.filter p).length):=by
 intro l
 induction l with
 | nil=>intro _;exact⟨kqd _,λ⟨b,d,_⟩=>by simp at d⟩
 | cons b l ih =>
  intro h;obtain⟨i1,i⟩:=ih (λc a=>h c (by simp[a]));have d:=h b (by simp);rw[kjn,kjn];refine⟨?_,λ⟨c,a,g,f⟩=>?_⟩
  .cases e:q b with
   | true=>rw[d e];simp;omega
   | false=>cases j:p b<;>simp<;>omega
  rcases kqx.1 a with rfl|a
  .rw[g,f];simp;omega
  have:=i ⟨c,a,g,f⟩;cases e:q b with
  | true=>rw[d e];simp;omega
  | false=>cases j:p b<;>simp<;>omega
theorem iJ(h:aA ws=0)(hs:E.Sublist (aO ws)):Rm ws (am ws E):=by
 have k:E.Pairwise (λa b=>a.a<b.a):=(dQ h).sublist hs;refine⟨ax _ _,λi=>?_⟩;by_cases g:∃e∈E,e.a=(i:Int)
 .obtain ⟨e,c,f⟩:=g;obtain⟨a,-,o,m,a3,j,n,rfl,-⟩:=dN h (hs.subset c);have d:a=i:=by dsimp only at f;omega
  subst d;refine .inr ⟨o,m,j,n,eO ws (bkAt ws a),?_⟩;have:=dR E ws k _ c (by dsimp only;omega) (by dsimp only;omega);dsimp only at this;rw[kqj] at this;exact this
 exact .inl (aP _ _ _ (λe c l=>g ⟨e,c,l⟩))
theorem tT(h:aA ws=0)(h32:32<=(aO ws).length):aA (am ws ((aO ws).take 31))=0/\(aO (am ws ((aO ws).take 31))).length<(aO ws).length:=by
 have c:((aO ws).take 31).Sublist (aO ws):=kjr _ _;have s:((aO ws).take 31).Pairwise (λa b=>a.a<b.a):=(dQ h).sublist c;obtain⟨B,g2,G,g4,K⟩:=(iJ h c).same h;refine⟨B,?_⟩;rw[eg B,G,K,kz3,eg h,kz3];rw[<-eg h];obtain⟨x,z⟩:=xq (am ws ((aO ws).take 31));rw[z];unfold lm;rw[List.filter_map,kz3];have g:=cg (aF h).1;have u:∀b∈ag ws,(∀e∈(aO ws).take 31,e.a≠b.at_)->(mkB x b).mark=b.mark:=by intro b t v;obtain⟨a,rfl,a1,a2,a3,a4⟩:=g.1 b t;show rO x (bkAt ws a).at_.toNat=_;rw[ae,kqj];unfold rO;rw[<-z,aP _ _ _ (λe l=>by have:=v e l;rwa [ae] at this)];rfl
 refine (mH (λb t m=>?_)).2 ?_
 .dsimp only[Function.comp_apply] at m |-;cases w:eG (seenL ws) b with
  | false=>rfl
  | true =>
   exfalso;have n:=u b t (λe l F=>by
    obtain⟨a,n,I,J,H,o,r,rfl,f⟩:=dN h (c.subset l);dsimp only at F;have:bkAt ws a=b:=by
     have A:=g.2;rw[kzj] at A;obtain⟨i,D,k⟩:=kqz n;obtain⟨j,E,C⟩:=kqz t;have h3:(ag ws)[i].at_=(ag ws)[j].at_:=by rw[k,C,ae];exact F
     rcases kj6 i j with p|p|p
     .have:=A i j D E p;omega
     .subst p;rw[<-k,<-C]
     have:=A j i E D p;omega
    rw[this,w] at f;cases f)
   unfold eG at w m;rw[n] at m
   change (!(b.mark==((seenL ws)[b.at_.toNat]?.getD false)))=true at m
   rw[w] at m;exact absurd m (by decide)
 have q:0<((aO ws).take 31).length:=by rw[kq3];omega
 have l:=kqp q;obtain⟨a,n,I,J,H,o,r,k,f⟩:=dN h (c.subset l);refine⟨bkAt ws a,n,by rw[f];rfl,?_⟩;dsimp only[Function.comp_apply];have d:=dR _ ws s _ l (by rw[k];dsimp only;omega) (by rw[k];dsimp only;omega);rw[k] at d;dsimp only at d;rw[kqj,z] at d;unfold eG;show (!((mkB x (bkAt ws a)).mark==((seenL ws)[(bkAt ws a).at_.toNat]?.getD false)))=false;have y:(mkB x (bkAt ws a)).mark=eO ws (bkAt ws a):=by show rO x (bkAt ws a).at_.toNat=_;rw[ae,kqj];unfold rO;rw[d,(iS o r _).2.1]
 rw[y];unfold eO;simp
structure Ev (ws xs:List Nat):Prop where
 len:xs.length=ws.length
 at_:∀i,(i%2=0/\96<=i\/96<=i/\i<128)->wd xs i=wd ws i
def nxB (xs:List Nat) (b:Bk):Bk:={ b with next:=wd xs (b.at_.toNat+1) }
section
variable {ws xs:List Nat}
theorem Ev.stands(h:Ev ws xs)(hi:i%2=0)(h96:96<=i):stands xs i=stands ws i:=by unfold Proofs.YtpcajamacpbjcaaGreat.stands;rw[h.at_ i (.inl ⟨hi,h96⟩),h.len]
theorem Ev.bkAt(h:Ev ws xs)(hi:i%2=0)(h96:96<=i):bkAt xs i=nxB xs (bkAt ws i):=by
 unfold nxB;have a:(Proofs.YtpcajamacpbjcaaGreat.bkAt ws i).at_.toNat=i:=by rw[ae,kqj]
 rw[a];unfold Proofs.YtpcajamacpbjcaaGreat.bkAt;rw[h.at_ i (.inl ⟨hi,h96⟩)]
theorem Ev.blocks(h:Ev ws xs):∀i l,blocks ws i=some l->i%2=0->96<=i->blocks xs i=some (l.map (nxB xs)):=by
 refine dU (λi l=>i%2=0->96<=i->Proofs.YtpcajamacpbjcaaGreat.blocks xs i=some (l.map (nxB xs))) (λi a _ _=>?_) (λi l a e hb d b c=>?_)
 .exact aD (by rw[h.len];exact a)
 have hsz:=aH e;have d:=d (by omega) (by omega);have f:szAt xs i=szAt ws i:=by unfold szAt;rw[h.at_ i (.inl ⟨b,c⟩)]
 rw[aL (by rw[h.len];exact a) (by rw[h.stands b c];exact e),f,d,h.bkAt b c];rfl
theorem Hg(h:Ev ws xs)(hb:b.kind=1->tyA b+1<128):dC xs (nxB xs b)=dC ws b:=by
 by_cases a:b.kind=1
 .have d:=hb a;have c:96<=tyA b:=by unfold tyA;omega
  unfold dC cZ;show (b.kind != 1||(ch (wd xs (tyA b)) (wd xs (tyA b+1))&&b.size==((aY (wd xs (tyA b)%256):Nat):Int)))=_;rw[h.at_ _ (.inr ⟨c,by omega⟩),h.at_ _ (.inr ⟨by omega,d⟩)]
 rw[ey a,ey (b:=nxB xs b) a]
theorem Ev.heap(h:Ev ws xs)(h0:ah ws=0):ah xs=0/\ag xs=(ag ws).map (nxB xs):=by obtain⟨f,l,c,d,g⟩:=ay h0;have e:=h.blocks 128 l c (by omega) (by omega);rw[g];refine fS (by rw[h.len];exact f) e ?_;rw[List.all_map,kzu];rw[kzu] at d;intro b a;show dC xs (nxB xs b)=true;rw[Hg h (je c (by omega) b a)];exact d b a
end
theorem fV:∀ {l:List Bk} {s:Int} {e:En},e∈aQ l s->∃b∈l,b.kind=1/\e.a=b.at_+1:=by
 intro l
 induction l with
 | nil=>intro s e h;simp[aQ] at h
 | cons x l ih =>
  intro s e h;simp only[aQ,kz1] at h;rcases h with h|h
  .split at h
   .rename_i hx;rw[kq0] at h;subst h;exact⟨x,by simp,hx.1,rfl⟩
   simp at h
  obtain⟨b,d,c⟩:=ih h;exact⟨b,by simp[d],c⟩
theorem DV :∀ {l:List Bk} {s:Int},l.Pairwise (λa b=>a.at_<b.at_)->(∀b∈l,0<=b.at_)->(∀b∈l,b.kind=1->wd xs (b.at_.toNat+1)=b.next\/∃e∈aQ l s,e.a=b.at_+1/\wd xs (b.at_.toNat+1)=e.v) ->
 (aQ (l.map (nxB xs)) s).length<=(aQ l s).length/\((∃e∈aQ l s,wd xs e.a.toNat=e.v)->(aQ (l.map (nxB xs)) s).length<(aQ l s).length):=by
 intro l
 induction l with
 | nil=>intro s _ _ _;exact⟨kqd _,λ⟨e,d,_⟩=>by simp[aQ] at d⟩
 | cons b l ih =>
  intro s q u w;rw[kke] at q;have j:∀c∈l,c.kind=1->wd xs (c.at_.toNat+1)=c.next\/∃e∈aQ l (eU b s),e.a=c.at_+1/\wd xs (c.at_.toNat+1)=e.v:=by
   intro c g m;rcases w c (by simp[g]) m with i|⟨e,d,t,r⟩
   .exact .inl i
   simp only[aQ,kz1] at d;rcases d with d|d
   .split at d
    .rw[kq0] at d;subst d;dsimp only at t;have:=q.1 c g;omega
    simp at d
   exact .inr ⟨e,d,t,r⟩
  obtain⟨i1,x⟩:=ih (s:=eU b s) q.2 (λc g=>u c (by simp[g])) j;have hb0:=u b (by simp);rw[kxz];simp only[aQ];have y:eU (nxB xs b) s=eU b s:=rfl;have z:bv (nxB xs b) s=bv b s:=rfl;rw[y,z,kqu,kqu];have p:(nxB xs b).next=wd xs (b.at_.toNat+1):=rfl;have o:(nxB xs b).kind=b.kind:=rfl;have n:(nxB xs b).at_=b.at_:=rfl;have k:b.kind=1->wd xs (b.at_.toNat+1)=b.next\/wd xs (b.at_.toNat+1)=bv b s:=by
   intro m;rcases w b (by simp) m with i|⟨e,d,t,r⟩
   .exact .inl i
   simp only[aQ,kz1] at d;rcases d with d|d
   .split at d
    .rw[kq0] at d;subst d;exact .inr r
    simp at d
   obtain⟨c,g,-,h4⟩:=fV d;have:=q.1 c g;omega
  have hle:(if (nxB xs b).kind=1/\(nxB xs b).next≠bv b s then [(⟨(nxB xs b).at_+1,bv b s⟩:En)] else []).length<=(if b.kind=1/\b.next≠bv b s then [(⟨b.at_+1,bv b s⟩:En)] else []).length:=by
   rw[p,o,n];by_cases m:b.kind=1
   .rcases k m with i|i
    .rw[i];exact kqd _
    rw[if_neg (λh=>h.2 i)];exact kqy _
   rw[if_neg (λh=>m h.1)];exact kqy _
  refine⟨by omega,λ⟨e,d,f⟩=>?_⟩;rcases kz1.1 d with d|d
  .split at d
   .rename_i g;rw[kq0] at d;subst d;dsimp only at f;have A:(b.at_+1).toNat=b.at_.toNat+1:=by omega
    rw[A] at f;rw[p,o,n,if_neg (λh=>h.2 f),if_pos g];simp only[kxk,kq2];omega
   simp at d
  have:=x ⟨e,d,f⟩;omega
noncomputable def stM (ws:List Nat):Nat:=if wd ws 16=1 then (aO ws).length+1 else if wd ws 16=2 then (aG ws).length+1 else ws.length+1-wd ws 17
theorem oz :∀k a,ws.length-a<=k->a<=ws.length->(kK ws a).1=0->kK ws a=(0,bZ)\/∃m:Nat,128<=m/\a<=m/\m%2=0/\2<=szAt ws m/\szAt ws m%2=0/\m+szAt ws m<=ws.length/\dt ws (m:Int)=0/\kK ws a=(0,⟨17,m+szAt ws m⟩::cD ws (m:Int)):=by
 intro k
 induction k with
 | zero =>
  intro a z r h;by_cases b:bg ws (a:Int)=0
  .obtain ⟨s,p,y,m,e,g,l,f,j,i,-⟩:=fq b;omega
  exact .inl (jT b)
 | succ k ih =>
  intro a z r h;by_cases b:bg ws (a:Int)=0
  .obtain ⟨s,p,y,m,e,g,l,f,j,i,-⟩:=fq b;by_cases d:bM ws (m:Int)=[]
   .have u:=kN b e d;rw[u] at h |-;rcases ih (m+szAt ws m) (by omega) (by omega) h with o|⟨q,w,q2,v,A,t,x,n,B⟩
    .exact .inl o
    exact .inr ⟨q,w,by omega,v,A,t,x,n,B⟩
   by_cases c:dt ws (m:Int)=0
   .exact .inr ⟨m,by omega,g,l,f,j,i,c,pU b e d c⟩
   rw[uO b e d c] at h;exact absurd h c
  exact .inl (jT b)
theorem qC(h:ah x=0):aG x=aQ (ag x) 128:=by unfold aG;rw[if_pos h]
theorem ot(h:ah ws=0):(aG ws).Pairwise (λa b=>a.a<b.a)/\(∀e∈aG ws,128<=e.a/\e.a<(ws.length:Int))/\(∀e∈aG ws,e.v<18446744073709551616):=by
 have c:aG ws=aQ (ag ws) 128:=by unfold aG;rw[if_pos h]
 obtain⟨_,l,d,-,g⟩:=ay h;refine⟨?_,λe f=>?_,(uH h).2⟩
 .rw[c,g];exact zF _ _ d 128
 rw[c,g] at f;have:=pZ _ _ d 128 e f;omega
theorem F7(h:ah ws=0)(h32:32<=(aG ws).length):ah (am ws ((aG ws).take 31))=0/\(aG (am ws ((aG ws).take 31))).length<(aG ws).length:=by
 obtain⟨A,y,i3⟩:=ot h;have r:aG ws=aQ (ag ws) 128:=by unfold aG;rw[if_pos h]
 have d:=cg h;have c:((aG ws).take 31).Sublist (aG ws):=kjr _ _;have g:((aG ws).take 31).Pairwise (λa b=>a.a<b.a):=A.sublist c;have m:∀e∈aG ws,∃a:Nat,e.a=((a+1:Nat):Int)/\a%2=0/\128<=a:=by intro e f;rw[r] at f;obtain⟨b,n,-,z⟩:=fV f;obtain⟨a,rfl,o,t,-⟩:=d.1 b n;exact⟨a,by rw[z,ae];rfl,t,o⟩
 have u:Ev ws (am ws ((aG ws).take 31)):=by refine⟨ax _ _,λi hi=>aP _ _ _ λe f x=>?_⟩;obtain⟨a,p,o,t⟩:=m e (c.subset f);omega
 obtain⟨v,C⟩:=u.heap h;refine⟨v,?_⟩;have q:aG (am ws ((aG ws).take 31))=aQ ((ag ws).map (nxB (am ws ((aG ws).take 31)))) 128:=by rw[qC v,C]
 rw[q];have j:=DV (xs:=am ws ((aG ws).take 31)) (l:=ag ws) (s:=128) d.2 (λb n=>by obtain⟨a,rfl,-⟩:=d.1 b n;rw[ae];omega) (λb n hk=>by
  obtain⟨a,rfl,o,t,a3,B⟩:=d.1 b n;have hsz:=aH B;rw[ae,kqj];by_cases w:∃e∈(aG ws).take 31,e.a=((a+1:Nat):Int)
  .obtain ⟨e,f,p⟩:=w;refine .inr ⟨e,by rw[<-r];exact c.subset f,by rw[p];omega,?_⟩;have:=dR _ ws g e f (by omega) (by omega);rw[p,kqj] at this;exact this
  exact .inl (by rw[aP _ _ _ (λe f x=>w ⟨e,f,x⟩)];rfl))
 rw[<-r] at j;refine j.2 ?_;have k:0<((aG ws).take 31).length:=by rw[kq3];omega
 have f:=kqp k;have hin:=y _ (c.subset f);exact⟨_,c.subset f,dR _ ws g _ f (by omega) (by omega)⟩
theorem l7(ho:∀x∈ws,x<18446744073709551616)(h:(af ws).1=0):aw ws=0/\Small ws.length (af ws).2/\cA (am ws (af ws).2)=0/\onW ws (am ws (af ws).2)/\(wd (am ws (af ws).2) 16=wd ws 16->stM (am ws (af ws).2)<stM ws)/\(1<=wd ws 16/\wd ws 16<=4)/\wd (am ws (af ws).2) 16<=wd ws 16+1/\(wd ws 16=4->wd (am ws (af ws).2) 16=4):=by
 have c:aw ws=0:=by
  by_cases d:aw ws=0
  .exact d
  unfold af at h;rw[if_neg d] at h;exact absurd h d
 obtain⟨-,hs,hl,R⟩:=cP c;have hb:=(aa _).1 hs;obtain⟨⟨l1,l2,l3⟩,-⟩:=(bt ws).1 hl;by_cases p:wd ws 16=1
 .have w:aA ws=0:=by
   by_cases d:aA ws=0
   .exact d
   unfold af at h;rw[if_pos c,if_pos p,if_neg d] at h;exact absurd h d
  have e:af ws=(0,iA (aO ws) 2):=by unfold af;rw[if_pos c,if_pos p,if_pos w]
  rw[e];dsimp only;obtain⟨O,W⟩:=pg w;obtain⟨r,y,s,o,D,H⟩:=fp c p (.inl rfl) (dQ w) (λx hx=>by
   obtain⟨i,hi⟩:=kj0.1 hx;exact O i x hi) (pt w)
  simp only[Nat.reduceAdd] at r y s o D H;refine⟨c,r,y,s,λg=>?_,by omega,by rw[o];split<;>omega,λg=>by omega⟩;have q:32<=(aO ws).length:=by
   rw[o] at g;split at g
   .assumption
   omega
  have hd:=(tT w q).2;rw[p] at g;unfold stM;rw[if_pos g,if_pos p,cr q];omega
 by_cases A:wd ws 16=2
 .have F:ah ws=0:=by
   by_cases d:ah ws=0
   .exact d
   unfold af at h;rw[if_pos c,if_neg p,if_pos A,if_neg d] at h;exact absurd h d
  have e:af ws=(0,iA (aG ws) 3):=by unfold af;rw[if_pos c,if_neg p,if_pos A,if_pos F]
  rw[e];dsimp only;obtain⟨O,W,r3⟩:=ot F;obtain⟨r,y,s,o,D,H⟩:=fp c A (.inr rfl) O W r3;simp only[Nat.reduceAdd] at r y s o D H;refine⟨c,r,y,s,λg=>?_,by omega,by rw[o];split<;>omega,λg=>by omega⟩;have q:32<=(aG ws).length:=by
   rw[o] at g;split at g
   .assumption
   omega
  have hd:=(F7 F q).2;rw[A] at g;unfold stM;rw[if_neg (by omega),if_pos g,if_neg p,if_pos A,cr q];omega
 by_cases K:wd ws 16=3
 .have e:af ws=sgFix ws:=by unfold af;rw[if_pos c,if_neg p,if_neg A,if_pos K]
  rw[e] at h |-;have L:∀(f:Nat) (l:List En),sgFix ws=(0,⟨17,f⟩::l)->lx f=true->f<=ws.length->wd ws 17<f->l.length<=31->l.Pairwise (λa b=>a.a<b.a)->(∀e∈l,112<=e.a/\e.a<(ws.length:Int))->(∀e∈l,e.v<18446744073709551616) ->
   aw ws=0/\Small ws.length (sgFix ws).2/\cA (am ws (sgFix ws).2)=0/\onW ws (am ws (sgFix ws).2)/\(wd (am ws (sgFix ws).2) 16=wd ws 16->stM (am ws (sgFix ws).2)<stM ws)/\(1<=wd ws 16/\wd ws 16<=4)/\wd (am ws (sgFix ws).2) 16<=wd ws 16+1/\(wd ws 16=4->wd (am ws (sgFix ws).2) 16=4):=by
   intro f l B f1 f2 f3 f4 f5 f6 f7;rw[B];dsimp only;obtain⟨r,y,s,o,D,H⟩:=jd c K f1 f2 (by omega) f4 f5 f6 f7;refine⟨c,r,y,s,λg=>?_,by omega,by rw[o];omega,λg=>by omega⟩;unfold stM;rw[o,if_neg (by decide),if_neg (by decide),if_neg p,if_neg A,ax,D];omega
  by_cases z:wd ws 17=0
  .have M:ep ws=0:=by
    by_cases d:ep ws=0
    .exact d
    unfold sgFix at h;rw[if_pos z,if_neg d] at h;exact absurd h d
   have B:sgFix ws=(0,⟨17,128⟩::dV ws):=by unfold sgFix;rw[if_pos z,if_pos M]
   obtain⟨-,-,-,-,-,-,-,Y,q2,q3,-⟩:=jG M;exact L 128 (dV ws) B (by decide) (by omega) (by omega) (by omega) q2 (λe C=>by have:=(Y e C).1;omega) (λe C=>(Y e C).2)
  have B:sgFix ws=kK ws (wd ws 17):=by unfold sgFix;rw[if_neg z]
  have h':(kK ws (wd ws 17)).1=0:=by rw[<-B];exact h
  rcases oz ws.length (wd ws 17) (by omega) l2 h' with I|⟨m,m1,m2,m3,m4,m5,V,Q,Z⟩
  .rw[B,I];dsimp only;obtain⟨r,y,s,o,D,H⟩:=gq c K;exact⟨c,r,y,s,λg=>by rw[o] at g;omega,by omega,by rw[o];omega,λg=>by omega⟩
  obtain⟨f,-,-,-,-,q5,-,-,-,q9⟩:=iQ Q;have U:=Dq Q;exact L (m+szAt ws m) (cD ws (m:Int)) (by rw[B,Z]) ((aT _).2 (by omega)) V (by omega) (by omega) q9 (λe C=>by have:=U e C;omega) (λe C=>by have:=U e C;omega)
 by_cases S:wd ws 16=4
 .have e:af ws=sgSld ws:=by unfold af;rw[if_pos c,if_neg p,if_neg A,if_neg K,if_pos S]
  rw[e] at h |-;have G:bg ws ((wd ws 17:Nat):Int)=0:=by
   by_cases d:bg ws ((wd ws 17:Nat):Int)=0
   .exact d
   unfold sgSld at h;rw[if_neg d] at h;exact absurd h (by decide)
  obtain⟨-,a1,a2,m,em,m1,m2,m3,m4,m5,V,Q,Z,-⟩:=fq G;have E:dK ws (m:Int) ((wd ws 18:Nat):Int)=0:=by
   by_cases d:dK ws (m:Int) ((wd ws 18:Nat):Int)=0
   .exact d
   unfold sgSld at h;rw[if_pos G,em,ae,if_neg d] at h;exact absurd h d
  have B:sgSld ws=(0,⟨17,m+szAt ws m⟩::⟨18,wd ws 18+szAt ws m⟩::jN ws m (wd ws 18)):=by unfold sgSld;rw[if_pos G,em,ae,if_pos E,bq,show ((m:Int)+((szAt ws m:Nat):Int)).toNat=m+szAt ws m by omega,show (((wd ws 18:Nat):Int)+((szAt ws m:Nat):Int)).toNat=wd ws 18+szAt ws m by omega];unfold iW;rw[if_pos E,kqj,kqj]
  obtain⟨a,u,n,X,T,en,n2,n10,hu,hua,han,hst,hlv,-,-,N⟩:=gb E;have X:a=m:=by omega
  have T:u=wd ws 18:=by omega
  subst X T;subst en;have P:=(cI _ _ _).1 R;have J:lx (wd ws 17)=true/\lx (wd ws 18)=true/\wd ws 18<=wd ws 17:=by
   rcases P with I|I|I
   .exact I.2
   .omega
   omega
  have i1:=(aT _).1 J.1;have i2:=(aT _).1 J.2.1;rw[B];dsimp only;obtain⟨r,y,s,o,D,H⟩:=nq (f:=a+szAt ws a) (t:=wd ws 18+szAt ws a) (l:=jN ws a (wd ws 18)) c S ((aT _).2 (by omega)) ((aT _).2 (by omega)) (by omega) (by omega) (by omega) (by omega) (by rw[iD];omega) (by
   rw[kzj];intro i j hi hj hij;rw[ga,ga];omega) (λe C=>by
   obtain⟨k,hk,rfl⟩:=kqz C;rw[ga];rw[iD] at hk;omega) (tg ho N)
  refine⟨c,r,y,s,λg=>?_,by omega,by rw[o];omega,λg=>o⟩;unfold stM;rw[o,if_neg (by decide),if_neg (by decide),if_neg p,if_neg A,ax,D];omega
 have e:af ws=(6,[]):=by unfold af;rw[if_pos c,if_neg p,if_neg A,if_neg K,if_neg S]
 rw[e] at h;exact absurd h (by decide)
noncomputable def pd (p:Nat):Nat->List Nat->Int × List (List En) × List Nat
 | 0,x=>(0,[],x)
 | f+1,x=>if wd x 16=p then (if (af x).1=6 then (0,[],x) else if (af x).1=0 then
  (if (pd p f (am x (af x).2)).1=0 then (0,(af x).2::(pd p f (am x (af x).2)).2.1,(pd p f (am x (af x).2)).2.2) else ((pd p f (am x (af x).2)).1,[],[]))
  else ((af x).1,[],[])) else (0,[],x)
noncomputable def mzS (p:Nat) (x:List Nat):Nat:=if wd x 16=p then stM x+1 else 0
theorem du(ho:∀x∈ws,x<18446744073709551616)(h:(af ws).1=0):∀x∈am ws (af ws).2,x<18446744073709551616:=qc _ _ ho (l7 ho h).2.1.val
theorem fC(ho:∀v∈x,v<18446744073709551616)(hp:wd x 16=p)(h:(af x).1=0):mzS p (am x (af x).2)<mzS p x:=by
 unfold mzS;rw[if_pos hp];split
 .rename_i h1;have:=(l7 ho h).2.2.2.2.1 (by rw[h1,hp]);omega
 omega
theorem xY :∀ {f g:Nat} {x:List Nat},(∀v∈x,v<18446744073709551616)->mzS p x<=f->mzS p x<=g->pd p f x=pd p g x:=by
 have c:∀n,∀f g x,(∀v∈x,v<18446744073709551616)->mzS p x<=n->mzS p x<=f->mzS p x<=g->pd p f x=pd p g x:=by
  intro n
  induction n with
  | zero =>
   intro f g x b h i d;have a:¬ wd x 16=p:=λa=>by unfold mzS at h;rw[if_pos a] at h;omega
   cases f with
   | zero =>
    cases g with
    | zero=>rfl
    | succ g=>simp only[pd];rw[if_neg a]
   | succ f =>
    cases g with
    | zero=>simp only[pd];rw[if_neg a]
    | succ g=>simp only[pd];rw[if_neg a,if_neg a]
  | succ n ih =>
   intro f g x b h i d;by_cases a:wd x 16=p
   .have h1:0<mzS p x:=by unfold mzS;rw[if_pos a];omega
    obtain⟨f,rfl⟩:∃f',f=f'+1:=⟨f-1,by omega⟩;obtain⟨g,rfl⟩:∃g',g=g'+1:=⟨g-1,by omega⟩;simp only[pd];by_cases e:(af x).1=0
    .have hd:=fC b a e;rw[ih f g (am x (af x).2) (du b e) (by omega) (by omega) (by omega)]
    simp only[e,if_false]
   cases f with
   | zero =>
    cases g with
    | zero=>rfl
    | succ g=>simp only[pd];rw[if_neg a]
   | succ f =>
    cases g with
    | zero=>simp only[pd];rw[if_neg a]
    | succ g=>simp only[pd];rw[if_neg a,if_neg a]
 intro f g x b i d;exact c _ f g x b (kqd _) i d
noncomputable def dg (p:Nat) (x:List Nat):Int × List (List En) × List Nat:=pd p (mzS p x) x
theorem cG(h:wd x 16≠p):dg p x=(0,[],x):=by unfold dg mzS;rw[if_neg h];rfl
theorem kG(hp:wd x 16=p)(h:(af x).1=6):dg p x=(0,[],x):=by unfold dg mzS;rw[if_pos hp];simp only[pd];rw[if_pos hp,if_pos h]
theorem qu(hp:wd x 16=p)(h:(af x).1≠6)(h2:(af x).1≠0):dg p x=((af x).1,[],[]):=by unfold dg mzS;rw[if_pos hp];simp only[pd];rw[if_pos hp,if_neg h,if_neg h2]
theorem dM(ho:∀v∈x,v<18446744073709551616)(hp:wd x 16=p)(h:(af x).1=0):dg p x=(if (dg p (am x (af x).2)).1=0 then (0,(af x).2::(dg p (am x (af x).2)).2.1,(dg p (am x (af x).2)).2.2) else ((dg p (am x (af x).2)).1,[],[])):=by
 have hd:=fC ho hp h;have a:mzS p x=stM x+1:=by unfold mzS;rw[if_pos hp]
 have e:pd p (stM x) (am x (af x).2)=dg p (am x (af x).2):=xY (du ho h) (by omega) (kqd _)
 conv=>lhs;unfold dg
 rw[a];simp only[pd];rw[if_pos hp,if_neg (by rw[h];decide),if_pos h,e]
end Go.Proofs.YtpcajamacpbjcaaGreat
