/- Texts laid together: SldM SldU CurP StgP RmkP MkPP SlP WnB StgQ StgD StgS. -/
import Derived.Test.YtpcajamacpbjcaaGreatZKMove
import Derived.WalkSpells
import Derived.Test.YtpcajamacpbjcaaGreatZKCursor
import Derived.Test.YtpcajamacpbjcaaGreatZKWnt
import Derived.Test.YtpcajamacpbjcaaGreatZKFix
import Derived.Test.YtpcajamacpbjcaaGreatZKHeap
set_option maxHeartbeats 16000000
set_option maxRecDepth 100000
set_option linter.all false
namespace Go.Proofs.YtpcajamacpbjcaaGreat
open Lib (hid)
open Go.RowKit
variable {b:Bk}{f t:Int}{E l:List En}{ws x xs:List Nat}{a i j m n p u v:Nat}
open Go.Proofs.Tryz
def gq (ws:List Nat) (a u n i:Nat):List En:=(List.range n).map λj=>if j<i then ⟨((u+j:Nat):Int),wd ws (a+j)⟩ else ⟨0,0⟩
def jM (ws:List Nat) (a u:Nat):List En:=(List.range (szAt ws a)).map λj=>⟨((u+j:Nat):Int),if j=0 then da { ar (wd ws a) with mark:=false } else if j=1 then 0 else wd ws (a+j)⟩
def iW (ws:List Nat) (f t:Int):List En:=if dA ws f t=0 then jM ws f.toNat t.toNat else []
theorem qb{r:Int}(hr:dA ws f t=r)(h0:r≠0):iW ws f t=[]:=by subst hr;simp[iW,h0]
theorem fo(ws:List Nat)(a u n i:Nat):(gq ws a u n i).length=n:=by simp[gq]
theorem ij(ws:List Nat)(a u n i j:Nat)(hj:j<n):(gq ws a u n i)[j]? = some (if j<i then ⟨((u+j:Nat):Int),wd ws (a+j)⟩ else ⟨0,0⟩):=by simp[gq,hj]
theorem uR(ws:List Nat)(a u n i:Nat)(hi:i<n):gq ws a u n (i+1)=(gq ws a u n i).set i ⟨((u+i:Nat):Int),wd ws (a+i)⟩:=by
 apply kx7;intro j;rw[kxb];by_cases b:j<n
 .rw[ij _ _ _ _ _ _ b,ij _ _ _ _ _ _ b];by_cases e:i=j
  .subst e;rw[if_pos (show i<i+1 by omega),if_pos rfl,if_pos (show i<(gq ws a u n i).length by rw[fo];exact hi)]
  rw[if_neg e];by_cases h:j<i
  .rw[if_pos h,if_pos (by omega)]
  rw[if_neg h,if_neg (by omega)]
 rw[kzd (by rw[fo];omega),if_neg (by omega),kzd (by rw[fo];omega)]
theorem en_set(l:List En)(k:Nat)(x:En):(l.set k x).flatMap En.cells=((l.flatMap En.cells).set (k*2) (.int .i64 x.a)).set (k*2+1) (.int .u64 (x.v:Int)):=by
 have d:=eF En.cells 2 En.len l k 0 (by omega) ⟨x.a,(l[k]?.getD default).v⟩ (.int .i64 x.a) (λy b=>by rw[b];rfl);have c:=eF En.cells 2 En.len (l.set k ⟨x.a,(l[k]?.getD default).v⟩) k 1 (by omega) x (.int .u64 (x.v:Int)) (λy b=>by
  rw[kxb] at b;simp only[if_true] at b;split at b
  .cases b;rfl
  cases b)
 rw[List.set_set] at c;rw[c,d];rfl
theorem yU(l:List En)(k:Nat)(x:En)(v:Nat)(hk:l[k]? = some x):(l.set k ⟨x.a,v⟩).flatMap En.cells=(l.flatMap En.cells).set (k*2+1) (.int .u64 (v:Int)):=
 eF En.cells 2 En.len l k 1 (by omega) ⟨x.a,v⟩ (.int .u64 (v:Int)) (λy b=>by rw[hk] at b;cases b;rfl)
theorem GI(hn:szAt ws a=n)(h2:2<=n):jM ws a u=((gq ws a u n n).set 0 ⟨(u:Int),da { ar (wd ws a) with mark:=false }⟩).set 1 ⟨((u+1:Nat):Int),0⟩:=by
 apply kx7;intro j;rw[kxb,kxb];unfold jM;rw[hn];by_cases b:j<n
 .rw[ij _ _ _ _ _ _ b,if_pos b];simp only[kx8,kvc b,kzt,kq4,fo];by_cases d:j=0
  .subst d;simp[b]
  by_cases c:j=1
  .subst c;simp[b]
  rw[if_neg d,if_neg c,if_neg (λh=>c h.symm),if_neg (λh=>d h.symm)]
 rw[if_neg (by omega),if_neg (by omega),kzd (by simp;omega),kzd (by rw[fo];omega)]
theorem GH(n:Nat):(madeCells #[Value.int .i64 0,.int .u64 0] (n*2)).toList=(List.replicate n (⟨0,0⟩:En)).flatMap En.cells:=by
 apply kx7;intro j;by_cases d:j<n*2
 .have b:j/2<(List.replicate n (⟨0,0⟩:En)).length:=by rw[kxt];omega
  have a:=jA En.cells 2 En.len (List.replicate n ⟨0,0⟩) (j/2) (j%2) b (by omega);rw[show j/2*2+j%2=j by omega,List.getElem_replicate] at a;rw[a];have c:(madeCells #[Value.int .i64 0,.int .u64 0] (n*2)).toList[j]? = some (#[Value.int .i64 0,.int .u64 0][j%2]!):=by simp[madeCells,d]
  rw[c];rcases (show j%2=0\/j%2=1 by omega) with h|h<;>rw[h]<;>rfl
 rw[kzd (by rw[kkh,size_madeCells];omega),kzd (by rw[ci En.cells 2 En.len,kxt];omega)]
theorem vj(ws:List Nat)(a u n:Nat):gq ws a u n 0=List.replicate n ⟨0,0⟩:=by
 apply kx7;intro j;by_cases b:j<n
 .rw[ij _ _ _ _ _ _ b];simp[b]
 rw[kzd (by rw[fo];omega),kzd (by simp;omega)]
theorem rE(h:aW ws f t=0){l:List Bk}(hl:blocks ws f.toNat=some l)(a:l=[]\/(gk l 0).mark=false):dA ws f t=6:=by
 unfold dA;rw[if_pos h,hl];cases l with
 | nil=>rfl
 | cons b l =>
  rcases a with a|a
  .cases a
  rw[ns] at a;simp[a]
theorem wo(h:aW ws f t=0){l:List Bk}(hl:blocks ws f.toNat=some l)(h0:0<l.length)(h2:(gk l 0).mark=true):dA ws f t=0:=by
 unfold dA;rw[if_pos h,hl];cases l with
 | nil=>simp at h0
 | cons b l=>rw[ns] at h2;simp[h2]
theorem Dn(A:Option Addr)(ws:List Nat)(c n:Nat)(f t:Int)(w:World)(hn:ws.length=n)(hm:n<=9223372036854775807)(hf : -9223372036854775808<=f/\f<=9223372036854775807)(ht : -9223372036854775808<=t/\t<=9223372036854775807)(hr:RdW w w.heap.size A ws)(ho:∀x∈ws,x<18446744073709551616):
 Calls prog 146 #[.slice A n c,.int .i64 f,.int .i64 t] w λe w'=>gp w.heap.size (dA ws f t) (iW ws f t) e w'/\Below w.heap.size w w':=by
 subst hn;have HR:=hid hr;have HO:=hid ho;have Y:=hid (pE A ws c ws.length f t w rfl hm hf ht hr ho);unfold vT at Y;have s:=hid (λW (h:RdW W W.heap.size A ws)=>lR A ws c ws.length f W rfl hm h ho);unfold pp at s;clear hr ho;by_cases z:aW ws f t=0
 .obtain ⟨g1,g2,l,M,g4,g5⟩:=bQ z;rw[fg] at g1;obtain⟨f1,f2⟩:=cy g1 (pk g2) M;rw[z] at Y;rw[f1,f2] at s;obtain⟨q,hq⟩:=xq ((ia ws f t).length);rw[hq] at Y;by_cases v:l.length=0
  .have O:=hid (rE z M (.inl (kjf v)));rw[v] at s;clear g1 g2 M g4 g5 f1 f2 z hq v;go_enter func146,ntmps146;go_wp2_with fail;refine Y.out.mono ?_;rintro e w1 ⟨⟨A1,c1,rfl,-,-⟩,g⟩;go_wp2_with fail;refine (s.out _ (HR.out.up g g.size)).mono ?_;rintro e w2 ⟨⟨A2,c2,rfl,-,-⟩,o⟩;go_wp2;go_ret2;exact⟨bE O.out (qb O.out (by omega)),g.trans (o.mono g.size)⟩
  have m:0<l.length:=by omega
  have hne:((l.length:Int)==0)=false:=by rw[kqj];omega
  have hnen:(l.length==0)=false:=by rw[kqj];exact v
  have hl1i:(0:Int)<(l.length:Int):=by omega
  cases j:(gk l 0).mark
  .have O:=hid (rE z M (.inr j));rw[bM l 0 m] at j;clear g1 g2 M g4 g5 f1 f2 z hq v;go_enter func146,ntmps146;go_wp2_with fail;refine Y.out.mono ?_;rintro e w1 ⟨⟨A1,c1,rfl,-,-⟩,g⟩;go_wp2_with fail;refine (s.out _ (HR.out.up g g.size)).mono ?_;rintro e w2 ⟨⟨A2,c2,rfl,C,-⟩,o⟩;obtain⟨b,off,rfl,hb,q0,q1,q2,q3,q4,q5⟩:=RdB.at_ C m;rw[j] at q4;simp only[kvi,kz8] at q4;clear q0 q1 q2 q3 q5 C j;go_wp2;go_ret2;exact⟨bE O.out (qb O.out (by omega)),g.trans (o.mono g.size)⟩
  have L:=wo z M m j;obtain⟨a,u,n,rfl,rfl,Jb,n2,n10,hu,hua,han,I,Ka,-,-,Jr⟩:=gj L;rw[kqi] at M;have V:=(cj M (by omega)).2.1;have Jm:l[0]=bkAt ws a:=by rw[<-bM l 0 m,V]
  have Js:l[0].size=((n:Nat):Int):=by rw[Jm,bC,Jb]
  rw[bM l 0 m] at j;have Jd:aM (wd ws a)=true:=by unfold stands at I;simp only[kqo] at I;exact I.1
  have Z:gb (wd ws a) false=da { ar (wd ws a) with mark:=false }/\nK (wd ws a) false=0:=by unfold gb nK;rw[if_pos Jd,if_pos Jd];have h1:jO (il (wd ws a) false)=true:=Jr;exact⟨by unfold jn;rw[if_pos h1];rfl,jJ h1⟩
  have K:=hid (λW=>oo (wd ws a) false W (gu HO.out a));rw[Z.1,Z.2] at K;have Je:=hid (GI (u:=u) Jb.symm n2);have G:Hid (dA ws (a:Int) (u:Int)=0/\iW ws (a:Int) (u:Int)=jM ws a u):=hid ⟨L,by simp[iW,L]⟩;obtain⟨N,Jk⟩:∃N,da { ar (wd ws a) with mark:=false }=N:=⟨_,rfl⟩;rw[Jk] at K Je;obtain⟨b0,Ji,Eq,Ju,p0⟩:=RdW.at_ HR.out (show a<ws.length by omega);subst Eq;rw[<-d7] at p0;have Jq:=gJ ws g1;have hlen:ws.length<=2048:=Jq.2.1;have ha0:(0:Int)<=(a:Int):=by omega
  have ha1:(a:Int)<(ws.length:Int):=by omega
  have hn0:(0:Int)<=(n:Int):=by omega
  obtain⟨x,hx⟩:=xq (wd ws a);rw[hx] at p0 K;clear g1 g2 M g4 g5 f1 f2 z L hq v V Jm Jd Z Jr Jk I Ka hx Jq hf ht Jb;obtain⟨i0,hi,Jg,Jh,Jf⟩:=kzw dg;have S:=hid (And.intro hi (And.intro Jg (And.intro Jh Jf)));clear hi Jg Jh Jf;go_enter func146,ntmps146;go_wp2_with fail;refine Y.out.mono ?_;rintro e w1 ⟨⟨A1,c1,rfl,-,-⟩,g⟩;go_wp2_with fail;refine (s.out _ (HR.out.up g g.size)).mono ?_;rintro e w2 ⟨⟨A2,c2,rfl,C,-⟩,o⟩;have R:=g.trans (o.mono g.size);obtain⟨b,off,rfl,hb,q0,q1,q2,q3,q4,q5⟩:=RdB.at_ C m;rw[j] at q4;rw[Js] at q1;simp only[kvi,kz8] at q4 q1;have p2:=(R.cell (p:=⟨b0,Ji+a,none⟩) Ju).trans p0;clear q0 q2 q3 q5 C j Js;go_wp2_with fail;refine (K.out _).mono ?_;rintro e T ⟨rfl,Ja⟩;have Jc:=R.trans (Ja.mono R.size);have q1':=(Ja.cell (p:=⟨b,off+1,none⟩) hb).trans q1;obtain⟨W0,j,F,Jp⟩:=run_make_full (P:=prog) T w.heap.size 26 89 i0 (.agg #[.int .i64 0,.int .u64 0]) 2 underlying26 S.out.1 S.out.2.1 S.out.2.2.1 .i64 .i64 n (by rw[S.out.2.2.2];omega) (by unfold maxLen;omega) Jc.size;have E:W0.ownsRow w.heap.size 89 2 (.slice (some ⟨T.heap.size,0,none⟩) n n) n ((gq ws a u n 0).flatMap En.cells):=by rw[vj,<-GH];exact F
  have Jy:=hid E;have Jt:=hid (Jc.grown Jp Jc.size (λk hk=>by cases hk));clear F Jp E Ja R o g q4 q1 p2;go_wp2_with fail;clear j q1';have Jw:Hid (∀i,i<n->gq ws a u n (i+1)=(gq ws a u n i).set i ⟨((u+i:Nat):Int),wd ws (a+i)⟩):=hid λi hi=>uR ws a u n i hi;have Q:Hid (∀i,((gq ws a u n i).flatMap En.cells).length=n*2):=hid λi=>by rw[ci En.cells 2 En.len,fo]
  go_loopw [57] (λi wr=>∃k:Nat,k<=n/\i=.int .i64 k/\wr.ownsRow w.heap.size 89 2 (.slice (some ⟨T.heap.size,0,none⟩) n n) n ((gq ws a u n k).flatMap En.cells)/\Below w.heap.size w wr) (λi _=>n-(intOf i).toNat)
  case atStart=>exact⟨0,kqy _,rfl,Jy.out,Jt.out⟩
  obtain⟨k,hk,rfl,d,hB⟩:=hrel;have J:=fR d;by_cases Jv:k<n
  .obtain ⟨b0',off0',Eq,hb0',p0⟩:=RdW.at_ (Rd.below HR.out hB) (show a+k<ws.length by omega);cases Eq;rw[<-d7] at p0;have HS:=hid (Jw.out k Jv);obtain⟨y,hy⟩:=xq (wd ws (a+k));rw[hy] at p0 HS;obtain⟨u0,Jo⟩:∃u0,((gq ws a u n k).flatMap En.cells)[k*2]? = some u0:=⟨_,kql (by rw[Q.out];omega)⟩;obtain⟨u1,H⟩:∃u1,((gq ws a u n k).flatMap En.cells)[k*2+1]? = some u1:=⟨_,kql (by rw[Q.out];omega)⟩;have d0:=(d.cellAt (k*2) (by omega)).trans Jo;have d1:=(d.cellAt (k*2+1) (by omega)).trans H;have e0:=d.frozenAt (k*2);have e1:=d.frozenAt (k*2+1);have D:=hid d;have hk1:(k:Int)<(n:Int):=by omega
   have hk0:(0:Int)<=(k:Int):=by omega
   have hak:(a:Int)+(k:Int)<(ws.length:Int):=by omega
   have hak0:(0:Int)<=(a:Int)+(k:Int):=by omega
   have hakt:((a:Int)+(k:Int)).toNat=a+k:=by omega
   have hwa:IntKind.i64.wrap ((a:Int)+(k:Int))=(a:Int)+(k:Int):=kqv _ (by omega);have hwu:IntKind.i64.wrap ((u:Int)+(k:Int))=(u:Int)+(k:Int):=kqv _ (by omega);clear hy Jo H d;go_wp2;go_roundw
   case rel =>
    refine⟨k+1,by omega,by go_num,?_,(hB.setCell (p:=⟨T.heap.size,k*2,none⟩) J _).setCell (p:=⟨T.heap.size,k*2+1,none⟩) J _⟩;rw[HS.out,en_set];have h5:=(((D.out.stored (k*2) (.int .i64 ((u:Int)+(k:Int)))).1).stored (k*2+1) (.int .u64 (y:Int))).1;rw[show (((u+k:Nat)):Int)=(u:Int)+(k:Int) by omega];exact h5
   case measure=>simp[intOf];omega
  obtain rfl:k=n:=by omega
  have g0:(gq ws a u k k)[0]? = some ⟨((u+0:Nat):Int),wd ws (a+0)⟩:=by rw[ij _ _ _ _ _ _ (by omega),if_pos (by omega)]
  obtain⟨u1,H⟩:∃u1,((gq ws a u k k).flatMap En.cells)[1]? = some u1:=⟨_,kql (by rw[Q.out];omega)⟩;obtain⟨u3,Jl⟩:∃u3,((gq ws a u k k).flatMap En.cells)[3]? = some u3:=⟨_,kql (by rw[Q.out];omega)⟩;have d1:=(d.cellAt 1 (by omega)).trans H;have d3:=(d.cellAt 3 (by omega)).trans Jl;have e1:=d.frozenAt 1;have e3:=d.frozenAt 3;have hn1i:(1:Int)<(k:Int):=by omega
  have hn0i:(0:Int)<(k:Int):=by omega
  have X:(((gq ws a u k k).set 0 ⟨(u:Int),N⟩).set 1 ⟨((u+1:Nat):Int),0⟩).flatMap En.cells=(((gq ws a u k k).flatMap En.cells).set 1 (.int .u64 (N:Int))).set 3 (.int .u64 0):=by rw[yU ((gq ws a u k k).set 0 ⟨(u:Int),N⟩) 1 ⟨((u+1:Nat):Int),wd ws (a+1)⟩ 0 (by rw[kxb,if_neg (by omega),ij _ _ _ _ _ _ (by omega),if_pos (by omega)])];rw[show (⟨(u:Int),N⟩:En)=⟨(⟨((u+0:Nat):Int),wd ws (a+0)⟩:En).a,N⟩ from rfl,yU _ 0 _ N g0];rfl
  have Jj:=hid X;have D:=hid d;have B:(jM ws a u).length=k:=by rw[Je.out,kq4,kq4,fo]
  have U:=hid B;clear g0 H Jl X d B;go_wp2;go_ret2;have h5:=(((D.out.stored 1 (.int .u64 (N:Int))).1).stored 3 (.int .u64 0)).1;rw[<-Jj.out,<-Je.out] at h5;refine⟨⟨some ⟨T.heap.size,0,none⟩,k,by rw[G.out.1,G.out.2,U.out];rfl,?_⟩,(hB.setCell (p:=⟨T.heap.size,1,none⟩) J _).setCell (p:=⟨T.heap.size,3,none⟩) J _⟩;rw[G.out.2,U.out];exact h5
 have O:=hid (show dA ws f t=aW ws f t by unfold dA;rw[if_neg z]);have Jz:(aW ws f t != 0)=true:=by rw[kqu];exact z
 have H0:=hid z;obtain⟨r,hr⟩:=xq (aW ws f t);obtain⟨q,hq⟩:=xq ((ia ws f t).length);rw[hr,hq] at Y;rw[hr] at Jz O H0;clear z hr hq;go_enter func146,ntmps146;go_wp2_with fail;refine Y.out.mono ?_;rintro e w1 ⟨⟨A1,c1,rfl,-,-⟩,g⟩;go_wp2;go_ret2;exact⟨bE O.out (qb O.out H0.out),g⟩
theorem pJ(A:Option Addr)(ws:List Nat)(c n H:Nat)(w:World)(hn:ws.length=n)(h0:0<n)(hm:n<=1000000)(hr:RdW w H A ws)(hH:H<=w.heap.size):
 Calls prog 70 #[.slice A n c] w λe w'=>rM w ws e w':=by have z:=hid (hr.more hH);have o:=hid hn;have t:=hid (fW ws);obtain⟨b,l,rfl,v,-⟩:=RdW.at_ hr (show 0<ws.length by omega);have h:=λ(W:World)=>Lib.run_eql_slice_nil (P:=prog) (w:=W) 22 53 (some ⟨b,l,none⟩) n c 0 0 underlying22;simp only[Option.isNone_some] at h;clear hr hH hn v;obtain⟨x,u,k,m,f⟩:=kzw jI;have y:=hid u;have q:=hid k;have r:=hid m;have p:=hid f;clear u k m f;go_enter func70,ntmps70;go_wp2_with (at_builtin;refine bg _ (by rfl) _ _ 22 rfl w.heap.size 53 x _ 1 8 underlying22 y.out q.out r.out p.out rfl (by decide) (.slice (some ⟨w.heap.size,0,none⟩) 0 0) 0 [] (by rfl) (ft w _ _ _ (kqa _)) w.heap.size (some ⟨b,l,none⟩) n _ (ws.flatMap aa) (by rfl) (by rw[t.out,o.out];omega) (Rd.alloc z.out (kqa _) _) (di mn _) (by unfold maxLen;omega) (by omega) (by simp) ?_;intro v1 wa a i;have d:=bU ((kqk w.heap.size w).alloc (kqa _) _) (by simp) (ft w w.heap.size 53 1 (kqa _)) i;simp only[kxd,kzv] at a;obtain⟨g,B,rfl⟩:=fj a (by omega);have j:=hid a;have s:=hid d;clear a d i);go_ret;exact⟨g,B,by rw[o.out];rfl,by rw[o.out];exact j.out,s.out⟩
def OwnV (w:World) (xs:List Nat) (e:Ending) (w':World):Prop:=∃g c,e=.returned (.tuple #[.slice (some ⟨g,0,none⟩) xs.length c,.int .i64 0])/\w'.ownsRow w.heap.size 53 1 (.slice (some ⟨g,0,none⟩) xs.length c) xs.length (xs.flatMap aa)/\Below w.heap.size w w'
theorem zG(A B:Option Addr)(ws:List Nat)(E:List En)(c d n m H:Nat)(w:World)(hn:ws.length=n)(hm:E.length=m)(hs:ap (n:Int)=true)(hm2:m<=32)(hE:∀e∈E,0<=e.a/\e.a<(n:Int))(hr:RdW w H A ws)(he:RdE w H B E)(hH:H<=w.heap.size):
 Calls prog 53 #[.slice A n c,.slice B m d] w λe w'=>OwnV w (aj ws E) e w':=by
 subst hm;obtain⟨b1,b2,-⟩:=(ae _).1 hs;have HI:=hid (bG hs);have HR:=hid (hr.more hH);have X:=hid (he.more hH);have HN:=hid hn;have s:Hid (∀k,(aj ws (E.take k)).length=n):=hid λk=>by rw[av,hn]
 have F:Hid (∀k (h:k<E.length),0<=E[k].a/\E[k].a<(n:Int)):=hid λk h=>hE _ (kqp h);have M:Hid (∀k (h:k<E.length),aj ws (E.take (k+1))=(aj ws (E.take k)).set E[k].a.toNat E[k].v):=hid λk h=>by rw[rk h,hn,if_pos (hE _ (kqp h))]
 have q:=hid (λW (h:RdW W W.heap.size A ws)=>pJ A ws c n W.heap.size W hn (by omega) (by omega) h (kqa _));unfold rM at q;rw[hn] at q;have h32:decide ((32:Int)<(E.length:Int))=false:=by rw[kqh];omega
 clear hr he hH hn hE hs;go_enter func53,ntmps53;go_wp2_with fail;refine (aB A n c w (by omega)).mono ?_;rintro e w1 ⟨rfl,rfl⟩;rw[HI.out];go_wp2_with fail;refine (q.out _ HR.out).mono ?_;rintro e w2 ⟨g,U,rfl,f,t⟩;have y:=hid f;have G:=hid t;clear f t;go_wp2_with fail;go_loopw [22] (λi wr=>∃k:Nat,k<=E.length/\i=.int .i64 k/\wr.ownsRow w.heap.size 53 1 (.slice (some ⟨g,0,none⟩) n U) n ((aj ws (E.take k)).flatMap aa)/\Below w.heap.size w wr) (λi _=>E.length-(intOf i).toNat)
 case atStart=>exact⟨0,kqy _,rfl,y.out,G.out⟩
 obtain⟨k,hk,rfl,f,z⟩:=hrel;have V:=z.size;have J:=fR f;by_cases o:k<E.length
 .obtain ⟨b,off,rfl,hb,R,S⟩:=RdE.at_ (Rd.below X.out z) o;have r:=hid (M.out k o);obtain⟨O,Q⟩:=F.out k o;obtain⟨x,P⟩:=xq (E[k]);rw[P] at R S r O Q;obtain⟨xa,L⟩:=x;dsimp only at R S r O Q;obtain⟨a,rfl⟩:=kqz O;rw[kqi] at r;have hk1:(k:Int)<(E.length:Int):=by omega
  have hk0:(0:Int)<=(k:Int):=by omega
  obtain⟨j,l⟩:=xq (aj ws (E.take k));have C:=s.out k;rw[l] at r f C;have I:=(f.cellAt a (by omega)).trans (mD j a (by omega));have Z:=f.frozenAt a;obtain⟨u,T⟩:∃u,((j[a]'(by omega):Nat):Int)=u:=⟨_,rfl⟩;rw[T] at I;have D:g<wr.heap.size:=(f.lt g rfl).2;have c0':=(kzh wr (.cells #[.int .i64 (a:Int),.int .u64 (L:Int)] 89) ⟨g,a,none⟩ D).trans I;have Y:=hid (f.alloc (.cells #[.int .i64 (a:Int),.int .u64 (L:Int)] 89));have f0':=Y.out.frozenAt a;have N:=hid f;clear P T f l I Z;go_wp2;go_roundw
  case rel =>
   refine⟨k+1,by omega,by go_num,?_,(z.setCell (p:=⟨g,a,none⟩) J _).alloc (by rw[kz6];exact V) _⟩;rw[r.out,li];exact (N.out.stored a (.int .u64 (L:Int))).1.alloc _
  case measure=>simp[intOf];omega
 rw[kq5 (by omega)] at f;have K:=s.out E.length;rw[kzf] at K;go_wp2;go_ret2;exact⟨g,U,by rw[K];rfl,by rw[K];exact f,z⟩
theorem n8(l:List Bk):(∃k,k<l.length/\eZ l k/\(gk l k).mark=true)\/eZ l l.length:=by
 have a:∀n,n<=l.length->(∃k,k<l.length/\eZ l k/\(gk l k).mark=true)\/eZ l n:=by
  intro n
  induction n with
  | zero=>intro _;exact .inr (nr l)
  | succ n ih =>
   intro hn;rcases ih (by omega) with h|h
   .exact .inl h
   cases b:(gk l n).mark with
   | true=>exact .inl ⟨n,by omega,h,b⟩
   | false=>exact .inr (nw h b)
 exact a l.length (kqa _)
theorem sG(a b:List Bk):eG (a++b)=eG a++eG b:=by unfold eG;rw[kxx,kjy]
theorem qG{l:List Bk}:∀ {k},k<=l.length->eZ l k->eG (l.take k)=[]:=by
 intro k
 induction k with
 | zero=>intro _ _;rfl
 | succ k ih =>
  intro hk h;have a:k<l.length:=by omega
  rw[qX a,ih (by omega) (λj hj=>h j (by omega))];have:=h k (by omega);rw[bM l k a] at this;simp[this]
theorem zb(b:Bk)(l:List Bk):(eG (b::l)).length=(if b.mark=true then 1 else 0)+(eG l).length:=by
 unfold eG;cases h:b.mark
 .simp[h]
 simp[h];omega
theorem nn(hs:ap (ws.length:Int)=true){l:List Bk}(h1:128<=a)(h2:a<=ws.length)(h3:a%2=0)(hb:blocks ws a=some l)(hm:0<(eG l).length):
 ∃(m z:Nat) (l':List Bk),a9 ws (a:Int)=0/\(ie ws (a:Int)).at_=(m:Int)/\(ie ws (a:Int)).size=(z:Int)/\a<=m/\2<=z/\m+z<=ws.length/\(m+z)%2=0/\blocks ws (m+z)=some l'/\(eG l').length+1=(eG l).length:=by
 have c:eY ws.length (a:Int)=false:=by simp only[eY,kzl,kqh,kqq];omega
 obtain⟨t,n⟩:=cy (a:=(a:Int)) hs c (by rw[kqi];exact hb);rcases n8 l with⟨k,d,f,b⟩|f
 .obtain ⟨g,s⟩:=rI t n d f b;obtain⟨m,i,f2,q,r,p,o⟩:=b9 _ _ hb h3 k d;have j:=aG p;rw[bM l k d] at g b;have h:=cj o r;refine⟨m,szAt ws m,l.drop (k+1),s,by rw[g,i];rfl,by rw[g,i];rfl,q,j.1,j.2.2,by omega,?_,?_⟩
  .rw[h.2.2.2,kxg]
  have e:l=l.take k++(l[k]::l.drop (k+1)):=by rw[<-kxq d,kz9]
  have:(eG l).length=(eG (l.take k++(l[k]::l.drop (k+1)))).length:=by rw[<-e]
  rw[this,sG,kqs,qG (by omega) f,zb,b];simp;omega
 have:=qG (kqa _) f;rw[kzf] at this;rw[this] at hm;simp at hm
theorem v8(h:aw ws=0)(hp:¬ wd ws 16<3):ap (ws.length:Int)=true/\(wd ws 16=3\/wd ws 16=4)/\∃a:Nat,gm ws=(a:Int)/\128<=a/\a<=ws.length/\a%2=0/\∃l,blocks ws a=some l/\lfN ws=(eG l).length:=by
 have r:=kP h;obtain⟨H,D⟩:=ic r;obtain⟨o,G,K⟩:=fV H;obtain⟨⟨l0,s,l2⟩,-⟩:=(bq ws).1 G;have hbd:=gJ ws o;have I:=yK h hp;have d:∀a:Nat,gm ws=(a:Int)->128<=a->a<=ws.length->a%2=0->∀l,blocks ws a=some l->∃a:Nat,gm ws=(a:Int)/\128<=a/\a<=ws.length/\a%2=0/\∃l,blocks ws a=some l/\lfN ws=(eG l).length:=by
  intro a v L C J l g;refine⟨a,v,L,C,J,l,g,?_⟩;have i:eY ws.length (a:Int)=false:=by simp only[eY,kzl,kqh,kqq];omega
  rw[I,v,(cy (a:=(a:Int)) o i (by rw[kqi];exact g)).2]
 rcases (cG _ _ _).1 K with⟨u,z,y,i3⟩|⟨t,z,y⟩|⟨E,-⟩
 .refine ⟨o,.inr u,?_⟩;have e:=(aT _).1 z;have p:aW ws (wd ws 17:Nat) (wd ws 18:Nat)=0:=by
   unfold aw at h;rw[if_pos r,if_pos u] at h;split at h
   .exact h
   simp at h
  obtain⟨-,-,l,g,-⟩:=bQ p;rw[kqi] at g;exact d (wd ws 17) (by unfold gm;rw[if_neg (by omega)]) e.1 s e.2.2 l g
 .refine ⟨o,.inl t,?_⟩;have p:aW ws 128 128=0:=by unfold aw at h;rwa [if_pos r,if_neg (by omega),if_pos t] at h
  obtain⟨-,-,l,g,-⟩:=bQ p;have f:blocks ws 128=some l:=g;by_cases x:wd ws 17=0
  .exact d 128 (by unfold gm;rw[if_pos (by omega)];rfl) (by omega) (by omega) (by omega) l f
  have e:=(aT _).1 (y.resolve_left x);have j:gm ws=((wd ws 17:Nat):Int):=by unfold gm;rw[if_neg (by omega)]
  have c:=D t x;unfold nM at c;rw[f] at c;have c:(l.any (λb=>b.at_==((wd ws 17:Nat):Int))||wd ws 17==ws.length)=true:=c;rw[kxw,kjq] at c;rcases c with⟨b,F,n⟩|n
  .obtain ⟨k,A,rfl⟩:=kq2 F;obtain⟨m,B,f2,f3,f4,f5,w⟩:=b9 _ _ f (by omega) k A;rw[kqw,B] at n;have q:m=wd ws 17:=by have:((m:Nat):Int)=((wd ws 17:Nat):Int):=n;omega
   rw[q] at w;exact d (wd ws 17) j e.1 s e.2.2 _ w
  rw[kqw] at n;exact d (wd ws 17) j e.1 s e.2.2 [] (aE (by omega))
 exact absurd E hp
def phE (p f t:Nat):List En:=[⟨16,p⟩,⟨17,f⟩,⟨18,t⟩]
theorem fC(j v:Nat)(l:List En)(h:j<ws.length):aj ws (⟨(j:Int),v⟩::l)=aj (ws.set j v) l:=by simp only[aj];rw[if_pos (by omega),kqi]
def ir (l:List En) (p:Nat):List En:=if 32<=l.length then l.take 31 else ⟨16,p⟩::l
def bN:List En:=[⟨16,4⟩,⟨17,128⟩,⟨18,128⟩]
theorem fu(h:a9 ws (a:Int)=0):ap (ws.length:Int)=true/\128<=a/\a%2=0/\∃m:Nat,ie ws (a:Int)=bkAt ws m/\a<=m/\m%2=0/\2<=szAt ws m/\szAt ws m%2=0/\m+szAt ws m<=ws.length/\stands ws m=true/\(bkAt ws m).mark=true/\(bkAt ws m).kind=1/\∃l,blocks ws a=some l/\bJ ws (a:Int)=0/\aJ ws (a:Int)=l/\∃k,k<l.length/\eZ l k/\blocks ws m=some (l.drop k):=by
 have d:bJ ws (a:Int)=0:=by
  by_cases q:bJ ws (a:Int)=0
  .exact q
  rw[(tX rfl q).2] at h;exact absurd h q
 have j:ap (ws.length:Int)=true:=by
  cases n:ap (ws.length:Int) with
  | true=>rfl
  | false=>rw[fp n] at d;cases d
 have c:eY ws.length (a:Int)=false:=by
  cases n:eY ws.length (a:Int) with
  | false=>rfl
  | true=>rw[jo j n] at d;cases d
 have ha:=jG c;cases p:blocks ws a with
 | none=>rw[eN j c (by rw[kqi];exact p)] at d;cases d
 | some l =>
  have f:=cy (a:=(a:Int)) j c (l:=l) (by rw[kqi];exact p);rcases n8 l with⟨k,e,i,g⟩|i
  .obtain ⟨s,-⟩:=rI d f.2 e i g;obtain⟨m,r,w,v,f4,t,u⟩:=b9 _ _ p (by omega) k e;have o:=aG t;have b:=Fo d (k:=k) (by rw[f.2];exact e);rw[f.2] at b;rw[bM l k e] at s g b;rw[r] at g b;rw[g] at b;simp only[Bool.not_true,kkn,kqw] at b;exact⟨j,by omega,by omega,m,by rw[s,r],v,w,o.1,o.2.1,o.2.2,t,g,b,l,rfl,d,f.2,k,e,i,u⟩
  rw[(Ay d f.2 i).2] at h;cases h
def fixL (ws:List Nat):Nat->Nat->Int × List En
 | 0,_=>(0,bN)
 | f+1,a=>if a9 ws (a:Int)=0 then (if bH ws (ie ws (a:Int)).at_=[] then fixL ws f ((ie ws (a:Int)).at_+(ie ws (a:Int)).size).toNat
  else if dp ws (ie ws (a:Int)).at_=0 then (0,⟨17,((ie ws (a:Int)).at_+(ie ws (a:Int)).size).toNat⟩::cr ws (ie ws (a:Int)).at_)
  else (dp ws (ie ws (a:Int)).at_,[])) else (0,bN)
theorem xX :∀ {f a g:Nat},ws.length-a<f->ws.length-a<g->fixL ws f a=fixL ws g a:=by
 intro f
 induction f with
 | zero=>intro a g h;omega
 | succ f ih =>
  intro a g h hg;cases g with
  | zero=>omega
  | succ g =>
   simp only[fixL];by_cases b:a9 ws (a:Int)=0
   .obtain ⟨hs,a1,a2,m,e,m1,m2,m3,m4,m5,-⟩:=fu b;have d:((ie ws (a:Int)).at_+(ie ws (a:Int)).size).toNat=m+szAt ws m:=by rw[e,ab,bC];omega
    rw[if_pos b,if_pos b,d];by_cases c:bH ws (ie ws (a:Int)).at_=[]
    .rw[if_pos c,if_pos c];exact ih (by omega) (by omega)
    rw[if_neg c,if_neg c]
   rw[if_neg b,if_neg b]
def kM (ws:List Nat) (a:Nat):Int × List En:=fixL ws (ws.length+1) a
theorem jZ(h:a9 ws (a:Int)≠0):kM ws a=(0,bN):=by unfold kM;rw[fixL,if_neg h]
theorem kr(h:a9 ws (a:Int)=0)(e:ie ws (a:Int)=bkAt ws m)(h2:bH ws (m:Int)=[]):kM ws a=kM ws (m+szAt ws m):=by
 obtain⟨hs,a1,a2,b,d,m1,m2,m3,m4,m5,-⟩:=fu h;have c:b=m:=by have:=congrArg Bk.at_ (e.symm.trans d);rw[ab,ab] at this;omega
 subst c;unfold kM;rw[fixL,if_pos h,e,ab,if_pos h2,bC,show (((b:Int)+((szAt ws b:Nat):Int)).toNat)=b+szAt ws b by omega];exact xX (by omega) (by omega)
theorem uc(h:a9 ws (a:Int)=0)(e:ie ws (a:Int)=bkAt ws m)(h2:bH ws (m:Int)≠[])(h3:dp ws (m:Int)≠0):kM ws a=(dp ws (m:Int),[]):=by unfold kM;rw[fixL,if_pos h,e,ab,if_neg h2,if_neg h3]
theorem pe(h:a9 ws (a:Int)=0)(e:ie ws (a:Int)=bkAt ws m)(h2:bH ws (m:Int)≠[])(h3:dp ws (m:Int)=0):kM ws a=(0,⟨17,m+szAt ws m⟩::cr ws (m:Int)):=by unfold kM;rw[fixL,if_pos h,e,ab,if_neg h2,if_pos h3,bC,show (((m:Int)+((szAt ws m:Nat):Int)).toNat)=m+szAt ws m by omega]
def sgFix (ws:List Nat):Int × List En:=if wd ws 17=0 then (if ei ws=0 then (0,⟨17,128⟩::dK ws) else (ei ws,[])) else kM ws (wd ws 17)
def sgSld (ws:List Nat):Int × List En:=if a9 ws ((wd ws 17:Nat):Int)=0 then
 (if dA ws (ie ws ((wd ws 17:Nat):Int)).at_ ((wd ws 18:Nat):Int)=0 then (0,⟨17,((ie ws ((wd ws 17:Nat):Int)).at_+(ie ws ((wd ws 17:Nat):Int)).size).toNat⟩::⟨18,(((wd ws 18:Nat):Int)+(ie ws ((wd ws 17:Nat):Int)).size).toNat⟩::iW ws (ie ws ((wd ws 17:Nat):Int)).at_ ((wd ws 18:Nat):Int))
 else (dA ws (ie ws ((wd ws 17:Nat):Int)).at_ ((wd ws 18:Nat):Int),[])) else (6,[])
noncomputable def ag (ws:List Nat):Int × List En:=if aw ws=0 then
 (if wd ws 16=1 then (if aA ws=0 then (0,ir (aL ws) 2) else (aA ws,[]))
 else if wd ws 16=2 then (if ah ws=0 then (0,ir (aD ws) 3) else (ah ws,[]))
 else if wd ws 16=3 then sgFix ws
 else if wd ws 16=4 then sgSld ws else (6,[])) else (aw ws,[])
theorem cm(h:32<=l.length):ir l p=l.take 31:=by unfold ir;rw[if_pos h]
theorem iE(h:¬ 32<=l.length):ir l p=⟨16,p⟩::l:=by unfold ir;rw[if_neg h]
theorem iC{x:Nat}(h:aM x=true)(hk:(ar x).kind=1)(m:Bool):aM (gb x m)=true/\ar (gb x m)={ ar x with mark:=m }/\nK x m=0/\gb x m<18446744073709551616:=by
 have e:jO (ar x)=true:=by unfold aM at h;simp only[kqo] at h;exact h.1
 have a:jO (il x m)=true:=by
  have d:=(bt _).1 e;rw[bt];unfold il;dsimp only;refine⟨d.1,.inl ?_⟩;rcases d.2 with b|b
  .exact b
  rw[hk] at b;exact absurd b.1 (by decide)
 have c:gb x m=da (il x m):=by unfold gb jn;rw[if_pos h,if_pos a]
 refine⟨by rw[c];exact n9 a,?_,by unfold nK;rw[if_pos h];exact jJ a,by rw[c];exact oZ a⟩;rw[c,mw a];rfl
theorem nd{x:Nat}(h:aM x=true):2048<x:=by unfold aM at h;simp only[kqo] at h;have b:=(bt _).1 h.1;have a:(ar x).size=((x/65536%65536:Nat):Int):=rfl;rw[a] at b;omega
structure Rm (ws xs:List Nat):Prop where
 len:xs.length=ws.length
 at_:∀i,wd xs i=wd ws i\/(128<=i/\i%2=0/\aM (wd ws i)=true/\(ar (wd ws i)).kind=1/\∃m,wd xs i=gb (wd ws i) m)
section
variable {ws xs:List Nat}
theorem Rm.low(h:Rm ws xs)(hi:i<128):wd xs i=wd ws i:=by
 rcases h.at_ i with a|a
 .exact a
 omega
theorem Rm.odd(h:Rm ws xs)(hi:i%2=1):wd xs i=wd ws i:=by
 rcases h.at_ i with a|a
 .exact a
 omega
theorem Rm.sp(h:Rm ws xs)(i:Nat):aM (wd xs i)=aM (wd ws i):=by
 rcases h.at_ i with b|⟨-,-,a,d,m,c⟩
 .rw[b]
 rw[c,a,(iC a d m).1]
def qm (xs:List Nat) (i:Nat):Bool:=(ar (wd xs i)).mark
theorem Rm.raw(h:Rm ws xs)(i:Nat):ar (wd xs i)={ ar (wd ws i) with mark:=qm xs i }:=by
 unfold qm;rcases h.at_ i with a|⟨-,-,b,d,m,c⟩
 .rw[a]
 rw[c,(iC b d m).2.1]
theorem Rm.sz(h:Rm ws xs)(i:Nat):(ar (wd xs i)).size=(ar (wd ws i)).size:=by rw[h.raw i]
theorem Rm.szAt(h:Rm ws xs)(i:Nat):szAt xs i=szAt ws i:=by have a:=h.sz i;have e:∀w,(ar w).size=((w/65536%65536:Nat):Int):=λ_=>rfl;rw[e,e] at a;unfold Proofs.YtpcajamacpbjcaaGreat.szAt;exact Int.ofNat.inj a
theorem Rm.stands(h:Rm ws xs)(i:Nat):stands xs i=stands ws i:=by unfold Proofs.YtpcajamacpbjcaaGreat.stands;rw[h.sp,h.sz,h.len]
def mkB (xs:List Nat) (b:Bk):Bk:={ b with mark:=qm xs b.at_.toNat }
theorem Rm.bkAt(h:Rm ws xs)(hi:i%2=0):bkAt xs i=mkB xs (bkAt ws i):=by
 unfold mkB;have a:(Proofs.YtpcajamacpbjcaaGreat.bkAt ws i).at_.toNat=i:=by rw[ab,kqi]
 rw[a];unfold Proofs.YtpcajamacpbjcaaGreat.bkAt;rw[h.raw i,h.odd (i:=i+1) (by omega)]
theorem Rm.blocks(h:Rm ws xs):∀i l,blocks ws i=some l->i%2=0->blocks xs i=some (l.map (mkB xs)):=by
 refine dJ (λi l=>i%2=0->Proofs.YtpcajamacpbjcaaGreat.blocks xs i=some (l.map (mkB xs))) (λi a _=>?_) (λi l a c hb b d=>?_)
 .exact aE (by rw[h.len];exact a)
 have hsz:=aG c;have b:=b (by omega);rw[aP (by rw[h.len];exact a) (by rw[h.stands];exact c),h.szAt,b,h.bkAt d];rfl
theorem xy(n:Nat)(l:List Bk):py n (l.map (mkB xs))=py n l:=by unfold py;rw[List.foldl_map];rfl
theorem GT(h:Rm ws xs)(hb:b.kind=1->tyA b+1<128):du xs (mkB xs b)=du ws b:=by
 have e:=zK (ws:=ws) (xs:=xs) (λj c=>h.low c) hb;by_cases a:b.kind=1
 .have h2:=hb a;unfold du cK;show (b.kind != 1||(cw (wd xs (tyA b)) (wd xs (tyA b+1))&&b.size==((bZ (wd xs (tyA b)%256):Nat):Int)))=_;rw[h.low (by omega),h.low (by omega)]
 rw[eD a,eD (b:=mkB xs b) a]
theorem Rm.heap(h:Rm ws xs)(h0:ah ws=0):ah xs=0/\af xs=(af ws).map (mkB xs):=by obtain⟨e,l,c,d,g⟩:=ay h0;have f:=h.blocks 128 l c (by omega);rw[g];refine fM (by rw[h.len];exact e) f ?_;rw[List.all_map,kzo];rw[kzo] at d;intro b a;show du xs (mkB xs b)=true;rw[GT h (jy c (by omega) b a)];exact d b a
theorem Rm.tb(h:Rm ws xs)(h0:ah ws=0)(a:Nat):tb xs a=tb ws a:=by unfold Proofs.YtpcajamacpbjcaaGreat.tb;rw[(h.heap h0).2,h.len,xy]
theorem Rm.slAt(h:Rm ws xs)(hi:i<16):slAt xs i=slAt ws i:=by unfold Proofs.YtpcajamacpbjcaaGreat.slAt;rw[h.low (by omega)]
theorem Rm.slsOk(h:Rm ws xs):slsOk xs=slsOk ws:=by
 rw[kzq,cO,cO];unfold pT;constructor
 .intro b i a;rw[<-h.slAt a];exact b i a
 intro b i a;rw[h.slAt a];exact b i a
theorem mS(h:fT ws a):(ar (wd ws a)).typ.toNat<8:=by have h7:=(bt _).1 (fE h.2.2.2.1);have h5:=h.2.2.2.2.1;omega
theorem Rm.flds(h:Rm ws xs)(h0:ah ws=0)(ha:Proofs.YtpcajamacpbjcaaGreat.tb ws a≠0):flds xs a=flds ws a:=by obtain⟨b,-⟩:=ik h0 ha;have:=mS b;unfold Proofs.YtpcajamacpbjcaaGreat.flds;rw[h.raw a];dsimp only;rw[h.low (by omega),h.low (by omega)]
theorem Rm.ref(h:Rm ws xs)(hg:oa ws)(h0:ah ws=0)(ha:Rch ws a)(ht:Proofs.YtpcajamacpbjcaaGreat.tb ws a≠0)(hf:(Proofs.YtpcajamacpbjcaaGreat.flds ws a)[i]? = some 3):wd xs (a+2+i)=wd ws (a+2+i):=by
 rcases h.at_ (a+2+i) with c|⟨-,-,d,-⟩
 .exact c
 exfalso;have hb:=nd d;have b:=hg _ (Rch.ref a i ha ht hf (by omega));rw[kk6 (by omega)] at b;have:=rg b;have:=(gJ ws (ay h0).1).2.1;omega
theorem Rm.rch(h:Rm ws xs)(hg:oa ws)(h0:ah ws=0)(a:Nat):Rch xs a↔Rch ws a:=by
 constructor
 .intro b
  induction b with
  | slot i hi hu=>rw[h.slAt hi] at hu |-;exact Rch.slot i hi hu
  | ref a i b ht hf hv ih =>rw[h.tb h0] at ht;rw[h.flds h0 ht] at hf;rw[h.ref hg h0 ih ht hf] at hv |-;exact Rch.ref a i ih ht hf hv
 intro b
 induction b with
 | slot i hi hu=>rw[<-h.slAt hi] at hu |-;exact Rch.slot i hi hu
 | ref a i b ht hf hv ih =>rw[<-h.ref hg h0 b ht hf] at hv |-;exact Rch.ref a i ih (by rw[h.tb h0];exact ht) (by rw[h.flds h0 ht];exact hf) hv
theorem aC(h:aA ws=0):ah ws=0/\slsOk ws=true/\oa ws:=by
 unfold aA at h;by_cases a:ah ws=0
 .rw[if_pos a] at h;by_cases b:Proofs.YtpcajamacpbjcaaGreat.slsOk ws=true
  .rw[if_pos b] at h;by_cases c:oa ws
   .exact ⟨a,b,c⟩
   rw[if_neg c] at h;cases h
  rw[if_neg b] at h;cases h
 rw[if_neg a] at h;exact absurd h a
theorem Rm.same(h:Rm ws xs)(h0:aA ws=0):aA xs=0/\dU xs=dU ws/\seenL xs=seenL ws/\ah xs=0/\af xs=(af ws).map (mkB xs):=by
 obtain⟨b,j,f⟩:=aC h0;have g:=h.rch f b;have c:=h.heap b;have k:oa xs:=λa i=>by rw[h.tb b];exact f a ((g a).1 i)
 have d:aA xs=0:=xH c.1 (by rw[h.slsOk];exact j) k;have e:seenL xs=seenL ws:=by unfold seenL;rw[h.len];refine kzy λa _=>?_;exact decide_eq_decide.2 (g a)
 refine⟨d,?_,e,c⟩;rw[dV d,dV h0,e,h.len]
end
theorem Gr:∀ {a b:List Int},a.Pairwise (· < ·)->b.Pairwise (· < ·)->(∀x,x∈a↔x∈b)->a=b:=by
 intro a
 induction a with
 | nil =>
  intro b _ _ h;cases b with
  | nil=>rfl
  | cons y b=>exact absurd ((h y).2 (by simp)) (by simp)
 | cons x a ih =>
  intro b e f h;cases b with
  | nil=>exact absurd ((h x).1 (by simp)) (by simp)
  | cons y b =>
   rw[kj7] at e f;have i:x=y:=by
    have d:=(h x).1 (by simp);have c:=(h y).2 (by simp);rw[kqt] at d c;rcases d with d|d
    .exact d
    rcases c with c|c
    .exact c.symm
    have:=f.1 _ d;have:=e.1 _ c;omega
   subst i;rw[ih e.2 f.2 (λz=>?_)];have g:=h z;rw[kqt,kqt] at g;constructor
   .intro d;have:=e.1 _ d;rcases g.1 (.inr d) with c|c
    .omega
    exact c
   intro d;have:=f.1 _ d;rcases g.2 (.inr d) with c|c
   .omega
   exact c
theorem dX(l:List En):∀ws:List Nat,l.Pairwise (λa b=>a.a<b.a)->∀e∈l,0<=e.a->e.a<(ws.length:Int)->wd (aj ws l) e.a.toNat=e.v:=by
 induction l with
 | nil=>intro ws _ e c;simp at c
 | cons x l ih =>
  intro ws f e c g d;rw[kj7] at f;simp only[aj];rcases kqt.1 c with rfl|c
  .rw[aQ l _ _ (λy h=>by have:=f.1 y h;omega),if_pos ⟨g,d⟩];unfold wd;rw[kz5 (by omega)];rfl
  refine ih _ f.2 e c g ?_;split
  .rw[kq4];exact d
  exact d
theorem lO :∀i l,blocks ws i=some l->(∀b∈l,(i:Int)<=b.at_)/\l.Pairwise (λa b=>a.at_<b.at_):=by
 refine dJ _ (λi _=>⟨λb h=>by simp at h,List.Pairwise.nil⟩) (λi l hi d hb c=>?_);have hsz:=aG d;refine⟨λb h=>?_,List.Pairwise.cons (λb h=>?_) c.2⟩
 .rcases kqt.1 h with rfl|h
  .rw[ab];omega
  have:=c.1 b h;omega
 have:=c.1 b h;rw[ab];omega
theorem b8(h:ah ws=0):(∀b∈af ws,∃a:Nat,b=bkAt ws a/\128<=a/\a%2=0/\a<ws.length/\stands ws a=true)/\(af ws).Pairwise (λa b=>a.at_<b.at_):=by obtain⟨h1,l,c,h3,g⟩:=ay h;rw[g];refine⟨λb e=>?_,(lO _ _ c).2⟩;obtain⟨k,d,rfl⟩:=kq2 e;obtain⟨a,j,f,e3,m,i,-⟩:=b9 _ _ c (by omega) k d;exact⟨a,j,by omega,f,m,i⟩
theorem pw(h:aA ws=0)(ha:Rch ws a):∃b∈af ws,b=bkAt ws a/\b.kind=1/\fT ws a:=by obtain⟨f,h2,g⟩:=aC h;obtain⟨c,-⟩:=ik f (g a ha);obtain⟨k,d,e,-⟩:=c.2.2.2.2.2.2;exact⟨_,kqp d,e,by rw[e];exact c.2.2.2.2.1,c⟩
noncomputable def eQ (ws:List Nat) (b:Bk):Bool:=(seenL ws)[b.at_.toNat]?.getD false
theorem fe(h:a<ws.length):eQ ws (bkAt ws a)=true↔Rch ws a:=by unfold eQ;rw[ab,kqi];exact kZ h
theorem xN(h:aA ws=0)(hb:b∈af ws)(hk:eJ (seenL ws) b=false):b.kind=1:=by
 obtain⟨f,-,-⟩:=aC h;obtain⟨a,rfl,a1,a2,k,a4⟩:=(b8 f).1 b hb;cases d:(bkAt ws a).mark with
 | true =>obtain⟨_,l,j,-,m⟩:=ay f;rw[m] at hb;exact jq j (by omega) _ hb d
 | false =>
  have i:eQ ws (bkAt ws a)=true:=by
   unfold eJ at hk;rw[d] at hk;unfold eQ;cases g:(seenL ws)[(bkAt ws a).at_.toNat]?.getD false with
   | true=>rfl
   | false=>rw[g] at hk;exact absurd hk (by decide)
  obtain⟨b',-,e,c,-⟩:=pw h ((fe k).1 i);rw[e] at c;exact c
theorem d6(h:aA ws=0):aL ws=(lu (seenL ws) (af ws)).map (wZ ws (seenL ws)):=by unfold aL;rw[if_pos h]
theorem dH(h:aA ws=0){e:En}(he:e∈aL ws):∃a:Nat,bkAt ws a∈af ws/\128<=a/\a%2=0/\a<ws.length/\aM (wd ws a)=true/\(ar (wd ws a)).kind=1/\e=⟨(a:Int),gb (wd ws a) (eQ ws (bkAt ws a))⟩/\eJ (seenL ws) (bkAt ws a)=false:=by
 obtain⟨j,-,-⟩:=aC h;rw[d6 h,kzz] at he;obtain⟨b,f,rfl⟩:=he;have d:=pv f;have i:eJ (seenL ws) b=false:=by
  unfold lu at f;have:=(kzm.1 f).2
  simpa using this
 have c:=xN h d i;obtain⟨a,rfl,k,m,l,g⟩:=(b8 j).1 b d;refine⟨a,d,k,m,l,?_,c,rfl,i⟩;unfold stands at g;simp only[kqo] at g;exact g.1
theorem dx(h:aA ws=0):(aL ws).Pairwise (λa b=>a.a<b.a):=by obtain⟨c,-,-⟩:=aC h;rw[d6 h,kky];exact List.Pairwise.filter _ (b8 c).2
theorem oO(h:aA ws=0):∀e∈aL ws,e.v<18446744073709551616:=by intro e b;obtain⟨a,-,-,-,-,d,c,rfl,-⟩:=dH h b;exact (iC d c _).2.2.2
theorem xY(h:aA ws=0):Rm ws (aj ws (aL ws)):=by
 refine⟨av _ _,λi=>?_⟩;by_cases f:∃e∈aL ws,e.a=(i:Int)
 .obtain ⟨e,b,c⟩:=f;obtain⟨a,-,k,j,a3,m,l,rfl,-⟩:=dH h b;have d:a=i:=by dsimp only at c;omega
  subst d;refine .inr ⟨k,j,m,l,eQ ws (bkAt ws a),?_⟩;have:=dX (aL ws) ws (dx h) _ b (by dsimp only;omega) (by dsimp only;omega);dsimp only at this;rw[kqi] at this;exact this
 exact .inl (aQ _ _ _ (λe b g=>f ⟨e,b,g⟩))
theorem kE(h:aA ws=0)(hb:b∈af ws):(mkB (aj ws (aL ws)) b).mark=eQ ws b:=by
 obtain⟨p,-,-⟩:=aC h;obtain⟨a,rfl,a1,a2,a3,a4⟩:=(b8 p).1 b hb;show qm _ (bkAt ws a).at_.toNat=_;rw[ab,kqi];cases d:eJ (seenL ws) (bkAt ws a) with
 | false =>
  have g:wZ ws (seenL ws) (bkAt ws a)∈aL ws:=by rw[d6 h,kzz];refine⟨_,?_,rfl⟩;unfold lu;rw[kzm];exact⟨hb,by rw[d];rfl⟩
  obtain⟨f,-,k,o,l,j,i,e,-⟩:=dH h g;have m:=congrArg En.a e;have:f=a:=by have:((bkAt ws a).at_:Int)=(f:Int):=m;rw[ab] at this;omega
  subst this;have:=dX (aL ws) ws (dx h) _ g (by rw[e];dsimp only;omega) (by rw[e];dsimp only;omega);rw[e] at this;dsimp only at this;rw[kqi] at this;unfold qm;rw[this,(iC j i _).2.1]
 | true =>
  have q:wd (aj ws (aL ws)) a=wd ws a:=aQ _ _ _ (λe g n=>by
   obtain⟨f,hm,k,o,l,j,i,rfl,c⟩:=dH h g;have:f=a:=by dsimp only at n;omega
   subst this;rw[d] at c;cases c)
  unfold qm;rw[q];unfold eJ at d;exact kqw.1 d
theorem CM{l:List Bk}(h:l.Pairwise (λa b=>a.at_<b.at_)):(eG l).Pairwise (· < ·):=by unfold eG;rw[kky];exact List.Pairwise.filter _ h
theorem An{l:List Bk}(h:l.Pairwise (λa b=>a.at_<b.at_)):(l.map (mkB xs)).Pairwise (λa b=>a.at_<b.at_):=by rw[kky];exact h
theorem fY(h:aA ws=0)(x:Int):x∈dU ws↔∃a:Nat,x=(a:Int)/\a<ws.length/\Rch ws a:=by
 rw[dV h];unfold qh;rw[kzz];constructor
 .rintro ⟨a,b,rfl⟩;rw[kzm,kzn] at b;exact⟨a,rfl,b.1,(kZ b.1).1 b.2⟩
 rintro ⟨a,rfl,c,d⟩;exact⟨a,kzm.2 ⟨kzn.2 c,(kZ c).2 d⟩,rfl⟩
theorem za(h:aA ws=0):(dU ws).Pairwise (· < ·):=by rw[dV h];unfold qh;rw[kky];refine List.Pairwise.filter _ ?_;refine List.Pairwise.imp (R:=(· < ·)) (λ{a b} hab=>?_) List.pairwise_lt_range;omega
theorem Cs(h:aA ws=0):eG ((af ws).map (mkB (aj ws (aL ws))))=dU ws:=by
 obtain⟨l,-,h3⟩:=aC h;have d:=b8 l;refine Gr (CM (An d.2)) (za h) λx=>?_;rw[fY h];unfold eG;rw[kzz];constructor
 .rintro ⟨c,g,rfl⟩;rw[kzm,kzz] at g;obtain⟨⟨b,e,rfl⟩,f⟩:=g;rw[kE h e] at f;obtain⟨a,rfl,a1,a2,i,a4⟩:=d.1 b e;exact⟨a,ab ws a,i,(fe i).1 f⟩
 rintro ⟨a,rfl,k,j⟩;obtain⟨b,e,rfl,-,-⟩:=pw h j;refine⟨mkB (aj ws (aL ws)) (bkAt ws a),?_,ab ws a⟩;rw[kzm];refine⟨kj4 e,?_⟩;rw[kE h e];exact (fe k).2 j
theorem pn(h:aA ws=0):(∀(i:Nat) (x:En),(aL ws)[i]? = some x->128<=x.a/\x.a<(ws.length:Int))/\∀(i:Nat) (x y:En),(aL ws)[i]? = some x->(aL ws)[i+1]? = some y->x.a<y.a:=by
 refine⟨λi x b=>?_,λi x y b j=>?_⟩
 .obtain ⟨a,-,a1,-,a3,-,-,rfl,-⟩:=dH h (List.mem_of_getElem? b);dsimp only;omega
 have c:=dx h;rw[kze] at c;obtain⟨d,f⟩:=kq7.1 b;obtain⟨e,g⟩:=kq7.1 j;rw[<-f,<-g];exact c i (i+1) d e (by omega)
theorem iP(ws:List Nat)(a u:Nat):(jM ws a u).length=szAt ws a:=by simp[jM]
theorem CJ(l:List Nat):∀(ws:List Nat) (t:Nat),t+l.length<=ws.length->aj ws ((List.range l.length).map λj=>(⟨((t+j:Nat):Int),l[j]?.getD 0⟩:En))=eP ws t l:=by
 induction l with
 | nil=>intro ws t _;rfl
 | cons v l ih =>intro ws t h;simp only[kq1] at h;rw[kq1,List.range_succ_eq_map,kx9,List.map_map];simp only[aj,eP,kz8];rw[if_pos (by omega),kqi,List.getElem?_cons_zero,kq8,<-ih _ (t+1) (by rw[kq4];omega)];congr 1;apply kzy;intro j _;simp only[Function.comp];rw[show t+Nat.succ j=t+1+j by omega];simp
theorem xC(h:u+szAt ws a<=ws.length):aj ws (jM ws a u)=eP ws u (dB ws a):=by rw[<-CJ _ _ _ (by rw[gh];exact h),gh];congr 1;unfold jM;apply kzy;intro j b;rw[jV _ _ _ (kzn.1 b)];rfl
theorem rR(ho:∀x∈ws,x<18446744073709551616)(h:jO { ar (wd ws a) with mark:=false }=true):∀e∈jM ws a u,e.v<18446744073709551616:=by
 intro e b;simp only[jM,kzz] at b;obtain⟨j,-,rfl⟩:=b;dsimp only;split
 .exact oZ h
 split
 .omega
 exact gu ho _
theorem ge{k:Nat}(h:k<(jM ws a u).length):((jM ws a u)[k]).a=((u+k:Nat):Int):=by simp[jM]
theorem v9:∀ {l:List Bk} {s:Int},(∀b∈l,0<=b.size)->s<=aI l s:=by
 intro l
 induction l with
 | nil=>intro s _;exact kk9 _
 | cons b l ih =>
  intro s h;have h1:=h b (by simp);simp only[aI];split
  .have:=ih (s:=s+b.size) (λc a=>h c (by simp[a]));omega
  exact ih (λc a=>h c (by simp[a]))
theorem sD:∀ {l:List Bk} {s:Int},0<=s->(∀b∈l,0<=b.size)->∀e∈aN l s,(e.v:Int)<=aI l s:=by
 intro l
 induction l with
 | nil=>intro s _ _ e h;simp[aN] at h
 | cons b l ih =>
  intro s hs h e a;have h1:=h b (by simp);have f:∀c∈l,0<=c.size:=λc g=>h c (by simp[g]);have hns:s<=eU b s:=by unfold eU;split<;>omega
  have hge:=v9 (l:=l) (s:=eU b s) f;have d:aI (b::l) s=aI l (eU b s):=by simp only[aI,eU];split<;>rfl
  rw[d];simp only[aN,kzu] at a;rcases a with a|a
  .split at a
   .simp only[kqt,kzb,or_false] at a;subst a;show ((bu b s:Nat):Int)<=_;unfold bu;split<;>omega
   simp at a
  exact ih (by omega) f e a
theorem tU(h:ah x=0):(aD x).length<=1024/\∀e∈aD x,e.v<18446744073709551616:=by
 have f:aD x=aN (af x) 128:=by unfold aD;rw[if_pos h]
 rw[f];refine⟨kz1 (mI _ _) (jd x),λe j=>?_⟩;obtain⟨c,a,d,hs3⟩:=eO (ga h).2.2.1;have h1:=sD (l:=af x) (s:=128) (by omega) (λb k=>by
  obtain⟨i,m,rfl⟩:=kq2 k;have:=ux (ga h).2.2.1 m;omega) e j
 have g:=kn c (kqa _) a d;rw[kzf] at g;omega
structure Small (n:Nat) (E:List En):Prop where
 pos:1<=E.length
 le:E.length<=32
 inc:E.Pairwise (λa b=>a.a<b.a)
 ins:∀e∈E,(16<=e.a/\e.a<19\/112<=e.a)/\e.a<(n:Int)
 val:∀e∈E,e.v<18446744073709551616
theorem ze(h:l.Pairwise (λa b=>a.a<b.a))(k:Nat):(l.take k).Pairwise (λa b=>a.a<b.a):=h.sublist (kjj k l)
theorem zV(hn:256<=n)(hp:p<4)(h1:l.Pairwise (λa b=>a.a<b.a))(h2:∀e∈l,128<=e.a/\e.a<(n:Int))(h3:∀e∈l,e.v<18446744073709551616):Small n (ir l p):=by
 by_cases h:32<=l.length
 .rw[cm h];refine⟨by rw[kq3];omega,by rw[kq3];omega,ze h1 31,λe c=>?_,λe c=>h3 e (kx0 c)⟩;have:=h2 e (kx0 c);omega
 rw[iE h];refine⟨by simp,by rw[kq1];omega,List.Pairwise.cons (λe c=>?_) h1,λe c=>?_,λe c=>?_⟩
 .have:=h2 e c;dsimp only;omega
 .rcases kqt.1 c with rfl|c
  .dsimp only;omega
  have:=h2 e c;omega
 rcases kqt.1 c with rfl|c
 .dsimp only;omega
 exact h3 e c
theorem D5{a:Int}(h:dp ws a=0):∀e∈cr ws a,a<=e.a/\e.a<(ws.length:Int)/\e.v<2048:=by
 obtain⟨f,-,-,-,-,-,n,p,o,g⟩:=iz h;intro e j;obtain⟨r,m,r2,k,r4⟩:=o e j;have b:=dX (cr ws a) ws g e j (by omega) (by omega);rw[m,kqi] at b;by_cases c:∃i,i<(bH ws a).length/\f i=r
 .obtain ⟨i,d,e2⟩:=c;have:=(n i d).2.1;omega
 have:=p r (λi d l=>c ⟨i,d,l⟩);rw[b] at this;exact absurd this.symm k
theorem cC(h:aw ws=0):cu ws=0/\ap (ws.length:Int)=true/\iY ws=true/\AE (wd ws 16) (wd ws 17) (wd ws 18)=true:=by have a:=(ic (kP h)).1;exact⟨a,fV a⟩
theorem zJ(h1:ap (xs.length:Int)=true)(h2:iY xs=true)(h3:AE (wd xs 16) (wd xs 17) (wd xs 18)=true):cu xs=0:=(mm h1 (by rw[h2,h3];rfl)).1
theorem gK(h:∀e∈E,19<=e.a)(hi:i<19):wd (aj ws E) i=wd ws i:=aQ _ _ _ λe b=>by have:=h e b;omega
theorem ks(h:Small n E)(h1:19<=i)(h2:i<112):wd (aj ws E) i=wd ws i:=aQ _ _ _ λe a=>by have:=(h.ins e a).1;omega
theorem kQ(hs:Small ws.length E)(hl:iY ws=true)(h16:wd (aj ws E) 16<=ws.length)(h17:wd (aj ws E) 17<=ws.length)(h18:wd (aj ws E) 18<=ws.length):iY (aj ws E)=true:=by obtain⟨-,b,e,c,d,a⟩:=(bq ws).1 hl;rw[bq,av];exact⟨⟨h16,h17,h18⟩,by rw[ks hs (by omega) (by omega)];exact b,by rw[ks hs (by omega) (by omega)];exact e,by rw[ks hs (by omega) (by omega)];exact c,by rw[ks hs (by omega) (by omega)];exact d,by rw[ks hs (by omega) (by omega)];exact a⟩
def onW (ws xs:List Nat):Prop:=wd ws 16<=wd xs 16/\(wd xs 16=wd ws 16->wd ws 17<=wd xs 17/\wd ws 18<=wd xs 18)
theorem ki(hj:j<ws.length)(hl:∀e∈l,e.a≠(j:Int)):wd (aj ws (⟨(j:Int),v⟩::l)) j=v:=by rw[fC j v l hj,aQ _ _ _ hl];unfold wd;rw[kz5 hj];rfl
theorem pB(hj:j<ws.length)(_hne:i≠j):wd (aj ws (⟨(j:Int),v⟩::l)) i=wd (aj (ws.set j v) l) i:=by rw[fC j v l hj]
theorem dk(h:i≠j):wd (ws.set j v) i=wd ws i:=by unfold wd;rw[kx3 (by omega)]
theorem fA(hck:aw ws=0)(hp:wd ws 16=p)(hp2:p=1\/p=2)(h1:l.Pairwise (λa b=>a.a<b.a))(h2:∀e∈l,128<=e.a/\e.a<(ws.length:Int))(h3:∀e∈l,e.v<18446744073709551616):
 Small ws.length (ir l (p+1))/\cu (aj ws (ir l (p+1)))=0/\onW ws (aj ws (ir l (p+1)))/\wd (aj ws (ir l (p+1))) 16=(if 32<=l.length then p else p+1)/\wd (aj ws (ir l (p+1))) 17=0/\wd (aj ws (ir l (p+1))) 18=0:=by
 obtain⟨-,o,r,m⟩:=cC hck;have hb:=(ae _).1 o;have f:=zV (n:=ws.length) (p:=p+1) (by omega) (by omega) h1 h2 h3;have i:wd ws 17=0/\wd ws 18=0:=by rcases (cG _ _ _).1 m with h|h|h<;>omega
 have q:wd (aj ws (ir l (p+1))) 16=(if 32<=l.length then p else p+1)/\wd (aj ws (ir l (p+1))) 17=0/\wd (aj ws (ir l (p+1))) 18=0:=by
  by_cases h:32<=l.length
  .rw[cm h,if_pos h];have c:∀e∈l.take 31,19<=e.a:=λe d=>by have:=h2 e (kx0 d);omega
   rw[gK c (by omega),gK c (by omega),gK c (by omega)];exact⟨hp,i⟩
  rw[iE h,if_neg h,show (16:Int)=((16:Nat):Int) from rfl];have c:∀e∈l,19<=e.a:=λe d=>by have:=h2 e d;omega
  rw[ki (by omega) (λe d=>by have:=c e d;omega),pB (by omega) (by omega),pB (by omega) (by omega),gK c (by omega),gK c (by omega),dk (by omega),dk (by omega)];exact⟨rfl,i⟩
 obtain⟨k,g,j⟩:=q;have hle:(if 32<=l.length then p else p+1)<=3/\p<=(if 32<=l.length then p else p+1):=by split<;>omega
 refine⟨f,zJ (by rw[av];exact o) (kQ f r (by rw[k];omega) (by rw[g];omega) (by rw[j];omega)) ?_,⟨by rw[k,hp];omega,λ_=>by rw[g,j,i.1,i.2];exact⟨kqa _,kqa _⟩⟩,k,g,j⟩;rw[k,g,j,cG];rcases hp2 with rfl|rfl
 .right;right;split<;>omega
 by_cases h:32<=l.length
 .rw[if_pos h];right;right;omega
 rw[if_neg h];right;left;exact⟨rfl,rfl,.inl rfl⟩
theorem jf{f:Nat}(hck:aw ws=0)(hp:wd ws 16=3)(hf:lz f=true)(hfn:f<=ws.length)(hfw:wd ws 17<=f)(h0:l.length<=31)(h1:l.Pairwise (λa b=>a.a<b.a))(h2:∀e∈l,112<=e.a/\e.a<(ws.length:Int))(h3:∀e∈l,e.v<18446744073709551616):
 Small ws.length (⟨17,f⟩::l)/\cu (aj ws (⟨17,f⟩::l))=0/\onW ws (aj ws (⟨17,f⟩::l))/\wd (aj ws (⟨17,f⟩::l)) 16=3/\wd (aj ws (⟨17,f⟩::l)) 17=f/\wd (aj ws (⟨17,f⟩::l)) 18=0:=by
 obtain⟨-,o,q,n⟩:=cC hck;have hb:=(ae _).1 o;have hi:=(aT f).1 hf;have c:∀e∈l,19<=e.a:=λe d=>by have:=h2 e d;omega
 have i:wd ws 18=0:=by rcases (cG _ _ _).1 n with h|h|h<;>omega
 have g:Small ws.length (⟨17,f⟩::l):=by
  refine⟨by simp,by rw[kq1];omega,List.Pairwise.cons (λe d=>?_) h1,λe d=>?_,λe d=>?_⟩
  .have:=c e d;dsimp only;omega
  .rcases kqt.1 d with rfl|d
   .dsimp only;omega
   have:=h2 e d;omega
  rcases kqt.1 d with rfl|d
  .dsimp only;omega
  exact h3 e d
 have p:wd (aj ws (⟨17,f⟩::l)) 16=3/\wd (aj ws (⟨17,f⟩::l)) 17=f/\wd (aj ws (⟨17,f⟩::l)) 18=0:=by rw[show (17:Int)=((17:Nat):Int) from rfl];rw[pB (by omega) (by omega),ki (by omega) (λe d=>by have:=c e d;omega),pB (by omega) (by omega),gK c (by omega),gK c (by omega),dk (by omega),dk (by omega)];exact⟨hp,rfl,i⟩
 obtain⟨m,j,k⟩:=p;refine⟨g,zJ (by rw[av];exact o) (kQ g q (by rw[m];omega) (by rw[j];omega) (by rw[k];omega)) ?_,⟨by rw[m,hp];exact kqa _,λ_=>by rw[j,k,i];exact⟨hfw,kqa _⟩⟩,m,j,k⟩;rw[m,j,k,cG];right;left;exact⟨rfl,rfl,.inr hf⟩
theorem gz(hck:aw ws=0)(hp:wd ws 16=3):Small ws.length bN/\cu (aj ws bN)=0/\onW ws (aj ws bN)/\wd (aj ws bN) 16=4/\wd (aj ws bN) 17=128/\wd (aj ws bN) 18=128:=by
 obtain⟨-,g,j,hph⟩:=cC hck;have hb:=(ae _).1 g;have b:Small ws.length bN:=by
  refine⟨by decide,by decide,by unfold bN;simp,λe a=>?_,λe a=>?_⟩
  .unfold bN at a;simp only[kqt,kzb,or_false] at a;rcases a with rfl|rfl|rfl<;>(dsimp only;omega)
  unfold bN at a;simp only[kqt,kzb,or_false] at a;rcases a with rfl|rfl|rfl<;>(dsimp only;omega)
 have i:wd (aj ws bN) 16=4/\wd (aj ws bN) 17=128/\wd (aj ws bN) 18=128:=by
  unfold bN;rw[show (16:Int)=((16:Nat):Int) from rfl,show (17:Int)=((17:Nat):Int) from rfl,show (18:Int)=((18:Nat):Int) from rfl];rw[fC 16 _ _ (by omega),fC 17 _ _ (by rw[kq4];omega),fC 18 _ _ (by rw[kq4,kq4];omega)];simp only[aj];refine⟨?_,?_,?_⟩
  .rw[dk (by omega),dk (by omega)];unfold wd;rw[kz5 (by omega)];rfl
  .rw[dk (by omega)];unfold wd;rw[kz5 (by rw[kq4];omega)];rfl
  unfold wd;rw[kz5 (by rw[kq4,kq4];omega)];rfl
 obtain⟨c,d,f⟩:=i;refine⟨b,zJ (by rw[av];exact g) (kQ b j (by rw[c];omega) (by rw[d];omega) (by rw[f];omega)) (by rw[c,d,f];decide),⟨by rw[c,hp];omega,λh=>by rw[c,hp] at h;exact absurd h (by decide)⟩,c,d,f⟩
theorem nm{f t:Nat}(hck:aw ws=0)(hp:wd ws 16=4)(hf:lz f=true)(ht:lz t=true)(htf:t<=f)(hfn:f<=ws.length)(hfw:wd ws 17<=f)(htw:wd ws 18<=t)(h0:l.length<=30)(h1:l.Pairwise (λa b=>a.a<b.a))(h2:∀e∈l,112<=e.a/\e.a<(ws.length:Int))(h3:∀e∈l,e.v<18446744073709551616):
 Small ws.length (⟨17,f⟩::⟨18,t⟩::l)/\cu (aj ws (⟨17,f⟩::⟨18,t⟩::l))=0/\onW ws (aj ws (⟨17,f⟩::⟨18,t⟩::l))/\wd (aj ws (⟨17,f⟩::⟨18,t⟩::l)) 16=4/\wd (aj ws (⟨17,f⟩::⟨18,t⟩::l)) 17=f/\wd (aj ws (⟨17,f⟩::⟨18,t⟩::l)) 18=t:=by
 obtain⟨-,k,n,hph⟩:=cC hck;have hb:=(ae _).1 k;have hi:=(aT f).1 hf;have hj:=(aT t).1 ht;have d:∀e∈l,19<=e.a:=λe c=>by have:=h2 e c;omega
 have g:Small ws.length (⟨17,f⟩::⟨18,t⟩::l):=by
  refine⟨by simp,by rw[kq1,kq1];omega,List.Pairwise.cons (λe c=>?_) (List.Pairwise.cons (λe c=>?_) h1),λe c=>?_,λe c=>?_⟩
  .rcases kqt.1 c with rfl|c
   .dsimp only;omega
   have:=d e c;dsimp only;omega
  .have:=d e c;dsimp only;omega
  .rcases kqt.1 c with rfl|c
   .dsimp only;omega
   rcases kqt.1 c with rfl|c
   .dsimp only;omega
   have:=h2 e c;omega
  rcases kqt.1 c with rfl|c
  .dsimp only;omega
  rcases kqt.1 c with rfl|c
  .dsimp only;omega
  exact h3 e c
 have m:wd (aj ws (⟨17,f⟩::⟨18,t⟩::l)) 16=4/\wd (aj ws (⟨17,f⟩::⟨18,t⟩::l)) 17=f/\wd (aj ws (⟨17,f⟩::⟨18,t⟩::l)) 18=t:=by
  rw[show (17:Int)=((17:Nat):Int) from rfl,show (18:Int)=((18:Nat):Int) from rfl];rw[fC 17 _ _ (by omega),fC 18 _ _ (by rw[kq4];omega),gK d (by omega),gK d (by omega),gK d (by omega)];refine⟨?_,?_,?_⟩
  .rw[dk (by omega),dk (by omega)];exact hp
  .rw[dk (by omega)];unfold wd;rw[kz5 (by omega)];rfl
  unfold wd;rw[kz5 (by rw[kq4];omega)];rfl
 obtain⟨j,h,i⟩:=m;refine⟨g,zJ (by rw[av];exact k) (kQ g n (by rw[j];omega) (by rw[h];omega) (by rw[i];omega)) ?_,⟨by rw[j,hp];exact kqa _,λ_=>by rw[h,i];exact⟨hfw,htw⟩⟩,j,h,i⟩;rw[j,h,i,cG];left;exact⟨rfl,hf,ht,htf⟩
theorem mO{α:Type}{p q:α->Bool}:∀ {l:List α},(∀b∈l,q b=true->p b=true)->(l.filter q).length<=(l.filter p).length/\((∃b∈l,p b=true/\q b=false)->(l.filter q).length<(l.filter p).length):=by
 intro l
 induction l with
 | nil=>intro _;exact⟨kqa _,λ⟨b,d,_⟩=>by simp at d⟩
 | cons b l ih =>
  intro h;obtain⟨i1,j⟩:=ih (λc a=>h c (by simp[a]));have d:=h b (by simp);rw[kjg,kjg];refine⟨?_,λ⟨c,a,g,f⟩=>?_⟩
  .cases e:q b with
   | true=>rw[d e];simp;omega
   | false=>cases i:p b<;>simp<;>omega
  rcases kqt.1 a with rfl|a
  .rw[g,f];simp;omega
  have:=j ⟨c,a,g,f⟩;cases e:q b with
  | true=>rw[d e];simp;omega
  | false=>cases i:p b<;>simp<;>omega
theorem iH(h:aA ws=0)(hs:E.Sublist (aL ws)):Rm ws (aj ws E):=by
 have n:E.Pairwise (λa b=>a.a<b.a):=(dx h).sublist hs;refine⟨av _ _,λi=>?_⟩;by_cases g:∃e∈E,e.a=(i:Int)
 .obtain ⟨e,c,d⟩:=g;obtain⟨a,-,l,k,a3,o,m,rfl,-⟩:=dH h (hs.subset c);have f:a=i:=by dsimp only at d;omega
  subst f;refine .inr ⟨l,k,o,m,eQ ws (bkAt ws a),?_⟩;have:=dX E ws n _ c (by dsimp only;omega) (by dsimp only;omega);dsimp only at this;rw[kqi] at this;exact this
 exact .inl (aQ _ _ _ (λe c j=>g ⟨e,c,j⟩))
theorem tM(h:aA ws=0)(h32:32<=(aL ws).length):aA (aj ws ((aL ws).take 31))=0/\(aL (aj ws ((aL ws).take 31))).length<(aL ws).length:=by
 have c:((aL ws).take 31).Sublist (aL ws):=kjj _ _;have q:((aL ws).take 31).Pairwise (λa b=>a.a<b.a):=(dx h).sublist c;obtain⟨F,g2,K,g4,J⟩:=(iH h c).same h;refine⟨F,?_⟩;rw[d6 F,K,J,kz2,d6 h,kz2];rw[<-d6 h];obtain⟨x,v⟩:=xq (aj ws ((aL ws).take 31));rw[v];unfold lu;rw[List.filter_map,kz2];have g:=b8 (aC h).1;have y:∀b∈af ws,(∀e∈(aL ws).take 31,e.a≠b.at_)->(mkB x b).mark=b.mark:=by intro b t w;obtain⟨a,rfl,a1,a2,a3,a4⟩:=g.1 b t;show qm x (bkAt ws a).at_.toNat=_;rw[ab,kqi];unfold qm;rw[<-v,aQ _ _ _ (λe m=>by have:=w e m;rwa [ab] at this)];rfl
 refine (mO (λb t k=>?_)).2 ?_
 .dsimp only[Function.comp_apply] at k |-;cases u:eJ (seenL ws) b with
  | false=>rfl
  | true =>
   exfalso;have n:=y b t (λe m B=>by
    obtain⟨a,n,G,I,H,o,r,rfl,f⟩:=dH h (c.subset m);dsimp only at B;have:bkAt ws a=b:=by
     have z:=g.2;rw[kze] at z;obtain⟨i,C,l⟩:=kq2 n;obtain⟨j,D,E⟩:=kq2 t;have h3:(af ws)[i].at_=(af ws)[j].at_:=by rw[l,E,ab];exact B
     rcases kjz i j with s|s|s
     .have:=z i j C D s;omega
     .subst s;rw[<-l,<-E]
     have:=z j i D C s;omega
    rw[this,u] at f;cases f)
   unfold eJ at u k;rw[n] at k
   change (!(b.mark==((seenL ws)[b.at_.toNat]?.getD false)))=true at k
   rw[u] at k;exact absurd k (by decide)
 have p:0<((aL ws).take 31).length:=by rw[kq3];omega
 have m:=kqp p;obtain⟨a,n,G,I,H,o,r,l,f⟩:=dH h (c.subset m);refine⟨bkAt ws a,n,by rw[f];rfl,?_⟩;dsimp only[Function.comp_apply];have d:=dX _ ws q _ m (by rw[l];dsimp only;omega) (by rw[l];dsimp only;omega);rw[l] at d;dsimp only at d;rw[kqi,v] at d;unfold eJ;show (!((mkB x (bkAt ws a)).mark==((seenL ws)[(bkAt ws a).at_.toNat]?.getD false)))=false;have A:(mkB x (bkAt ws a)).mark=eQ ws (bkAt ws a):=by show qm x (bkAt ws a).at_.toNat=_;rw[ab,kqi];unfold qm;rw[d,(iC o r _).2.1]
 rw[A];unfold eQ;simp
structure Ev (ws xs:List Nat):Prop where
 len:xs.length=ws.length
 at_:∀i,(i%2=0/\96<=i\/96<=i/\i<128)->wd xs i=wd ws i
def nxB (xs:List Nat) (b:Bk):Bk:={ b with next:=wd xs (b.at_.toNat+1) }
section
variable {ws xs:List Nat}
theorem Ev.stands(h:Ev ws xs)(hi:i%2=0)(h96:96<=i):stands xs i=stands ws i:=by unfold Proofs.YtpcajamacpbjcaaGreat.stands;rw[h.at_ i (.inl ⟨hi,h96⟩),h.len]
theorem Ev.bkAt(h:Ev ws xs)(hi:i%2=0)(h96:96<=i):bkAt xs i=nxB xs (bkAt ws i):=by
 unfold nxB;have a:(Proofs.YtpcajamacpbjcaaGreat.bkAt ws i).at_.toNat=i:=by rw[ab,kqi]
 rw[a];unfold Proofs.YtpcajamacpbjcaaGreat.bkAt;rw[h.at_ i (.inl ⟨hi,h96⟩)]
theorem Ev.blocks(h:Ev ws xs):∀i l,blocks ws i=some l->i%2=0->96<=i->blocks xs i=some (l.map (nxB xs)):=by
 refine dJ (λi l=>i%2=0->96<=i->Proofs.YtpcajamacpbjcaaGreat.blocks xs i=some (l.map (nxB xs))) (λi c _ _=>?_) (λi l c e hb d a b=>?_)
 .exact aE (by rw[h.len];exact c)
 have hsz:=aG e;have d:=d (by omega) (by omega);have f:szAt xs i=szAt ws i:=by unfold szAt;rw[h.at_ i (.inl ⟨a,b⟩)]
 rw[aP (by rw[h.len];exact c) (by rw[h.stands a b];exact e),f,d,h.bkAt a b];rfl
theorem Gs(h:Ev ws xs)(hb:b.kind=1->tyA b+1<128):du xs (nxB xs b)=du ws b:=by
 by_cases a:b.kind=1
 .have c:=hb a;have d:96<=tyA b:=by unfold tyA;omega
  unfold du cK;show (b.kind != 1||(cw (wd xs (tyA b)) (wd xs (tyA b+1))&&b.size==((bZ (wd xs (tyA b)%256):Nat):Int)))=_;rw[h.at_ _ (.inr ⟨d,by omega⟩),h.at_ _ (.inr ⟨by omega,c⟩)]
 rw[eD a,eD (b:=nxB xs b) a]
theorem Ev.heap(h:Ev ws xs)(h0:ah ws=0):ah xs=0/\af xs=(af ws).map (nxB xs):=by obtain⟨e,l,c,d,g⟩:=ay h0;have f:=h.blocks 128 l c (by omega) (by omega);rw[g];refine fM (by rw[h.len];exact e) f ?_;rw[List.all_map,kzo];rw[kzo] at d;intro b a;show du xs (nxB xs b)=true;rw[Gs h (jy c (by omega) b a)];exact d b a
end
theorem fU:∀ {l:List Bk} {s:Int} {e:En},e∈aN l s->∃b∈l,b.kind=1/\e.a=b.at_+1:=by
 intro l
 induction l with
 | nil=>intro s e h;simp[aN] at h
 | cons x l ih =>
  intro s e h;simp only[aN,kzu] at h;rcases h with h|h
  .split at h
   .rename_i hx;rw[kqx] at h;subst h;exact⟨x,by simp,hx.1,rfl⟩
   simp at h
  obtain⟨b,d,c⟩:=ih h;exact⟨b,by simp[d],c⟩
theorem D8 :∀ {l:List Bk} {s:Int},l.Pairwise (λa b=>a.at_<b.at_)->(∀b∈l,0<=b.at_)->(∀b∈l,b.kind=1->wd xs (b.at_.toNat+1)=b.next\/∃e∈aN l s,e.a=b.at_+1/\wd xs (b.at_.toNat+1)=e.v) ->
 (aN (l.map (nxB xs)) s).length<=(aN l s).length/\((∃e∈aN l s,wd xs e.a.toNat=e.v)->(aN (l.map (nxB xs)) s).length<(aN l s).length):=by
 intro l
 induction l with
 | nil=>intro s _ _ _;exact⟨kqa _,λ⟨e,d,_⟩=>by simp[aN] at d⟩
 | cons b l ih =>
  intro s q w u;rw[kj7] at q;have i:∀c∈l,c.kind=1->wd xs (c.at_.toNat+1)=c.next\/∃e∈aN l (eU b s),e.a=c.at_+1/\wd xs (c.at_.toNat+1)=e.v:=by
   intro c g m;rcases u c (by simp[g]) m with k|⟨e,d,r,t⟩
   .exact .inl k
   simp only[aN,kzu] at d;rcases d with d|d
   .split at d
    .rw[kqx] at d;subst d;dsimp only at r;have:=q.1 c g;omega
    simp at d
   exact .inr ⟨e,d,r,t⟩
  obtain⟨i1,z⟩:=ih (s:=eU b s) q.2 (λc g=>w c (by simp[g])) i;have hb0:=w b (by simp);rw[kx9];simp only[aN];have x:eU (nxB xs b) s=eU b s:=rfl;have y:bu (nxB xs b) s=bu b s:=rfl;rw[x,y,kqs,kqs];have p:(nxB xs b).next=wd xs (b.at_.toNat+1):=rfl;have o:(nxB xs b).kind=b.kind:=rfl;have n:(nxB xs b).at_=b.at_:=rfl;have j:b.kind=1->wd xs (b.at_.toNat+1)=b.next\/wd xs (b.at_.toNat+1)=bu b s:=by
   intro m;rcases u b (by simp) m with k|⟨e,d,r,t⟩
   .exact .inl k
   simp only[aN,kzu] at d;rcases d with d|d
   .split at d
    .rw[kqx] at d;subst d;exact .inr t
    simp at d
   obtain⟨c,g,-,h4⟩:=fU d;have:=q.1 c g;omega
  have hle:(if (nxB xs b).kind=1/\(nxB xs b).next≠bu b s then [(⟨(nxB xs b).at_+1,bu b s⟩:En)] else []).length<=(if b.kind=1/\b.next≠bu b s then [(⟨b.at_+1,bu b s⟩:En)] else []).length:=by
   rw[p,o,n];by_cases m:b.kind=1
   .rcases j m with k|k
    .rw[k];exact kqa _
    rw[if_neg (λh=>h.2 k)];exact kqy _
   rw[if_neg (λh=>m h.1)];exact kqy _
  refine⟨by omega,λ⟨e,d,f⟩=>?_⟩;rcases kzu.1 d with d|d
  .split at d
   .rename_i g;rw[kqx] at d;subst d;dsimp only at f;have A:(b.at_+1).toNat=b.at_.toNat+1:=by omega
    rw[A] at f;rw[p,o,n,if_neg (λh=>h.2 f),if_pos g];simp only[kxk,kq1];omega
   simp at d
  have:=z ⟨e,d,f⟩;omega
noncomputable def stM (ws:List Nat):Nat:=if wd ws 16=1 then (aL ws).length+1 else if wd ws 16=2 then (aD ws).length+1 else ws.length+1-wd ws 17
theorem oA :∀k a,ws.length-a<=k->a<=ws.length->(kM ws a).1=0->kM ws a=(0,bN)\/∃m:Nat,128<=m/\a<=m/\m%2=0/\2<=szAt ws m/\szAt ws m%2=0/\m+szAt ws m<=ws.length/\dp ws (m:Int)=0/\kM ws a=(0,⟨17,m+szAt ws m⟩::cr ws (m:Int)):=by
 intro k
 induction k with
 | zero =>
  intro a n o h;by_cases b:a9 ws (a:Int)=0
  .obtain ⟨A,v,r,m,e,j,g,f,l,i,-⟩:=fu b;omega
  exact .inl (jZ b)
 | succ k ih =>
  intro a n o h;by_cases b:a9 ws (a:Int)=0
  .obtain ⟨A,v,r,m,e,j,g,f,l,i,-⟩:=fu b;by_cases d:bH ws (m:Int)=[]
   .have w:=kr b e d;rw[w] at h |-;rcases ih (m+szAt ws m) (by omega) (by omega) h with t|⟨q,x,q2,p,s,y,z,B,u⟩
    .exact .inl t
    exact .inr ⟨q,x,by omega,p,s,y,z,B,u⟩
   by_cases c:dp ws (m:Int)=0
   .exact .inr ⟨m,by omega,j,g,f,l,i,c,pe b e d c⟩
   rw[uc b e d c] at h;exact absurd h c
  exact .inl (jZ b)
theorem rt(h:ah x=0):aD x=aN (af x) 128:=by unfold aD;rw[if_pos h]
theorem nW(h:ah ws=0):(aD ws).Pairwise (λa b=>a.a<b.a)/\(∀e∈aD ws,128<=e.a/\e.a<(ws.length:Int))/\(∀e∈aD ws,e.v<18446744073709551616):=by
 have c:aD ws=aN (af ws) 128:=by unfold aD;rw[if_pos h]
 obtain⟨_,l,f,-,g⟩:=ay h;refine⟨?_,λe d=>?_,(tU h).2⟩
 .rw[c,g];exact xZ _ _ f 128
 rw[c,g] at d;have:=pK _ _ f 128 e d;omega
theorem E6(h:ah ws=0)(h32:32<=(aD ws).length):ah (aj ws ((aD ws).take 31))=0/\(aD (aj ws ((aD ws).take 31))).length<(aD ws).length:=by
 obtain⟨C,A,i3⟩:=nW h;have u:aD ws=aN (af ws) 128:=by unfold aD;rw[if_pos h]
 have d:=b8 h;have c:((aD ws).take 31).Sublist (aD ws):=kjj _ _;have g:((aD ws).take 31).Pairwise (λa b=>a.a<b.a):=C.sublist c;have k:∀e∈aD ws,∃a:Nat,e.a=((a+1:Nat):Int)/\a%2=0/\128<=a:=by intro e f;rw[u] at f;obtain⟨b,j,-,B⟩:=fU f;obtain⟨a,rfl,q,p,-⟩:=d.1 b j;exact⟨a,by rw[B,ab];rfl,p,q⟩
 have r:Ev ws (aj ws ((aD ws).take 31)):=by refine⟨av _ _,λi hi=>aQ _ _ _ λe f w=>?_⟩;obtain⟨a,o,q,p⟩:=k e (c.subset f);omega
 obtain⟨x,y⟩:=r.heap h;refine⟨x,?_⟩;have t:aD (aj ws ((aD ws).take 31))=aN ((af ws).map (nxB (aj ws ((aD ws).take 31)))) 128:=by rw[rt x,y]
 rw[t];have n:=D8 (xs:=aj ws ((aD ws).take 31)) (l:=af ws) (s:=128) d.2 (λb j=>by obtain⟨a,rfl,-⟩:=d.1 b j;rw[ab];omega) (λb j hk=>by
  obtain⟨a,rfl,q,p,a3,z⟩:=d.1 b j;have hsz:=aG z;rw[ab,kqi];by_cases v:∃e∈(aD ws).take 31,e.a=((a+1:Nat):Int)
  .obtain ⟨e,f,o⟩:=v;refine .inr ⟨e,by rw[<-u];exact c.subset f,by rw[o];omega,?_⟩;have:=dX _ ws g e f (by omega) (by omega);rw[o,kqi] at this;exact this
  exact .inl (by rw[aQ _ _ _ (λe f w=>v ⟨e,f,w⟩)];rfl))
 rw[<-u] at n;refine n.2 ?_;have m:0<((aD ws).take 31).length:=by rw[kq3];omega
 have f:=kqp m;have hin:=A _ (c.subset f);exact⟨_,c.subset f,dX _ ws g _ f (by omega) (by omega)⟩
theorem l8(ho:∀x∈ws,x<18446744073709551616)(h:(ag ws).1=0):aw ws=0/\Small ws.length (ag ws).2/\cu (aj ws (ag ws).2)=0/\onW ws (aj ws (ag ws).2)/\(wd (aj ws (ag ws).2) 16=wd ws 16->stM (aj ws (ag ws).2)<stM ws)/\(1<=wd ws 16/\wd ws 16<=4)/\wd (aj ws (ag ws).2) 16<=wd ws 16+1/\(wd ws 16=4->wd (aj ws (ag ws).2) 16=4):=by
 have c:aw ws=0:=by
  by_cases d:aw ws=0
  .exact d
  unfold ag at h;rw[if_neg d] at h;exact absurd h d
 obtain⟨-,hs,hl,O⟩:=cC c;have hb:=(ae _).1 hs;obtain⟨⟨l1,l2,l3⟩,-⟩:=(bq ws).1 hl;by_cases p:wd ws 16=1
 .have r:aA ws=0:=by
   by_cases d:aA ws=0
   .exact d
   unfold ag at h;rw[if_pos c,if_pos p,if_neg d] at h;exact absurd h d
  have e:ag ws=(0,ir (aL ws) 2):=by unfold ag;rw[if_pos c,if_pos p,if_pos r]
  rw[e];dsimp only;obtain⟨R,X⟩:=pn r;obtain⟨s,q,w,o,D,H⟩:=fA c p (.inl rfl) (dx r) (λx hx=>by
   obtain⟨i,U⟩:=kjt.1 hx;exact R i x U) (oO r)
  simp only[Nat.reduceAdd] at s q w o D H;refine⟨c,s,q,w,λg=>?_,by omega,by rw[o];split<;>omega,λg=>by omega⟩;have y:32<=(aL ws).length:=by
   rw[o] at g;split at g
   .assumption
   omega
  have hd:=(tM r y).2;rw[p] at g;unfold stM;rw[if_pos g,if_pos p,cm y];omega
 by_cases A:wd ws 16=2
 .have E:ah ws=0:=by
   by_cases d:ah ws=0
   .exact d
   unfold ag at h;rw[if_pos c,if_neg p,if_pos A,if_neg d] at h;exact absurd h d
  have e:ag ws=(0,ir (aD ws) 3):=by unfold ag;rw[if_pos c,if_neg p,if_pos A,if_pos E]
  rw[e];dsimp only;obtain⟨R,X,r3⟩:=nW E;obtain⟨s,q,w,o,D,H⟩:=fA c A (.inr rfl) R X r3;simp only[Nat.reduceAdd] at s q w o D H;refine⟨c,s,q,w,λg=>?_,by omega,by rw[o];split<;>omega,λg=>by omega⟩;have y:32<=(aD ws).length:=by
   rw[o] at g;split at g
   .assumption
   omega
  have hd:=(E6 E y).2;rw[A] at g;unfold stM;rw[if_neg (by omega),if_pos g,if_neg p,if_pos A,cm y];omega
 by_cases I:wd ws 16=3
 .have e:ag ws=sgFix ws:=by unfold ag;rw[if_pos c,if_neg p,if_neg A,if_pos I]
  rw[e] at h |-;have K:∀(f:Nat) (l:List En),sgFix ws=(0,⟨17,f⟩::l)->lz f=true->f<=ws.length->wd ws 17<f->l.length<=31->l.Pairwise (λa b=>a.a<b.a)->(∀e∈l,112<=e.a/\e.a<(ws.length:Int))->(∀e∈l,e.v<18446744073709551616) ->
   aw ws=0/\Small ws.length (sgFix ws).2/\cu (aj ws (sgFix ws).2)=0/\onW ws (aj ws (sgFix ws).2)/\(wd (aj ws (sgFix ws).2) 16=wd ws 16->stM (aj ws (sgFix ws).2)<stM ws)/\(1<=wd ws 16/\wd ws 16<=4)/\wd (aj ws (sgFix ws).2) 16<=wd ws 16+1/\(wd ws 16=4->wd (aj ws (sgFix ws).2) 16=4):=by
   intro f l B f1 f2 f3 f4 f5 f6 f7;rw[B];dsimp only;obtain⟨s,q,w,o,D,H⟩:=jf c I f1 f2 (by omega) f4 f5 f6 f7;refine⟨c,s,q,w,λg=>?_,by omega,by rw[o];omega,λg=>by omega⟩;unfold stM;rw[o,if_neg (by decide),if_neg (by decide),if_neg p,if_neg A,av,D];omega
  by_cases z:wd ws 17=0
  .have M:ei ws=0:=by
    by_cases d:ei ws=0
    .exact d
    unfold sgFix at h;rw[if_pos z,if_neg d] at h;exact absurd h d
   have B:sgFix ws=(0,⟨17,128⟩::dK ws):=by unfold sgFix;rw[if_pos z,if_pos M]
   obtain⟨-,-,-,-,-,-,-,Z,q2,q3,-⟩:=jE M;exact K 128 (dK ws) B (by decide) (by omega) (by omega) (by omega) q2 (λe C=>by have:=(Z e C).1;omega) (λe C=>(Z e C).2)
  have B:sgFix ws=kM ws (wd ws 17):=by unfold sgFix;rw[if_neg z]
  have h':(kM ws (wd ws 17)).1=0:=by rw[<-B];exact h
  rcases oA ws.length (wd ws 17) (by omega) l2 h' with L|⟨m,m1,m2,m3,m4,m5,Y,N,W⟩
  .rw[B,L];dsimp only;obtain⟨s,q,w,o,D,H⟩:=gz c I;exact⟨c,s,q,w,λg=>by rw[o] at g;omega,by omega,by rw[o];omega,λg=>by omega⟩
  obtain⟨f,-,-,-,-,q5,-,-,-,q9⟩:=iz N;have q6:=D5 N;exact K (m+szAt ws m) (cr ws (m:Int)) (by rw[B,W]) ((aT _).2 (by omega)) Y (by omega) (by omega) q9 (λe C=>by have:=q6 e C;omega) (λe C=>by have:=q6 e C;omega)
 by_cases Q:wd ws 16=4
 .have e:ag ws=sgSld ws:=by unfold ag;rw[if_pos c,if_neg p,if_neg A,if_neg I,if_pos Q]
  rw[e] at h |-;have G:a9 ws ((wd ws 17:Nat):Int)=0:=by
   by_cases d:a9 ws ((wd ws 17:Nat):Int)=0
   .exact d
   unfold sgSld at h;rw[if_neg d] at h;exact absurd h (by decide)
  obtain⟨-,a1,a2,m,em,m1,m2,m3,m4,m5,Y,N,W,-⟩:=fu G;have F:dA ws (m:Int) ((wd ws 18:Nat):Int)=0:=by
   by_cases d:dA ws (m:Int) ((wd ws 18:Nat):Int)=0
   .exact d
   unfold sgSld at h;rw[if_pos G,em,ab,if_neg d] at h;exact absurd h d
  have B:sgSld ws=(0,⟨17,m+szAt ws m⟩::⟨18,wd ws 18+szAt ws m⟩::jM ws m (wd ws 18)):=by unfold sgSld;rw[if_pos G,em,ab,if_pos F,bC,show ((m:Int)+((szAt ws m:Nat):Int)).toNat=m+szAt ws m by omega,show (((wd ws 18:Nat):Int)+((szAt ws m:Nat):Int)).toNat=wd ws 18+szAt ws m by omega];unfold iW;rw[if_pos F,kqi,kqi]
  obtain⟨a,u,n,T,V,en,n2,n10,hu,hua,han,hst,hlv,-,-,S⟩:=gj F;have T:a=m:=by omega
  have V:u=wd ws 18:=by omega
  subst T V;subst en;have P:=(cG _ _ _).1 O;have J:lz (wd ws 17)=true/\lz (wd ws 18)=true/\wd ws 18<=wd ws 17:=by
   rcases P with L|L|L
   .exact L.2
   .omega
   omega
  have i1:=(aT _).1 J.1;have i2:=(aT _).1 J.2.1;rw[B];dsimp only;obtain⟨s,q,w,o,D,H⟩:=nm (f:=a+szAt ws a) (t:=wd ws 18+szAt ws a) (l:=jM ws a (wd ws 18)) c Q ((aT _).2 (by omega)) ((aT _).2 (by omega)) (by omega) (by omega) (by omega) (by omega) (by rw[iP];omega) (by
   rw[kze];intro i j U hj hij;rw[ge,ge];omega) (λe C=>by
   obtain⟨k,hk,rfl⟩:=kq2 C;rw[ge];rw[iP] at hk;omega) (rR ho S)
  refine⟨c,s,q,w,λg=>?_,by omega,by rw[o];omega,λg=>o⟩;unfold stM;rw[o,if_neg (by decide),if_neg (by decide),if_neg p,if_neg A,av,D];omega
 have e:ag ws=(6,[]):=by unfold ag;rw[if_pos c,if_neg p,if_neg A,if_neg I,if_neg Q]
 rw[e] at h;exact absurd h (by decide)
noncomputable def og (p:Nat):Nat->List Nat->Int × List (List En) × List Nat
 | 0,x=>(0,[],x)
 | f+1,x=>if wd x 16=p then (if (ag x).1=6 then (0,[],x) else if (ag x).1=0 then
  (if (og p f (aj x (ag x).2)).1=0 then (0,(ag x).2::(og p f (aj x (ag x).2)).2.1,(og p f (aj x (ag x).2)).2.2) else ((og p f (aj x (ag x).2)).1,[],[]))
  else ((ag x).1,[],[])) else (0,[],x)
noncomputable def mzS (p:Nat) (x:List Nat):Nat:=if wd x 16=p then stM x+1 else 0
theorem dr(ho:∀x∈ws,x<18446744073709551616)(h:(ag ws).1=0):∀x∈aj ws (ag ws).2,x<18446744073709551616:=si _ _ ho (l8 ho h).2.1.val
theorem fG(ho:∀v∈x,v<18446744073709551616)(hp:wd x 16=p)(h:(ag x).1=0):mzS p (aj x (ag x).2)<mzS p x:=by
 unfold mzS;rw[if_pos hp];split
 .rename_i h1;have:=(l8 ho h).2.2.2.2.1 (by rw[h1,hp]);omega
 omega
theorem yC :∀ {f g:Nat} {x:List Nat},(∀v∈x,v<18446744073709551616)->mzS p x<=f->mzS p x<=g->og p f x=og p g x:=by
 have i:∀n,∀f g x,(∀v∈x,v<18446744073709551616)->mzS p x<=n->mzS p x<=f->mzS p x<=g->og p f x=og p g x:=by
  intro n
  induction n with
  | zero =>
   intro f g x b h e d;have a:¬ wd x 16=p:=λa=>by unfold mzS at h;rw[if_pos a] at h;omega
   cases f with
   | zero =>
    cases g with
    | zero=>rfl
    | succ g=>simp only[og];rw[if_neg a]
   | succ f =>
    cases g with
    | zero=>simp only[og];rw[if_neg a]
    | succ g=>simp only[og];rw[if_neg a,if_neg a]
  | succ n ih =>
   intro f g x b h e d;by_cases a:wd x 16=p
   .have h1:0<mzS p x:=by unfold mzS;rw[if_pos a];omega
    obtain⟨f,rfl⟩:∃f',f=f'+1:=⟨f-1,by omega⟩;obtain⟨g,rfl⟩:∃g',g=g'+1:=⟨g-1,by omega⟩;simp only[og];by_cases c:(ag x).1=0
    .have hd:=fG b a c;rw[ih f g (aj x (ag x).2) (dr b c) (by omega) (by omega) (by omega)]
    simp only[c,if_false]
   cases f with
   | zero =>
    cases g with
    | zero=>rfl
    | succ g=>simp only[og];rw[if_neg a]
   | succ f =>
    cases g with
    | zero=>simp only[og];rw[if_neg a]
    | succ g=>simp only[og];rw[if_neg a,if_neg a]
 intro f g x b e d;exact i _ f g x b (kqa _) e d
noncomputable def db (p:Nat) (x:List Nat):Int × List (List En) × List Nat:=og p (mzS p x) x
theorem cB(h:wd x 16≠p):db p x=(0,[],x):=by unfold db mzS;rw[if_neg h];rfl
theorem kT(hp:wd x 16=p)(h:(ag x).1=6):db p x=(0,[],x):=by unfold db mzS;rw[if_pos hp];simp only[og];rw[if_pos hp,if_pos h]
theorem pU(hp:wd x 16=p)(h:(ag x).1≠6)(h2:(ag x).1≠0):db p x=((ag x).1,[],[]):=by unfold db mzS;rw[if_pos hp];simp only[og];rw[if_pos hp,if_neg h,if_neg h2]
theorem dE(ho:∀v∈x,v<18446744073709551616)(hp:wd x 16=p)(h:(ag x).1=0):db p x=(if (db p (aj x (ag x).2)).1=0 then (0,(ag x).2::(db p (aj x (ag x).2)).2.1,(db p (aj x (ag x).2)).2.2) else ((db p (aj x (ag x).2)).1,[],[])):=by
 have hd:=fG ho hp h;have a:mzS p x=stM x+1:=by unfold mzS;rw[if_pos hp]
 have e:og p (stM x) (aj x (ag x).2)=db p (aj x (ag x).2):=yC (dr ho h) (by omega) (kqa _)
 conv=>lhs;unfold db
 rw[a];simp only[og];rw[if_pos hp,if_neg (by rw[h];decide),if_pos h,e]
end Go.Proofs.YtpcajamacpbjcaaGreat
