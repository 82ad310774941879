/- Texts laid together: SldM SldU CurP StgP RmkP MkPP SlP WnB StgQ StgD StgS. -/
import Derived.Test.YtpcajamacpbjcaaGreatZKMove
import Derived.WalkSpells
import Derived.Test.YtpcajamacpbjcaaGreatZKCursor
import Derived.Test.YtpcajamacpbjcaaGreatZKWnt
import Derived.Test.YtpcajamacpbjcaaGreatZKFix
import Derived.Test.YtpcajamacpbjcaaGreatZKHeap
set_option maxHeartbeats 16000000
set_option maxRecDepth 100000
set_option linter.all false
namespace Go.Proofs.YtpcajamacpbjcaaGreat
open Lib (hid)
open Go.RowKit
variable {b:Bk}{f t:Int}{E l:List En}{ws x xs:List Nat}{a i j m n p u v:Nat}
open Go.Proofs.Tryz
def fO (ws:List Nat) (a u n i:Nat):List En:=(List.range n).map λj=>if j<i then ⟨((u+j:Nat):Int),wd ws (a+j)⟩ else ⟨0,0⟩
def jt (ws:List Nat) (a u:Nat):List En:=(List.range (szAt ws a)).map λj=>⟨((u+j:Nat):Int),if j=0 then cg { ah (wd ws a) with mark:=false } else if j=1 then 0 else wd ws (a+j)⟩
def jO (ws:List Nat) (f t:Int):List En:=if eG ws f t=0 then jt ws f.toNat t.toNat else []
theorem pU{r:Int}(hr:eG ws f t=r)(h0:r≠0):jO ws f t=[]:=by subst hr;simp[jO,h0]
theorem fg(ws:List Nat)(a u n i:Nat):(fO ws a u n i).length=n:=by simp[fO]
theorem gw(ws:List Nat)(a u n i j:Nat)(hj:j<n):(fO ws a u n i)[j]? = some (if j<i then ⟨((u+j:Nat):Int),wd ws (a+j)⟩ else ⟨0,0⟩):=by simp[fO,hj]
theorem xd(ws:List Nat)(a u n i:Nat)(hi:i<n):fO ws a u n (i+1)=(fO ws a u n i).set i ⟨((u+i:Nat):Int),wd ws (a+i)⟩:=by
 apply kz7;intro j;rw[kz4];by_cases b:j<n
 .rw[gw _ _ _ _ _ _ b,gw _ _ _ _ _ _ b];by_cases e:i=j
  .subst e;rw[if_pos (show i<i+1 by omega),if_pos rfl,if_pos (show i<(fO ws a u n i).length by rw[fg];exact hi)]
  rw[if_neg e];by_cases h:j<i
  .rw[if_pos h,if_pos (by omega)]
  rw[if_neg h,if_neg (by omega)]
 rw[kzd (by rw[fg];omega),if_neg (by omega),kzd (by rw[fg];omega)]
theorem en_set(l:List En)(k:Nat)(x:En):(l.set k x).flatMap En.cells=((l.flatMap En.cells).set (k*2) (.int .i64 x.a)).set (k*2+1) (.int .u64 (x.v:Int)):=by
 have d:=eh En.cells 2 En.len l k 0 (by omega) ⟨x.a,(l[k]?.getD default).v⟩ (.int .i64 x.a) (λy b=>by rw[b];rfl);have c:=eh En.cells 2 En.len (l.set k ⟨x.a,(l[k]?.getD default).v⟩) k 1 (by omega) x (.int .u64 (x.v:Int)) (λy b=>by
  rw[kz4] at b;simp only[if_true] at b;split at b
  .cases b;rfl
  cases b)
 rw[List.set_set] at c;rw[c,d];rfl
theorem BY(l:List En)(k:Nat)(x:En)(v:Nat)(hk:l[k]? = some x):(l.set k ⟨x.a,v⟩).flatMap En.cells=(l.flatMap En.cells).set (k*2+1) (.int .u64 (v:Int)):=
 eh En.cells 2 En.len l k 1 (by omega) ⟨x.a,v⟩ (.int .u64 (v:Int)) (λy b=>by rw[hk] at b;cases b;rfl)
theorem FR(hn:szAt ws a=n)(h2:2<=n):jt ws a u=((fO ws a u n n).set 0 ⟨(u:Int),cg { ah (wd ws a) with mark:=false }⟩).set 1 ⟨((u+1:Nat):Int),0⟩:=by
 apply kz7;intro j;rw[kz4,kz4];unfold jt;rw[hn];by_cases b:j<n
 .rw[gw _ _ _ _ _ _ b,if_pos b];simp only[kzh,kxq b,kzk,kze,fg];by_cases d:j=0
  .subst d;simp[b]
  by_cases c:j=1
  .subst c;simp[b]
  rw[if_neg d,if_neg c,if_neg (λh=>c h.symm),if_neg (λh=>d h.symm)]
 rw[if_neg (by omega),if_neg (by omega),kzd (by simp;omega),kzd (by rw[fg];omega)]
theorem Ic(n:Nat):(madeCells #[Value.int .i64 0,.int .u64 0] (n*2)).toList=(List.replicate n (⟨0,0⟩:En)).flatMap En.cells:=by
 apply kz7;intro j;by_cases c:j<n*2
 .have d:j/2<(List.replicate n (⟨0,0⟩:En)).length:=by rw[kjk];omega
  have a:=ig En.cells 2 En.len (List.replicate n ⟨0,0⟩) (j/2) (j%2) d (by omega);rw[show j/2*2+j%2=j by omega,List.getElem_replicate] at a;rw[a];have b:(madeCells #[Value.int .i64 0,.int .u64 0] (n*2)).toList[j]? = some (#[Value.int .i64 0,.int .u64 0][j%2]!):=by simp[madeCells,c]
  rw[b];rcases (show j%2=0\/j%2=1 by omega) with h|h<;>rw[h]<;>rfl
 rw[kzd (by rw[kks,size_madeCells];omega),kzd (by rw[bE En.cells 2 En.len,kjk];omega)]
theorem xH(ws:List Nat)(a u n:Nat):fO ws a u n 0=List.replicate n ⟨0,0⟩:=by
 apply kz7;intro j;by_cases b:j<n
 .rw[gw _ _ _ _ _ _ b];simp[b]
 rw[kzd (by rw[fg];omega),kzd (by simp;omega)]
theorem qM(h:a9 ws f t=0){l:List Bk}(hl:blocks ws f.toNat=some l)(a:l=[]\/(gk l 0).mark=false):eG ws f t=6:=by
 unfold eG;rw[if_pos h,hl];cases l with
 | nil=>rfl
 | cons b l =>
  rcases a with a|a
  .cases a
  rw[mx] at a;simp[a]
theorem wT(h:a9 ws f t=0){l:List Bk}(hl:blocks ws f.toNat=some l)(h0:0<l.length)(h2:(gk l 0).mark=true):eG ws f t=0:=by
 unfold eG;rw[if_pos h,hl];cases l with
 | nil=>simp at h0
 | cons b l=>rw[mx] at h2;simp[h2]
theorem Cv(A:Option Addr)(ws:List Nat)(c n:Nat)(f t:Int)(w:World)(hn:ws.length=n)(hm:n<=9223372036854775807)(hf : -9223372036854775808<=f/\f<=9223372036854775807)(ht : -9223372036854775808<=t/\t<=9223372036854775807)(hr:RdW w w.heap.size A ws)(ho:∀x∈ws,x<18446744073709551616):
 Calls prog 146 #[.slice A n c,.int .i64 f,.int .i64 t] w λe w'=>io w.heap.size (eG ws f t) (jO ws f t) e w'/\Below w.heap.size w w':=by
 subst hn;have HR:=hid hr;have HO:=hid ho;have T:=hid (qb A ws c ws.length f t w rfl hm hf ht hr ho);unfold xy at T;have s:=hid (λW (h:RdW W W.heap.size A ws)=>lG A ws c ws.length f W rfl hm h ho);unfold pM at s;clear hr ho;by_cases z:a9 ws f t=0
 .obtain ⟨g1,g2,l,O,g4,g5⟩:=bT z;rw[eI] at g1;obtain⟨f1,f2⟩:=cj g1 (pG g2) O;rw[z] at T;rw[f1,f2] at s;obtain⟨q,hq⟩:=xq ((iE ws f t).length);rw[hq] at T;by_cases v:l.length=0
  .have N:=hid (qM z O (.inl (kx0 v)));rw[v] at s;clear g1 g2 O g4 g5 f1 f2 z hq v;go_enter func146,ntmps146;go_wp2_with fail;refine T.out.mono ?_;rintro e w1 ⟨⟨A1,c1,rfl,-,-⟩,g⟩;go_wp2_with fail;refine (s.out _ (HR.out.up g g.size)).mono ?_;rintro e w2 ⟨⟨A2,c2,rfl,-,-⟩,o⟩;go_wp2;go_ret2;exact⟨bu N.out (pU N.out (by omega)),g.trans (o.mono g.size)⟩
  have m:0<l.length:=by omega
  have hne:((l.length:Int)==0)=false:=by rw[kqi];omega
  have hnen:(l.length==0)=false:=by rw[kqi];exact v
  have hl1i:(0:Int)<(l.length:Int):=by omega
  cases j:(gk l 0).mark
  .have N:=hid (qM z O (.inr j));rw[bB l 0 m] at j;clear g1 g2 O g4 g5 f1 f2 z hq v;go_enter func146,ntmps146;go_wp2_with fail;refine T.out.mono ?_;rintro e w1 ⟨⟨A1,c1,rfl,-,-⟩,g⟩;go_wp2_with fail;refine (s.out _ (HR.out.up g g.size)).mono ?_;rintro e w2 ⟨⟨A2,c2,rfl,F,-⟩,o⟩;obtain⟨b,off,rfl,hb,q0,q1,q2,q3,q4,q5⟩:=RdB.at_ F m;rw[j] at q4;simp only[kvi,kxd] at q4;clear q0 q1 q2 q3 q5 F j;go_wp2;go_ret2;exact⟨bu N.out (pU N.out (by omega)),g.trans (o.mono g.size)⟩
  have S:=wT z O m j;obtain⟨a,u,n,rfl,rfl,Eq,n2,n10,hu,hua,han,Q,Js,-,-,Jq⟩:=fG S;rw[kqk] at O;have Y:=(bZ O (by omega)).2.1;have Jm:l[0]=bkAt ws a:=by rw[<-bB l 0 m,Y]
  have Jk:l[0].size=((n:Nat):Int):=by rw[Jm,aV,Eq]
  rw[bB l 0 m] at j;have Je:az (wd ws a)=true:=by unfold stands at Q;simp only[kqz] at Q;exact Q.1
  have Jd:fJ (wd ws a) false=cg { ah (wd ws a) with mark:=false }/\nT (wd ws a) false=0:=by unfold fJ nT;rw[if_pos Je,if_pos Je];have h1:iF (ge (wd ws a) false)=true:=Jq;exact⟨by unfold iX;rw[if_pos h1];rfl,ix h1⟩
  have K:=hid (λW=>oJ (wd ws a) false W (fd HO.out a));rw[Jd.1,Jd.2] at K;have Jb:=hid (FR (u:=u) Eq.symm n2);have D:Hid (eG ws (a:Int) (u:Int)=0/\jO ws (a:Int) (u:Int)=jt ws a u):=hid ⟨S,by simp[jO,S]⟩;obtain⟨I,Jj⟩:∃I,cg { ah (wd ws a) with mark:=false }=I:=⟨_,rfl⟩;rw[Jj] at K Jb;obtain⟨b0,Jn,Jc,Jy,p0⟩:=RdW.at_ HR.out (show a<ws.length by omega);subst Jc;rw[<-ce] at p0;have Ji:=fP ws g1;have hlen:ws.length<=2048:=Ji.2.1;have ha0:(0:Int)<=(a:Int):=by omega
  have ha1:(a:Int)<(ws.length:Int):=by omega
  have hn0:(0:Int)<=(n:Int):=by omega
  obtain⟨x,hx⟩:=xq (wd ws a);rw[hx] at p0 K;clear g1 g2 O g4 g5 f1 f2 z S hq v Y Jm Je Jd Jq Jj Q Js hx Ji hf ht Eq;obtain⟨i0,hi,Jf,Jr,Jh⟩:=kzt dp;have L:=hid (And.intro hi (And.intro Jf (And.intro Jr Jh)));clear hi Jf Jr Jh;go_enter func146,ntmps146;go_wp2_with fail;refine T.out.mono ?_;rintro e w1 ⟨⟨A1,c1,rfl,-,-⟩,g⟩;go_wp2_with fail;refine (s.out _ (HR.out.up g g.size)).mono ?_;rintro e w2 ⟨⟨A2,c2,rfl,F,-⟩,o⟩;have M:=g.trans (o.mono g.size);obtain⟨b,off,rfl,hb,q0,q1,q2,q3,q4,q5⟩:=RdB.at_ F m;rw[j] at q4;rw[Jk] at q1;simp only[kvi,kxd] at q4 q1;have p2:=(M.cell (p:=⟨b0,Jn+a,none⟩) Jy).trans p0;clear q0 q2 q3 q5 F j Jk;go_wp2_with fail;refine (K.out _).mono ?_;rintro e X ⟨rfl,Z⟩;have Ja:=M.trans (Z.mono M.size);have q1':=(Z.cell (p:=⟨b,off+1,none⟩) hb).trans q1;obtain⟨W0,j,B,Jg⟩:=run_make_full (P:=prog) X w.heap.size 26 89 i0 (.agg #[.int .i64 0,.int .u64 0]) 2 underlying26 L.out.1 L.out.2.1 L.out.2.2.1 .i64 .i64 n (by rw[L.out.2.2.2];omega) (by unfold maxLen;omega) Ja.size;have G:W0.ownsRow w.heap.size 89 2 (.slice (some ⟨X.heap.size,0,none⟩) n n) n ((fO ws a u n 0).flatMap En.cells):=by rw[xH,<-Ic];exact B
  have Jw:=hid G;have Jt:=hid (Ja.grown Jg Ja.size (λk hk=>by cases hk));clear B Jg G Z M o g q4 q1 p2;go_wp2_with fail;clear j q1';have Jz:Hid (∀i,i<n->fO ws a u n (i+1)=(fO ws a u n i).set i ⟨((u+i:Nat):Int),wd ws (a+i)⟩):=hid λi hi=>xd ws a u n i hi;have J:Hid (∀i,((fO ws a u n i).flatMap En.cells).length=n*2):=hid λi=>by rw[bE En.cells 2 En.len,fg]
  go_loopw [57] (λi wr=>∃k:Nat,k<=n/\i=.int .i64 k/\wr.ownsRow w.heap.size 89 2 (.slice (some ⟨X.heap.size,0,none⟩) n n) n ((fO ws a u n k).flatMap En.cells)/\Below w.heap.size w wr) (λi _=>n-(intOf i).toNat)
  case atStart=>exact⟨0,kqy _,rfl,Jw.out,Jt.out⟩
  obtain⟨k,hk,rfl,d,hB⟩:=hrel;have R:=lX d;by_cases Jv:k<n
  .obtain ⟨b0',off0',Jc,hb0',p0⟩:=RdW.at_ (Rd.below HR.out hB) (show a+k<ws.length by omega);cases Jc;rw[<-ce] at p0;have HS:=hid (Jz.out k Jv);obtain⟨y,hy⟩:=xq (wd ws (a+k));rw[hy] at p0 HS;obtain⟨u0,Jo⟩:∃u0,((fO ws a u n k).flatMap En.cells)[k*2]? = some u0:=⟨_,kqj (by rw[J.out];omega)⟩;obtain⟨u1,C⟩:∃u1,((fO ws a u n k).flatMap En.cells)[k*2+1]? = some u1:=⟨_,kqj (by rw[J.out];omega)⟩;have d0:=(d.cellAt (k*2) (by omega)).trans Jo;have d1:=(d.cellAt (k*2+1) (by omega)).trans C;have e0:=d.frozenAt (k*2);have e1:=d.frozenAt (k*2+1);have E:=hid d;have hk1:(k:Int)<(n:Int):=by omega
   have hk0:(0:Int)<=(k:Int):=by omega
   have hak:(a:Int)+(k:Int)<(ws.length:Int):=by omega
   have hak0:(0:Int)<=(a:Int)+(k:Int):=by omega
   have hakt:((a:Int)+(k:Int)).toNat=a+k:=by omega
   have hwa:IntKind.i64.wrap ((a:Int)+(k:Int))=(a:Int)+(k:Int):=kqr _ (by omega);have hwu:IntKind.i64.wrap ((u:Int)+(k:Int))=(u:Int)+(k:Int):=kqr _ (by omega);clear hy Jo C d;go_wp2;go_roundw
   case rel =>
    refine⟨k+1,by omega,by go_num,?_,(hB.setCell (p:=⟨X.heap.size,k*2,none⟩) R _).setCell (p:=⟨X.heap.size,k*2+1,none⟩) R _⟩;rw[HS.out,en_set];have h5:=(((E.out.stored (k*2) (.int .i64 ((u:Int)+(k:Int)))).1).stored (k*2+1) (.int .u64 (y:Int))).1;rw[show (((u+k:Nat)):Int)=(u:Int)+(k:Int) by omega];exact h5
   case measure=>simp[intOf];omega
  obtain rfl:k=n:=by omega
  have g0:(fO ws a u k k)[0]? = some ⟨((u+0:Nat):Int),wd ws (a+0)⟩:=by rw[gw _ _ _ _ _ _ (by omega),if_pos (by omega)]
  obtain⟨u1,C⟩:∃u1,((fO ws a u k k).flatMap En.cells)[1]? = some u1:=⟨_,kqj (by rw[J.out];omega)⟩;obtain⟨u3,Jp⟩:∃u3,((fO ws a u k k).flatMap En.cells)[3]? = some u3:=⟨_,kqj (by rw[J.out];omega)⟩;have d1:=(d.cellAt 1 (by omega)).trans C;have d3:=(d.cellAt 3 (by omega)).trans Jp;have e1:=d.frozenAt 1;have e3:=d.frozenAt 3;have hn1i:(1:Int)<(k:Int):=by omega
  have hn0i:(0:Int)<(k:Int):=by omega
  have U:(((fO ws a u k k).set 0 ⟨(u:Int),I⟩).set 1 ⟨((u+1:Nat):Int),0⟩).flatMap En.cells=(((fO ws a u k k).flatMap En.cells).set 1 (.int .u64 (I:Int))).set 3 (.int .u64 0):=by rw[BY ((fO ws a u k k).set 0 ⟨(u:Int),I⟩) 1 ⟨((u+1:Nat):Int),wd ws (a+1)⟩ 0 (by rw[kz4,if_neg (by omega),gw _ _ _ _ _ _ (by omega),if_pos (by omega)])];rw[show (⟨(u:Int),I⟩:En)=⟨(⟨((u+0:Nat):Int),wd ws (a+0)⟩:En).a,I⟩ from rfl,BY _ 0 _ I g0];rfl
  have Jl:=hid U;have E:=hid d;have H:(jt ws a u).length=k:=by rw[Jb.out,kze,kze,fg]
  have V:=hid H;clear g0 C Jp U d H;go_wp2;go_ret2;have h5:=(((E.out.stored 1 (.int .u64 (I:Int))).1).stored 3 (.int .u64 0)).1;rw[<-Jl.out,<-Jb.out] at h5;refine⟨⟨some ⟨X.heap.size,0,none⟩,k,by rw[D.out.1,D.out.2,V.out];rfl,?_⟩,(hB.setCell (p:=⟨X.heap.size,1,none⟩) R _).setCell (p:=⟨X.heap.size,3,none⟩) R _⟩;rw[D.out.2,V.out];exact h5
 have N:=hid (show eG ws f t=a9 ws f t by unfold eG;rw[if_neg z]);have Ju:(a9 ws f t != 0)=true:=by rw[kqt];exact z
 have H0:=hid z;obtain⟨r,hr⟩:=xq (a9 ws f t);obtain⟨q,hq⟩:=xq ((iE ws f t).length);rw[hr,hq] at T;rw[hr] at Ju N H0;clear z hr hq;go_enter func146,ntmps146;go_wp2_with fail;refine T.out.mono ?_;rintro e w1 ⟨⟨A1,c1,rfl,-,-⟩,g⟩;go_wp2;go_ret2;exact⟨bu N.out (pU N.out H0.out),g⟩
theorem FF(A:Option Addr)(ws:List Nat)(c n H:Nat)(w:World)(hn:ws.length=n)(h0:0<n)(hm:n<=1000000)(hr:RdW w H A ws)(hH:H<=w.heap.size):
 Calls prog 70 #[.slice A n c] w λe w'=>CY w ws e w':=by have y:=hid (hr.more hH);have o:=hid hn;have s:=hid (iS ws);obtain⟨b,h,rfl,B,-⟩:=RdW.at_ hr (show 0<ws.length by omega);have f:=λ(W:World)=>Lib.run_eql_slice_nil (P:=prog) (w:=W) 22 53 (some ⟨b,h,none⟩) n c 0 0 underlying22;simp only[kk3] at f;clear hr hH hn B;obtain⟨v,u,d,k,j⟩:=kzt me;have z:=hid u;have r:=hid d;have p:=hid k;have q:=hid j;clear u d k j;go_enter func70,ntmps70;go_wp2_with (at_builtin;refine aS _ (by rfl) _ _ 22 rfl w.heap.size 53 v _ 1 8 underlying22 z.out r.out p.out q.out rfl (by decide) (.slice (some ⟨w.heap.size,0,none⟩) 0 0) 0 [] (by rfl) (dE w _ _ _ (kqg _)) w.heap.size (some ⟨b,h,none⟩) n _ (ws.flatMap ai) (by rfl) (by rw[s.out,o.out];omega) (Rd.alloc y.out (kqg _) _) (cG l6 _) (by unfold maxLen;omega) (by omega) (by simp) ?_;intro v1 wa a m;have i:=bv ((kql w.heap.size w).alloc (kqg _) _) (by simp) (dE w w.heap.size 53 1 (kqg _)) m;simp only[kxm,kz5] at a;obtain⟨g,x,rfl⟩:=kA a (by omega);have l:=hid a;have t:=hid i;clear a i m);go_ret;exact⟨g,x,by rw[o.out];rfl,by rw[o.out];exact l.out,t.out⟩
def OwnV (w:World) (xs:List Nat) (e:Ending) (w':World):Prop:=∃g c,e=.returned (.tuple #[.slice (some ⟨g,0,none⟩) xs.length c,.int .i64 0])/\w'.ownsRow w.heap.size 53 1 (.slice (some ⟨g,0,none⟩) xs.length c) xs.length (xs.flatMap ai)/\Below w.heap.size w w'
theorem A0(A B:Option Addr)(ws:List Nat)(E:List En)(c d n m H:Nat)(w:World)(hn:ws.length=n)(hm:E.length=m)(hs:al (n:Int)=true)(hm2:m<=32)(hE:∀e∈E,0<=e.a/\e.a<(n:Int))(hr:RdW w H A ws)(he:RdE w H B E)(hH:H<=w.heap.size):
 Calls prog 53 #[.slice A n c,.slice B m d] w λe w'=>OwnV w (ak ws E) e w':=by
 subst hm;obtain⟨b1,b2,-⟩:=(ac _).1 hs;have Z:=hid (aW hs);have Y:=hid (hr.more hH);have V:=hid (he.more hH);have HN:=hid hn;have r:Hid (∀k,(ak ws (E.take k)).length=n):=hid λk=>by rw[aD,hn]
 have D:Hid (∀k (h:k<E.length),0<=E[k].a/\E[k].a<(n:Int)):=hid λk h=>hE _ (kqm h);have G:Hid (∀k (h:k<E.length),ak ws (E.take (k+1))=(ak ws (E.take k)).set E[k].a.toNat E[k].v):=hid λk h=>by rw[Ab h,hn,if_pos (hE _ (kqm h))]
 have q:=hid (λW (h:RdW W W.heap.size A ws)=>FF A ws c n W.heap.size W hn (by omega) (by omega) h (kqg _));unfold CY at q;rw[hn] at q;have h32:decide ((32:Int)<(E.length:Int))=false:=by rw[kqh];omega
 clear hr he hH hn hE hs;go_enter func53,ntmps53;go_wp2_with fail;refine (aF A n c w (by omega)).mono ?_;rintro e w1 ⟨rfl,rfl⟩;rw[Z.out];go_wp2_with fail;refine (q.out _ Y.out).mono ?_;rintro e w2 ⟨g,Q,rfl,f,s⟩;have y:=hid f;have O:=hid s;clear f s;go_wp2_with fail;go_loopw [22] (λi wr=>∃k:Nat,k<=E.length/\i=.int .i64 k/\wr.ownsRow w.heap.size 53 1 (.slice (some ⟨g,0,none⟩) n Q) n ((ak ws (E.take k)).flatMap ai)/\Below w.heap.size w wr) (λi _=>E.length-(intOf i).toNat)
 case atStart=>exact⟨0,kqy _,rfl,y.out,O.out⟩
 obtain⟨k,hk,rfl,f,z⟩:=hrel;have hz:=z.size;have J:=lX f;by_cases o:k<E.length
 .obtain ⟨b,off,rfl,hb,T,R⟩:=RdE.at_ (Rd.below V.out z) o;have t:=hid (G.out k o);obtain⟨F,U⟩:=D.out k o;obtain⟨x,P⟩:=xq (E[k]);rw[P] at T R t F U;obtain⟨xa,N⟩:=x;dsimp only at T R t F U;obtain⟨a,rfl⟩:=kq5 F;rw[kqk] at t;have hk1:(k:Int)<(E.length:Int):=by omega
  have hk0:(0:Int)<=(k:Int):=by omega
  obtain⟨j,l⟩:=xq (ak ws (E.take k));have L:=r.out k;rw[l] at t f L;have I:=(f.cellAt a (by omega)).trans (mu j a (by omega));have X:=f.frozenAt a;obtain⟨u,S⟩:∃u,((j[a]'(by omega):Nat):Int)=u:=⟨_,rfl⟩;rw[S] at I;have K:g<wr.heap.size:=(f.lt g rfl).2;have c0':=(kq4 wr (.cells #[.int .i64 (a:Int),.int .u64 (N:Int)] 89) ⟨g,a,none⟩ K).trans I;have HO:=hid (f.alloc (.cells #[.int .i64 (a:Int),.int .u64 (N:Int)] 89));have f0':=HO.out.frozenAt a;have C:=hid f;clear P S f l I X;go_wp2;go_roundw
  case rel =>
   refine⟨k+1,by omega,by go_num,?_,(z.setCell (p:=⟨g,a,none⟩) J _).alloc (by rw[kxw];exact hz) _⟩;rw[t.out,jV];exact (C.out.stored a (.int .u64 (N:Int))).1.alloc _
  case measure=>simp[intOf];omega
 rw[kzg (by omega)] at f;have M:=r.out E.length;rw[kz2] at M;go_wp2;go_ret2;exact⟨g,Q,by rw[M];rfl,by rw[M];exact f,z⟩
theorem oV(l:List Bk):(∃k,k<l.length/\ep l k/\(gk l k).mark=true)\/ep l l.length:=by
 have a:∀n,n<=l.length->(∃k,k<l.length/\ep l k/\(gk l k).mark=true)\/ep l n:=by
  intro n
  induction n with
  | zero=>intro _;exact .inr (mH l)
  | succ n ih =>
   intro hn;rcases ih (by omega) with h|h
   .exact .inl h
   cases b:(gk l n).mark with
   | true=>exact .inl ⟨n,by omega,h,b⟩
   | false=>exact .inr (nc h b)
 exact a l.length (kqg _)
theorem sb(a b:List Bk):dG (a++b)=dG a++dG b:=by unfold dG;rw[kjl,kxa]
theorem qr{l:List Bk}:∀ {k},k<=l.length->ep l k->dG (l.take k)=[]:=by
 intro k
 induction k with
 | zero=>intro _ _;rfl
 | succ k ih =>
  intro hk h;have a:k<l.length:=by omega
  rw[rE a,ih (by omega) (λj hj=>h j (by omega))];have:=h k (by omega);rw[bB l k a] at this;simp[this]
theorem yW(b:Bk)(l:List Bk):(dG (b::l)).length=(if b.mark=true then 1 else 0)+(dG l).length:=by
 unfold dG;cases h:b.mark
 .simp[h]
 simp[h];omega
theorem mG(hs:al (ws.length:Int)=true){l:List Bk}(h1:128<=a)(h2:a<=ws.length)(h3:a%2=0)(hb:blocks ws a=some l)(hm:0<(dG l).length):
 ∃(m z:Nat) (l':List Bk),be ws (a:Int)=0/\(iC ws (a:Int)).at_=(m:Int)/\(iC ws (a:Int)).size=(z:Int)/\a<=m/\2<=z/\m+z<=ws.length/\(m+z)%2=0/\blocks ws (m+z)=some l'/\(dG l').length+1=(dG l).length:=by
 have c:eP ws.length (a:Int)=false:=by simp only[eP,kzw,kqh,kqq];omega
 obtain⟨p,t⟩:=cj (a:=(a:Int)) hs c (by rw[kqk];exact hb);rcases oV l with⟨k,f,d,b⟩|d
 .obtain ⟨g,o⟩:=tB p t f d b;obtain⟨m,i,f2,s,q,r,n⟩:=bH _ _ hb h3 k f;have j:=aC r;rw[bB l k f] at g b;have h:=bZ n q;refine⟨m,szAt ws m,l.drop (k+1),o,by rw[g,i];rfl,by rw[g,i];rfl,s,j.1,j.2.2,by omega,?_,?_⟩
  .rw[h.2.2.2,kxz]
  have e:l=l.take k++(l[k]::l.drop (k+1)):=by rw[<-kjh f,kxo]
  have:(dG l).length=(dG (l.take k++(l[k]::l.drop (k+1)))).length:=by rw[<-e]
  rw[this,sb,kqw,qr (by omega) d,yW,b];simp;omega
 have:=qr (kqg _) d;rw[kz2] at this;rw[this] at hm;simp at hm
theorem v6(h:av ws=0)(hp:¬ wd ws 16<3):al (ws.length:Int)=true/\(wd ws 16=3\/wd ws 16=4)/\∃a:Nat,fR ws=(a:Int)/\128<=a/\a<=ws.length/\a%2=0/\∃l,blocks ws a=some l/\lfN ws=(dG l).length:=by
 have t:=kv h;obtain⟨D,E⟩:=gz t;obtain⟨n,F,I⟩:=fv D;obtain⟨⟨l0,r,l2⟩,-⟩:=(bj ws).1 F;have hbd:=fP ws n;have B:=yC h hp;have d:∀a:Nat,fR ws=(a:Int)->128<=a->a<=ws.length->a%2=0->∀l,blocks ws a=some l->∃a:Nat,fR ws=(a:Int)/\128<=a/\a<=ws.length/\a%2=0/\∃l,blocks ws a=some l/\lfN ws=(dG l).length:=by
  intro a u H L K l g;refine⟨a,u,H,L,K,l,g,?_⟩;have i:eP ws.length (a:Int)=false:=by simp only[eP,kzw,kqh,kqq];omega
  rw[B,u,(cj (a:=(a:Int)) n i (by rw[kqk];exact g)).2]
 rcases (cq _ _ _).1 I with⟨x,y,z,i3⟩|⟨q,y,z⟩|⟨J,-⟩
 .refine ⟨n,.inr x,?_⟩;have e:=(aQ _).1 y;have p:a9 ws (wd ws 17:Nat) (wd ws 18:Nat)=0:=by
   unfold av at h;rw[if_pos t,if_pos x] at h;split at h
   .exact h
   simp at h
  obtain⟨-,-,l,g,-⟩:=bT p;rw[kqk] at g;exact d (wd ws 17) (by unfold fR;rw[if_neg (by omega)]) e.1 r e.2.2 l g
 .refine ⟨n,.inl q,?_⟩;have p:a9 ws 128 128=0:=by unfold av at h;rwa [if_pos t,if_neg (by omega),if_pos q] at h
  obtain⟨-,-,l,g,-⟩:=bT p;have f:blocks ws 128=some l:=g;by_cases v:wd ws 17=0
  .exact d 128 (by unfold fR;rw[if_pos (by omega)];rfl) (by omega) (by omega) (by omega) l f
  have e:=(aQ _).1 (z.resolve_left v);have j:fR ws=((wd ws 17:Nat):Int):=by unfold fR;rw[if_neg (by omega)]
  have c:=E q v;unfold oU at c;rw[f] at c;have c:(l.any (λb=>b.at_==((wd ws 17:Nat):Int))||wd ws 17==ws.length)=true:=c;rw[kx7,kx1] at c;rcases c with⟨b,A,o⟩|o
  .obtain ⟨k,C,rfl⟩:=kqu A;obtain⟨m,G,f2,f3,f4,f5,w⟩:=bH _ _ f (by omega) k C;rw[kqx,G] at o;have s:m=wd ws 17:=by have:((m:Nat):Int)=((wd ws 17:Nat):Int):=o;omega
   rw[s] at w;exact d (wd ws 17) j e.1 r e.2.2 _ w
  rw[kqx] at o;exact d (wd ws 17) j e.1 r e.2.2 [] (ay (by omega))
 exact absurd J hp
def phE (p f t:Nat):List En:=[⟨16,p⟩,⟨17,f⟩,⟨18,t⟩]
theorem fj(j v:Nat)(l:List En)(h:j<ws.length):ak ws (⟨(j:Int),v⟩::l)=ak (ws.set j v) l:=by simp only[ak];rw[if_pos (by omega),kqk]
def gN (l:List En) (p:Nat):List En:=if 32<=l.length then l.take 31 else ⟨16,p⟩::l
def bK:List En:=[⟨16,4⟩,⟨17,128⟩,⟨18,128⟩]
theorem eW(h:be ws (a:Int)=0):al (ws.length:Int)=true/\128<=a/\a%2=0/\∃m:Nat,iC ws (a:Int)=bkAt ws m/\a<=m/\m%2=0/\2<=szAt ws m/\szAt ws m%2=0/\m+szAt ws m<=ws.length/\stands ws m=true/\(bkAt ws m).mark=true/\(bkAt ws m).kind=1/\∃l,blocks ws a=some l/\bU ws (a:Int)=0/\aO ws (a:Int)=l/\∃k,k<l.length/\ep l k/\blocks ws m=some (l.drop k):=by
 have d:bU ws (a:Int)=0:=by
  by_cases n:bU ws (a:Int)=0
  .exact n
  rw[(uQ rfl n).2] at h;exact absurd h n
 have i:al (ws.length:Int)=true:=by
  cases p:al (ws.length:Int) with
  | true=>rfl
  | false=>rw[eZ p] at d;cases d
 have c:eP ws.length (a:Int)=false:=by
  cases p:eP ws.length (a:Int) with
  | false=>rfl
  | true=>rw[iW i p] at d;cases d
 have ha:=mn c;cases o:blocks ws a with
 | none=>rw[dV i c (by rw[kqk];exact o)] at d;cases d
 | some l =>
  have f:=cj (a:=(a:Int)) i c (l:=l) (by rw[kqk];exact o);rcases oV l with⟨k,g,j,e⟩|j
  .obtain ⟨r,-⟩:=tB d f.2 g j e;obtain⟨m,s,v,w,f4,t,u⟩:=bH _ _ o (by omega) k g;have q:=aC t;have b:=G0 d (k:=k) (by rw[f.2];exact g);rw[f.2] at b;rw[bB l k g] at r e b;rw[s] at e b;rw[e] at b;simp only[kvo,kvp,kqx] at b;exact⟨i,by omega,by omega,m,by rw[r,s],w,v,q.1,q.2.1,q.2.2,t,e,b,l,rfl,d,f.2,k,g,j,u⟩
  rw[(zu d f.2 j).2] at h;cases h
def Ea (ws:List Nat):Nat->Nat->Int × List En
 | 0,_=>(0,bK)
 | f+1,a=>if be ws (a:Int)=0 then (if bI ws (iC ws (a:Int)).at_=[] then Ea ws f ((iC ws (a:Int)).at_+(iC ws (a:Int)).size).toNat
  else if dw ws (iC ws (a:Int)).at_=0 then (0,⟨17,((iC ws (a:Int)).at_+(iC ws (a:Int)).size).toNat⟩::cw ws (iC ws (a:Int)).at_)
  else (dw ws (iC ws (a:Int)).at_,[])) else (0,bK)
theorem z5 :∀ {f a g:Nat},ws.length-a<f->ws.length-a<g->Ea ws f a=Ea ws g a:=by
 intro f
 induction f with
 | zero=>intro a g h;omega
 | succ f ih =>
  intro a g h hg;cases g with
  | zero=>omega
  | succ g =>
   simp only[Ea];by_cases b:be ws (a:Int)=0
   .obtain ⟨hs,a1,a2,m,e,m1,m2,m3,m4,m5,-⟩:=eW b;have d:((iC ws (a:Int)).at_+(iC ws (a:Int)).size).toNat=m+szAt ws m:=by rw[e,ab,aV];omega
    rw[if_pos b,if_pos b,d];by_cases c:bI ws (iC ws (a:Int)).at_=[]
    .rw[if_pos c,if_pos c];exact ih (by omega) (by omega)
    rw[if_neg c,if_neg c]
   rw[if_neg b,if_neg b]
def kM (ws:List Nat) (a:Nat):Int × List En:=Ea ws (ws.length+1) a
theorem jM(h:be ws (a:Int)≠0):kM ws a=(0,bK):=by unfold kM;rw[Ea,if_neg h]
theorem jT(h:be ws (a:Int)=0)(e:iC ws (a:Int)=bkAt ws m)(h2:bI ws (m:Int)=[]):kM ws a=kM ws (m+szAt ws m):=by
 obtain⟨hs,a1,a2,b,d,m1,m2,m3,m4,m5,-⟩:=eW h;have c:b=m:=by have:=congrArg Bk.at_ (e.symm.trans d);rw[ab,ab] at this;omega
 subst c;unfold kM;rw[Ea,if_pos h,e,ab,if_pos h2,aV,show (((b:Int)+((szAt ws b:Nat):Int)).toNat)=b+szAt ws b by omega];exact z5 (by omega) (by omega)
theorem uy(h:be ws (a:Int)=0)(e:iC ws (a:Int)=bkAt ws m)(h2:bI ws (m:Int)≠[])(h3:dw ws (m:Int)≠0):kM ws a=(dw ws (m:Int),[]):=by unfold kM;rw[Ea,if_pos h,e,ab,if_neg h2,if_neg h3]
theorem pI(h:be ws (a:Int)=0)(e:iC ws (a:Int)=bkAt ws m)(h2:bI ws (m:Int)≠[])(h3:dw ws (m:Int)=0):kM ws a=(0,⟨17,m+szAt ws m⟩::cw ws (m:Int)):=by unfold kM;rw[Ea,if_pos h,e,ab,if_neg h2,if_pos h3,aV,show (((m:Int)+((szAt ws m:Nat):Int)).toNat)=m+szAt ws m by omega]
def cZ (ws:List Nat):Int × List En:=if wd ws 17=0 then (if eE ws=0 then (0,⟨17,128⟩::dK ws) else (eE ws,[])) else kM ws (wd ws 17)
def ey (ws:List Nat):Int × List En:=if be ws ((wd ws 17:Nat):Int)=0 then
 (if eG ws (iC ws ((wd ws 17:Nat):Int)).at_ ((wd ws 18:Nat):Int)=0 then (0,⟨17,((iC ws ((wd ws 17:Nat):Int)).at_+(iC ws ((wd ws 17:Nat):Int)).size).toNat⟩::⟨18,(((wd ws 18:Nat):Int)+(iC ws ((wd ws 17:Nat):Int)).size).toNat⟩::jO ws (iC ws ((wd ws 17:Nat):Int)).at_ ((wd ws 18:Nat):Int))
 else (eG ws (iC ws ((wd ws 17:Nat):Int)).at_ ((wd ws 18:Nat):Int),[])) else (6,[])
noncomputable def ae (ws:List Nat):Int × List En:=if av ws=0 then
 (if wd ws 16=1 then (if ax ws=0 then (0,gN (aM ws) 2) else (ax ws,[]))
 else if wd ws 16=2 then (if af ws=0 then (0,gN (aH ws) 3) else (af ws,[]))
 else if wd ws 16=3 then cZ ws
 else if wd ws 16=4 then ey ws else (6,[])) else (av ws,[])
theorem b9(h:32<=l.length):gN l p=l.take 31:=by unfold gN;rw[if_pos h]
theorem ip(h:¬ 32<=l.length):gN l p=⟨16,p⟩::l:=by unfold gN;rw[if_neg h]
theorem iy{x:Nat}(h:az x=true)(hk:(ah x).kind=1)(m:Bool):az (fJ x m)=true/\ah (fJ x m)={ ah x with mark:=m }/\nT x m=0/\fJ x m<18446744073709551616:=by
 have e:iF (ah x)=true:=by unfold az at h;simp only[kqz] at h;exact h.1
 have a:iF (ge x m)=true:=by
  have d:=(bn _).1 e;rw[bn];unfold ge;dsimp only;refine⟨d.1,.inl ?_⟩;rcases d.2 with b|b
  .exact b
  rw[hk] at b;exact absurd b.1 (by decide)
 have c:fJ x m=cg (ge x m):=by unfold fJ iX;rw[if_pos h,if_pos a]
 refine⟨by rw[c];exact jn a,?_,by unfold nT;rw[if_pos h];exact ix a,by rw[c];exact pN a⟩;rw[c,jf a];rfl
theorem nn{x:Nat}(h:az x=true):2048<x:=by unfold az at h;simp only[kqz] at h;have b:=(bn _).1 h.1;have a:(ah x).size=((x/65536%65536:Nat):Int):=rfl;rw[a] at b;omega
structure Rm (ws xs:List Nat):Prop where
 len:xs.length=ws.length
 at_:∀i,wd xs i=wd ws i\/(128<=i/\i%2=0/\az (wd ws i)=true/\(ah (wd ws i)).kind=1/\∃m,wd xs i=fJ (wd ws i) m)
section
variable {ws xs:List Nat}
theorem Rm.low(h:Rm ws xs)(hi:i<128):wd xs i=wd ws i:=by
 rcases h.at_ i with a|a
 .exact a
 omega
theorem Rm.odd(h:Rm ws xs)(hi:i%2=1):wd xs i=wd ws i:=by
 rcases h.at_ i with a|a
 .exact a
 omega
theorem Rm.sp(h:Rm ws xs)(i:Nat):az (wd xs i)=az (wd ws i):=by
 rcases h.at_ i with b|⟨-,-,a,c,m,d⟩
 .rw[b]
 rw[d,a,(iy a c m).1]
def qJ (xs:List Nat) (i:Nat):Bool:=(ah (wd xs i)).mark
theorem Rm.raw(h:Rm ws xs)(i:Nat):ah (wd xs i)={ ah (wd ws i) with mark:=qJ xs i }:=by
 unfold qJ;rcases h.at_ i with a|⟨-,-,d,b,m,c⟩
 .rw[a]
 rw[c,(iy d b m).2.1]
theorem Rm.sz(h:Rm ws xs)(i:Nat):(ah (wd xs i)).size=(ah (wd ws i)).size:=by rw[h.raw i]
theorem Rm.szAt(h:Rm ws xs)(i:Nat):szAt xs i=szAt ws i:=by have a:=h.sz i;have e:∀w,(ah w).size=((w/65536%65536:Nat):Int):=λ_=>rfl;rw[e,e] at a;unfold Proofs.YtpcajamacpbjcaaGreat.szAt;exact Int.ofNat.inj a
theorem Rm.stands(h:Rm ws xs)(i:Nat):stands xs i=stands ws i:=by unfold Proofs.YtpcajamacpbjcaaGreat.stands;rw[h.sp,h.sz,h.len]
def mkB (xs:List Nat) (b:Bk):Bk:={ b with mark:=qJ xs b.at_.toNat }
theorem Rm.bkAt(h:Rm ws xs)(hi:i%2=0):bkAt xs i=mkB xs (bkAt ws i):=by
 unfold mkB;have a:(Proofs.YtpcajamacpbjcaaGreat.bkAt ws i).at_.toNat=i:=by rw[ab,kqk]
 rw[a];unfold Proofs.YtpcajamacpbjcaaGreat.bkAt;rw[h.raw i,h.odd (i:=i+1) (by omega)]
theorem Rm.blocks(h:Rm ws xs):∀i l,blocks ws i=some l->i%2=0->blocks xs i=some (l.map (mkB xs)):=by
 refine cV (λi l=>i%2=0->Proofs.YtpcajamacpbjcaaGreat.blocks xs i=some (l.map (mkB xs))) (λi a _=>?_) (λi l a c hb b d=>?_)
 .exact ay (by rw[h.len];exact a)
 have hsz:=aC c;have b:=b (by omega);rw[aG (by rw[h.len];exact a) (by rw[h.stands];exact c),h.szAt,b,h.bkAt d];rfl
theorem Bo(n:Nat)(l:List Bk):qj n (l.map (mkB xs))=qj n l:=by unfold qj;rw[List.foldl_map];rfl
theorem Gk(h:Rm ws xs)(hb:b.kind=1->tyA b+1<128):dm xs (mkB xs b)=dm ws b:=by
 have e:=Al (ws:=ws) (xs:=xs) (λj c=>h.low c) hb;by_cases a:b.kind=1
 .have h2:=hb a;unfold dm cD;show (b.kind != 1||(bN (wd xs (tyA b)) (wd xs (tyA b+1))&&b.size==((aP (wd xs (tyA b)%256):Nat):Int)))=_;rw[h.low (by omega),h.low (by omega)]
 rw[dC a,dC (b:=mkB xs b) a]
theorem Rm.heap(h:Rm ws xs)(h0:af ws=0):af xs=0/\aa xs=(aa ws).map (mkB xs):=by obtain⟨e,l,c,d,f⟩:=ao h0;have g:=h.blocks 128 l c (by omega);rw[f];refine eV (by rw[h.len];exact e) g ?_;rw[List.all_map,kzq];rw[kzq] at d;intro b a;show dm xs (mkB xs b)=true;rw[Gk h (gA c (by omega) b a)];exact d b a
theorem Rm.tb(h:Rm ws xs)(h0:af ws=0)(a:Nat):tb xs a=tb ws a:=by unfold Proofs.YtpcajamacpbjcaaGreat.tb;rw[(h.heap h0).2,h.len,Bo]
theorem Rm.slAt(h:Rm ws xs)(hi:i<16):slAt xs i=slAt ws i:=by unfold Proofs.YtpcajamacpbjcaaGreat.slAt;rw[h.low (by omega)]
theorem Rm.slsOk(h:Rm ws xs):slsOk xs=slsOk ws:=by
 rw[kzr,bQ,bQ];unfold nK;constructor
 .intro b i a;rw[<-h.slAt a];exact b i a
 intro b i a;rw[h.slAt a];exact b i a
theorem lc(h:cb ws a):(ah (wd ws a)).typ.toNat<8:=by have h7:=(bn _).1 (eJ h.2.2.2.1);have h5:=h.2.2.2.2.1;omega
theorem Rm.flds(h:Rm ws xs)(h0:af ws=0)(ha:Proofs.YtpcajamacpbjcaaGreat.tb ws a≠0):flds xs a=flds ws a:=by obtain⟨b,-⟩:=iA h0 ha;have:=lc b;unfold Proofs.YtpcajamacpbjcaaGreat.flds;rw[h.raw a];dsimp only;rw[h.low (by omega),h.low (by omega)]
theorem Rm.ref(h:Rm ws xs)(hg:rS ws)(h0:af ws=0)(ha:Rch ws a)(ht:Proofs.YtpcajamacpbjcaaGreat.tb ws a≠0)(hf:(Proofs.YtpcajamacpbjcaaGreat.flds ws a)[i]? = some 3):wd xs (a+2+i)=wd ws (a+2+i):=by
 rcases h.at_ (a+2+i) with c|⟨-,-,d,-⟩
 .exact c
 exfalso;have hb:=nn d;have b:=hg _ (Rch.ref a i ha ht hf (by omega));rw[kvd (by omega)] at b;have:=nL b;have:=(fP ws (ao h0).1).2.1;omega
theorem Rm.rch(h:Rm ws xs)(hg:rS ws)(h0:af ws=0)(a:Nat):Rch xs a↔Rch ws a:=by
 constructor
 .intro b
  induction b with
  | slot i hi hu=>rw[h.slAt hi] at hu |-;exact Rch.slot i hi hu
  | ref a i b ht hf hv ih =>rw[h.tb h0] at ht;rw[h.flds h0 ht] at hf;rw[h.ref hg h0 ih ht hf] at hv |-;exact Rch.ref a i ih ht hf hv
 intro b
 induction b with
 | slot i hi hu=>rw[<-h.slAt hi] at hu |-;exact Rch.slot i hi hu
 | ref a i b ht hf hv ih =>rw[<-h.ref hg h0 b ht hf] at hv |-;exact Rch.ref a i ih (by rw[h.tb h0];exact ht) (by rw[h.flds h0 ht];exact hf) hv
theorem aA(h:ax ws=0):af ws=0/\slsOk ws=true/\rS ws:=by
 unfold ax at h;by_cases a:af ws=0
 .rw[if_pos a] at h;by_cases b:Proofs.YtpcajamacpbjcaaGreat.slsOk ws=true
  .rw[if_pos b] at h;by_cases c:rS ws
   .exact ⟨a,b,c⟩
   rw[if_neg c] at h;cases h
  rw[if_neg b] at h;cases h
 rw[if_neg a] at h;exact absurd h a
theorem Rm.same(h:Rm ws xs)(h0:ax ws=0):ax xs=0/\aR xs=aR ws/\seenL xs=seenL ws/\af xs=0/\aa xs=(aa ws).map (mkB xs):=by
 obtain⟨b,i,f⟩:=aA h0;have d:=h.rch f b;have e:=h.heap b;have k:rS xs:=λa j=>by rw[h.tb b];exact f a ((d a).1 j)
 have g:ax xs=0:=BV e.1 (by rw[h.slsOk];exact i) k;have c:seenL xs=seenL ws:=by unfold seenL;rw[h.len];refine kzm λa _=>?_;exact decide_eq_decide.2 (d a)
 refine⟨g,?_,c,e⟩;rw[cU g,cU h0,c,h.len]
end
theorem sq:∀ {a b:List Int},a.Pairwise (· < ·)->b.Pairwise (· < ·)->(∀x,x∈a↔x∈b)->a=b:=by
 intro a
 induction a with
 | nil =>
  intro b _ _ h;cases b with
  | nil=>rfl
  | cons y b=>exact absurd ((h y).2 (by simp)) (by simp)
 | cons x a ih =>
  intro b e f h;cases b with
  | nil=>exact absurd ((h x).1 (by simp)) (by simp)
  | cons y b =>
   rw[kjn] at e f;have g:x=y:=by
    have c:=(h x).1 (by simp);have d:=(h y).2 (by simp);rw[kq0] at c d;rcases c with c|c
    .exact c
    rcases d with d|d
    .exact d.symm
    have:=f.1 _ c;have:=e.1 _ d;omega
   subst g;rw[ih e.2 f.2 (λz=>?_)];have i:=h z;rw[kq0,kq0] at i;constructor
   .intro c;have:=e.1 _ c;rcases i.1 (.inr c) with d|d
    .omega
    exact d
   intro c;have:=f.1 _ c;rcases i.2 (.inr c) with d|d
   .omega
   exact d
theorem dy(l:List En):∀ws:List Nat,l.Pairwise (λa b=>a.a<b.a)->∀e∈l,0<=e.a->e.a<(ws.length:Int)->wd (ak ws l) e.a.toNat=e.v:=by
 induction l with
 | nil=>intro ws _ e c;simp at c
 | cons x l ih =>
  intro ws f e c g d;rw[kjn] at f;simp only[ak];rcases kq0.1 c with rfl|c
  .rw[aT l _ _ (λy h=>by have:=f.1 y h;omega),if_pos ⟨g,d⟩];unfold wd;rw[kxh (by omega)];rfl
  refine ih _ f.2 e c g ?_;split
  .rw[kze];exact d
  exact d
theorem lu :∀i l,blocks ws i=some l->(∀b∈l,(i:Int)<=b.at_)/\l.Pairwise (λa b=>a.at_<b.at_):=by
 refine cV _ (λi _=>⟨λb h=>by simp at h,List.Pairwise.nil⟩) (λi l hi d hb c=>?_);have hsz:=aC d;refine⟨λb h=>?_,List.Pairwise.cons (λb h=>?_) c.2⟩
 .rcases kq0.1 h with rfl|h
  .rw[ab];omega
  have:=c.1 b h;omega
 have:=c.1 b h;rw[ab];omega
theorem bG(h:af ws=0):(∀b∈aa ws,∃a:Nat,b=bkAt ws a/\128<=a/\a%2=0/\a<ws.length/\stands ws a=true)/\(aa ws).Pairwise (λa b=>a.at_<b.at_):=by obtain⟨h1,l,c,h3,d⟩:=ao h;rw[d];refine⟨λb g=>?_,(lu _ _ c).2⟩;obtain⟨k,m,rfl⟩:=kqu g;obtain⟨a,e,i,e3,j,f,-⟩:=bH _ _ c (by omega) k m;exact⟨a,e,by omega,i,j,f⟩
theorem pm(h:ax ws=0)(ha:Rch ws a):∃b∈aa ws,b=bkAt ws a/\b.kind=1/\cb ws a:=by obtain⟨d,h2,f⟩:=aA h;obtain⟨c,-⟩:=iA d (f a ha);obtain⟨k,g,e,-⟩:=c.2.2.2.2.2.2;exact⟨_,kqm g,e,by rw[e];exact c.2.2.2.2.1,c⟩
noncomputable def dU (ws:List Nat) (b:Bk):Bool:=(seenL ws)[b.at_.toNat]?.getD false
theorem eN(h:a<ws.length):dU ws (bkAt ws a)=true↔Rch ws a:=by unfold dU;rw[ab,kqk];exact j8 h
theorem AK(h:ax ws=0)(hb:b∈aa ws)(hk:dS (seenL ws) b=false):b.kind=1:=by
 obtain⟨d,-,-⟩:=aA h;obtain⟨a,rfl,a1,a2,k,a4⟩:=(bG d).1 b hb;cases f:(bkAt ws a).mark with
 | true =>obtain⟨_,l,m,-,g⟩:=ao d;rw[g] at hb;exact iV m (by omega) _ hb f
 | false =>
  have i:dU ws (bkAt ws a)=true:=by
   unfold dS at hk;rw[f] at hk;unfold dU;cases j:(seenL ws)[(bkAt ws a).at_.toNat]?.getD false with
   | true=>rfl
   | false=>rw[j] at hk;exact absurd hk (by decide)
  obtain⟨b',-,e,c,-⟩:=pm h ((eN k).1 i);rw[e] at c;exact c
theorem dx(h:ax ws=0):aM ws=(lf (seenL ws) (aa ws)).map (xY ws (seenL ws)):=by unfold aM;rw[if_pos h]
theorem dl(h:ax ws=0){e:En}(he:e∈aM ws):∃a:Nat,bkAt ws a∈aa ws/\128<=a/\a%2=0/\a<ws.length/\az (wd ws a)=true/\(ah (wd ws a)).kind=1/\e=⟨(a:Int),fJ (wd ws a) (dU ws (bkAt ws a))⟩/\dS (seenL ws) (bkAt ws a)=false:=by
 obtain⟨j,-,-⟩:=aA h;rw[dx h,kzi] at he;obtain⟨b,f,rfl⟩:=he;have d:=uC f;have i:dS (seenL ws) b=false:=by
  unfold lf at f;have:=(kzv.1 f).2
  simpa using this
 have c:=AK h d i;obtain⟨a,rfl,l,m,k,g⟩:=(bG j).1 b d;refine⟨a,d,l,m,k,?_,c,rfl,i⟩;unfold stands at g;simp only[kqz] at g;exact g.1
theorem dg(h:ax ws=0):(aM ws).Pairwise (λa b=>a.a<b.a):=by obtain⟨c,-,-⟩:=aA h;rw[dx h,kxt];exact List.Pairwise.filter _ (bG c).2
theorem qg(h:ax ws=0):∀e∈aM ws,e.v<18446744073709551616:=by intro e b;obtain⟨a,-,-,-,-,c,d,rfl,-⟩:=dl h b;exact (iy c d _).2.2.2
theorem zB(h:ax ws=0):Rm ws (ak ws (aM ws)):=by
 refine⟨aD _ _,λi=>?_⟩;by_cases f:∃e∈aM ws,e.a=(i:Int)
 .obtain ⟨e,b,d⟩:=f;obtain⟨a,-,j,l,a3,k,m,rfl,-⟩:=dl h b;have c:a=i:=by dsimp only at d;omega
  subst c;refine .inr ⟨j,l,k,m,dU ws (bkAt ws a),?_⟩;have:=dy (aM ws) ws (dg h) _ b (by dsimp only;omega) (by dsimp only;omega);dsimp only at this;rw[kqk] at this;exact this
 exact .inl (aT _ _ _ (λe b g=>f ⟨e,b,g⟩))
theorem kk(h:ax ws=0)(hb:b∈aa ws):(mkB (ak ws (aM ws)) b).mark=dU ws b:=by
 obtain⟨l,-,-⟩:=aA h;obtain⟨a,rfl,a1,a2,a3,a4⟩:=(bG l).1 b hb;show qJ _ (bkAt ws a).at_.toNat=_;rw[ab,kqk];cases g:dS (seenL ws) (bkAt ws a) with
 | false =>
  have f:xY ws (seenL ws) (bkAt ws a)∈aM ws:=by rw[dx h,kzi];refine⟨_,?_,rfl⟩;unfold lf;rw[kzv];exact⟨hb,by rw[g];rfl⟩
  obtain⟨d,-,n,q,p,i,j,e,-⟩:=dl h f;have k:=congrArg En.a e;have:d=a:=by have:((bkAt ws a).at_:Int)=(d:Int):=k;rw[ab] at this;omega
  subst this;have:=dy (aM ws) ws (dg h) _ f (by rw[e];dsimp only;omega) (by rw[e];dsimp only;omega);rw[e] at this;dsimp only at this;rw[kqk] at this;unfold qJ;rw[this,(iy i j _).2.1]
 | true =>
  have o:wd (ak ws (aM ws)) a=wd ws a:=aT _ _ _ (λe f m=>by
   obtain⟨d,hm,n,q,p,i,j,rfl,c⟩:=dl h f;have:d=a:=by dsimp only at m;omega
   subst this;rw[g] at c;cases c)
  unfold qJ;rw[o];unfold dS at g;exact kqx.1 g
theorem Dh{l:List Bk}(h:l.Pairwise (λa b=>a.at_<b.at_)):(dG l).Pairwise (· < ·):=by unfold dG;rw[kxt];exact List.Pairwise.filter _ h
theorem Bj{l:List Bk}(h:l.Pairwise (λa b=>a.at_<b.at_)):(l.map (mkB xs)).Pairwise (λa b=>a.at_<b.at_):=by rw[kxt];exact h
theorem cO(h:ax ws=0)(x:Int):x∈aR ws↔∃a:Nat,x=(a:Int)/\a<ws.length/\Rch ws a:=by
 rw[cU h];unfold fB;rw[kzi];constructor
 .rintro ⟨a,b,rfl⟩;rw[kzv,kq8] at b;exact⟨a,rfl,b.1,(j8 b.1).1 b.2⟩
 rintro ⟨a,rfl,c,d⟩;exact⟨a,kzv.2 ⟨kq8.2 c,(j8 c).2 d⟩,rfl⟩
theorem kp(h:ax ws=0):(aR ws).Pairwise (· < ·):=by rw[cU h];unfold fB;rw[kxt];refine List.Pairwise.filter _ ?_;refine List.Pairwise.imp (R:=(· < ·)) (λ{a b} hab=>?_) List.pairwise_lt_range;omega
theorem DT(h:ax ws=0):dG ((aa ws).map (mkB (ak ws (aM ws))))=aR ws:=by
 obtain⟨l,-,h3⟩:=aA h;have d:=bG l;refine sq (Dh (Bj d.2)) (kp h) λx=>?_;rw[cO h];unfold dG;rw[kzi];constructor
 .rintro ⟨c,i,rfl⟩;rw[kzv,kzi] at i;obtain⟨⟨b,e,rfl⟩,f⟩:=i;rw[kk h e] at f;obtain⟨a,rfl,a1,a2,j,a4⟩:=d.1 b e;exact⟨a,ab ws a,j,(eN j).1 f⟩
 rintro ⟨a,rfl,k,g⟩;obtain⟨b,e,rfl,-,-⟩:=pm h g;refine⟨mkB (ak ws (aM ws)) (bkAt ws a),?_,ab ws a⟩;rw[kzv];refine⟨kz9 e,?_⟩;rw[kk h e];exact (eN k).2 g
theorem pT(h:ax ws=0):(∀(i:Nat) (x:En),(aM ws)[i]? = some x->128<=x.a/\x.a<(ws.length:Int))/\∀(i:Nat) (x y:En),(aM ws)[i]? = some x->(aM ws)[i+1]? = some y->x.a<y.a:=by
 refine⟨λi x b=>?_,λi x y b f=>?_⟩
 .obtain ⟨a,-,a1,-,a3,-,-,rfl,-⟩:=dl h (List.mem_of_getElem? b);dsimp only;omega
 have c:=dg h;rw[kzf] at c;obtain⟨e,j⟩:=kq7.1 b;obtain⟨d,g⟩:=kq7.1 f;rw[<-j,<-g];exact c i (i+1) e d (by omega)
theorem iz(ws:List Nat)(a u:Nat):(jt ws a u).length=szAt ws a:=by simp[jt]
theorem D3(l:List Nat):∀(ws:List Nat) (t:Nat),t+l.length<=ws.length->ak ws ((List.range l.length).map λj=>(⟨((t+j:Nat):Int),l[j]?.getD 0⟩:En))=dW ws t l:=by
 induction l with
 | nil=>intro ws t _;rfl
 | cons v l ih =>intro ws t h;simp only[kzc] at h;rw[kzc,List.range_succ_eq_map,kxk,kvb];simp only[ak,dW,kxd];rw[if_pos (by omega),kqk,kk2,kq2,<-ih _ (t+1) (by rw[kze];omega)];congr 1;apply kzm;intro j _;simp only[Function.comp];rw[show t+Nat.succ j=t+1+j by omega];simp
theorem zo(h:u+szAt ws a<=ws.length):ak ws (jt ws a u)=dW ws u (de ws a):=by rw[<-D3 _ _ _ (by rw[fD];exact h),fD];congr 1;unfold jt;apply kzm;intro j b;rw[jF _ _ _ (kq8.1 b)];rfl
theorem sS(ho:∀x∈ws,x<18446744073709551616)(h:iF { ah (wd ws a) with mark:=false }=true):∀e∈jt ws a u,e.v<18446744073709551616:=by
 intro e b;simp only[jt,kzi] at b;obtain⟨j,-,rfl⟩:=b;dsimp only;split
 .exact pN h
 split
 .omega
 exact fd ho _
theorem fL{k:Nat}(h:k<(jt ws a u).length):((jt ws a u)[k]).a=((u+k:Nat):Int):=by simp[jt]
theorem vR:∀ {l:List Bk} {s:Int},(∀b∈l,0<=b.size)->s<=aI l s:=by
 intro l
 induction l with
 | nil=>intro s _;exact kk6 _
 | cons b l ih =>
  intro s h;have h1:=h b (by simp);simp only[aI];split
  .have:=ih (s:=s+b.size) (λc a=>h c (by simp[a]));omega
  exact ih (λc a=>h c (by simp[a]))
theorem tC:∀ {l:List Bk} {s:Int},0<=s->(∀b∈l,0<=b.size)->∀e∈aN l s,(e.v:Int)<=aI l s:=by
 intro l
 induction l with
 | nil=>intro s _ _ e h;simp[aN] at h
 | cons b l ih =>
  intro s hs h e a;have h1:=h b (by simp);have f:∀c∈l,0<=c.size:=λc g=>h c (by simp[g]);have hns:s<=d7 b s:=by unfold d7;split<;>omega
  have hge:=vR (l:=l) (s:=d7 b s) f;have d:aI (b::l) s=aI l (d7 b s):=by simp only[aI,d7];split<;>rfl
  rw[d];simp only[aN,kzo] at a;rcases a with a|a
  .split at a
   .simp only[kq0,kzu,or_false] at a;subst a;show ((bo b s:Nat):Int)<=_;unfold bo;split<;>omega
   simp at a
  exact ih (by omega) f e a
theorem uV(h:af x=0):(aH x).length<=1024/\∀e∈aH x,e.v<18446744073709551616:=by
 have f:aH x=aN (aa x) 128:=by unfold aH;rw[if_pos h]
 rw[f];refine⟨kza (mw _ _) (fe x),λe m=>?_⟩;obtain⟨d,c,a,hs3⟩:=dT (eY h).2.2.1;have h1:=tC (l:=aa x) (s:=128) (by omega) (λb j=>by
  obtain⟨i,k,rfl⟩:=kqu j;have:=va (eY h).2.2.1 k;omega) e m
 have g:=kC d (kqg _) c a;rw[kz2] at g;omega
structure Small (n:Nat) (E:List En):Prop where
 pos:1<=E.length
 le:E.length<=32
 inc:E.Pairwise (λa b=>a.a<b.a)
 ins:∀e∈E,(16<=e.a/\e.a<19\/112<=e.a)/\e.a<(n:Int)
 val:∀e∈E,e.v<18446744073709551616
theorem xV(h:l.Pairwise (λa b=>a.a<b.a))(k:Nat):(l.take k).Pairwise (λa b=>a.a<b.a):=h.sublist (kjs k l)
theorem zU(hn:256<=n)(hp:p<4)(h1:l.Pairwise (λa b=>a.a<b.a))(h2:∀e∈l,128<=e.a/\e.a<(n:Int))(h3:∀e∈l,e.v<18446744073709551616):Small n (gN l p):=by
 by_cases h:32<=l.length
 .rw[b9 h];refine⟨by rw[kq6];omega,by rw[kq6];omega,xV h1 31,λe c=>?_,λe c=>h3 e (kxu c)⟩;have:=h2 e (kxu c);omega
 rw[ip h];refine⟨by simp,by rw[kzc];omega,List.Pairwise.cons (λe c=>?_) h1,λe c=>?_,λe c=>?_⟩
 .have:=h2 e c;dsimp only;omega
 .rcases kq0.1 c with rfl|c
  .dsimp only;omega
  have:=h2 e c;omega
 rcases kq0.1 c with rfl|c
 .dsimp only;omega
 exact h3 e c
theorem Dv{a:Int}(h:dw ws a=0):∀e∈cw ws a,a<=e.a/\e.a<(ws.length:Int)/\e.v<2048:=by
 obtain⟨f,-,-,-,-,-,n,m,l,g⟩:=iu h;intro e j;obtain⟨r,o,r2,p,r4⟩:=l e j;have c:=dy (cw ws a) ws g e j (by omega) (by omega);rw[o,kqk] at c;by_cases b:∃i,i<(bI ws a).length/\f i=r
 .obtain ⟨i,d,e2⟩:=b;have:=(n i d).2.1;omega
 have:=m r (λi d k=>b ⟨i,d,k⟩);rw[c] at this;exact absurd this.symm p
theorem cr(h:av ws=0):cy ws=0/\al (ws.length:Int)=true/\iY ws=true/\z6 (wd ws 16) (wd ws 17) (wd ws 18)=true:=by have a:=(gz (kv h)).1;exact⟨a,fv a⟩
theorem Aj(h1:al (xs.length:Int)=true)(h2:iY xs=true)(h3:z6 (wd xs 16) (wd xs 17) (wd xs 18)=true):cy xs=0:=(ml h1 (by rw[h2,h3];rfl)).1
theorem gb(h:∀e∈E,19<=e.a)(hi:i<19):wd (ak ws E) i=wd ws i:=aT _ _ _ λe b=>by have:=h e b;omega
theorem jR(h:Small n E)(h1:19<=i)(h2:i<112):wd (ak ws E) i=wd ws i:=aT _ _ _ λe a=>by have:=(h.ins e a).1;omega
theorem kf(hs:Small ws.length E)(hl:iY ws=true)(h16:wd (ak ws E) 16<=ws.length)(h17:wd (ak ws E) 17<=ws.length)(h18:wd (ak ws E) 18<=ws.length):iY (ak ws E)=true:=by obtain⟨-,b,c,d,e,a⟩:=(bj ws).1 hl;rw[bj,aD];exact⟨⟨h16,h17,h18⟩,by rw[jR hs (by omega) (by omega)];exact b,by rw[jR hs (by omega) (by omega)];exact c,by rw[jR hs (by omega) (by omega)];exact d,by rw[jR hs (by omega) (by omega)];exact e,by rw[jR hs (by omega) (by omega)];exact a⟩
def onW (ws xs:List Nat):Prop:=wd ws 16<=wd xs 16/\(wd xs 16=wd ws 16->wd ws 17<=wd xs 17/\wd ws 18<=wd xs 18)
theorem jE(hj:j<ws.length)(hl:∀e∈l,e.a≠(j:Int)):wd (ak ws (⟨(j:Int),v⟩::l)) j=v:=by rw[fj j v l hj,aT _ _ _ hl];unfold wd;rw[kxh hj];rfl
theorem pK(hj:j<ws.length)(_hne:i≠j):wd (ak ws (⟨(j:Int),v⟩::l)) i=wd (ak (ws.set j v) l) i:=by rw[fj j v l hj]
theorem cR(h:i≠j):wd (ws.set j v) i=wd ws i:=by unfold wd;rw[kjo (by omega)]
theorem fa(hck:av ws=0)(hp:wd ws 16=p)(hp2:p=1\/p=2)(h1:l.Pairwise (λa b=>a.a<b.a))(h2:∀e∈l,128<=e.a/\e.a<(ws.length:Int))(h3:∀e∈l,e.v<18446744073709551616):
 Small ws.length (gN l (p+1))/\cy (ak ws (gN l (p+1)))=0/\onW ws (ak ws (gN l (p+1)))/\wd (ak ws (gN l (p+1))) 16=(if 32<=l.length then p else p+1)/\wd (ak ws (gN l (p+1))) 17=0/\wd (ak ws (gN l (p+1))) 18=0:=by
 obtain⟨-,o,r,m⟩:=cr hck;have hb:=(ac _).1 o;have d:=zU (n:=ws.length) (p:=p+1) (by omega) (by omega) h1 h2 h3;have k:wd ws 17=0/\wd ws 18=0:=by rcases (cq _ _ _).1 m with h|h|h<;>omega
 have q:wd (ak ws (gN l (p+1))) 16=(if 32<=l.length then p else p+1)/\wd (ak ws (gN l (p+1))) 17=0/\wd (ak ws (gN l (p+1))) 18=0:=by
  by_cases h:32<=l.length
  .rw[b9 h,if_pos h];have c:∀e∈l.take 31,19<=e.a:=λe f=>by have:=h2 e (kxu f);omega
   rw[gb c (by omega),gb c (by omega),gb c (by omega)];exact⟨hp,k⟩
  rw[ip h,if_neg h,show (16:Int)=((16:Nat):Int) from rfl];have c:∀e∈l,19<=e.a:=λe f=>by have:=h2 e f;omega
  rw[jE (by omega) (λe f=>by have:=c e f;omega),pK (by omega) (by omega),pK (by omega) (by omega),gb c (by omega),gb c (by omega),cR (by omega),cR (by omega)];exact⟨rfl,k⟩
 obtain⟨g,i,j⟩:=q;have hle:(if 32<=l.length then p else p+1)<=3/\p<=(if 32<=l.length then p else p+1):=by split<;>omega
 refine⟨d,Aj (by rw[aD];exact o) (kf d r (by rw[g];omega) (by rw[i];omega) (by rw[j];omega)) ?_,⟨by rw[g,hp];omega,λ_=>by rw[i,j,k.1,k.2];exact⟨kqg _,kqg _⟩⟩,g,i,j⟩;rw[g,i,j,cq];rcases hp2 with rfl|rfl
 .right;right;split<;>omega
 by_cases h:32<=l.length
 .rw[if_pos h];right;right;omega
 rw[if_neg h];right;left;exact⟨rfl,rfl,.inl rfl⟩
theorem jc{f:Nat}(hck:av ws=0)(hp:wd ws 16=3)(hf:kT f=true)(hfn:f<=ws.length)(hfw:wd ws 17<=f)(h0:l.length<=31)(h1:l.Pairwise (λa b=>a.a<b.a))(h2:∀e∈l,112<=e.a/\e.a<(ws.length:Int))(h3:∀e∈l,e.v<18446744073709551616):
 Small ws.length (⟨17,f⟩::l)/\cy (ak ws (⟨17,f⟩::l))=0/\onW ws (ak ws (⟨17,f⟩::l))/\wd (ak ws (⟨17,f⟩::l)) 16=3/\wd (ak ws (⟨17,f⟩::l)) 17=f/\wd (ak ws (⟨17,f⟩::l)) 18=0:=by
 obtain⟨-,o,q,n⟩:=cr hck;have hb:=(ac _).1 o;have hi:=(aQ f).1 hf;have c:∀e∈l,19<=e.a:=λe d=>by have:=h2 e d;omega
 have g:wd ws 18=0:=by rcases (cq _ _ _).1 n with h|h|h<;>omega
 have i:Small ws.length (⟨17,f⟩::l):=by
  refine⟨by simp,by rw[kzc];omega,List.Pairwise.cons (λe d=>?_) h1,λe d=>?_,λe d=>?_⟩
  .have:=c e d;dsimp only;omega
  .rcases kq0.1 d with rfl|d
   .dsimp only;omega
   have:=h2 e d;omega
  rcases kq0.1 d with rfl|d
  .dsimp only;omega
  exact h3 e d
 have p:wd (ak ws (⟨17,f⟩::l)) 16=3/\wd (ak ws (⟨17,f⟩::l)) 17=f/\wd (ak ws (⟨17,f⟩::l)) 18=0:=by rw[show (17:Int)=((17:Nat):Int) from rfl];rw[pK (by omega) (by omega),jE (by omega) (λe d=>by have:=c e d;omega),pK (by omega) (by omega),gb c (by omega),gb c (by omega),cR (by omega),cR (by omega)];exact⟨hp,rfl,g⟩
 obtain⟨j,k,m⟩:=p;refine⟨i,Aj (by rw[aD];exact o) (kf i q (by rw[j];omega) (by rw[k];omega) (by rw[m];omega)) ?_,⟨by rw[j,hp];exact kqg _,λ_=>by rw[k,m,g];exact⟨hfw,kqg _⟩⟩,j,k,m⟩;rw[j,k,m,cq];right;left;exact⟨rfl,rfl,.inr hf⟩
theorem fV(hck:av ws=0)(hp:wd ws 16=3):Small ws.length bK/\cy (ak ws bK)=0/\onW ws (ak ws bK)/\wd (ak ws bK) 16=4/\wd (ak ws bK) 17=128/\wd (ak ws bK) 18=128:=by
 obtain⟨-,g,j,hph⟩:=cr hck;have hb:=(ac _).1 g;have c:Small ws.length bK:=by
  refine⟨by decide,by decide,by unfold bK;simp,λe a=>?_,λe a=>?_⟩
  .unfold bK at a;simp only[kq0,kzu,or_false] at a;rcases a with rfl|rfl|rfl<;>(dsimp only;omega)
  unfold bK at a;simp only[kq0,kzu,or_false] at a;rcases a with rfl|rfl|rfl<;>(dsimp only;omega)
 have i:wd (ak ws bK) 16=4/\wd (ak ws bK) 17=128/\wd (ak ws bK) 18=128:=by
  unfold bK;rw[show (16:Int)=((16:Nat):Int) from rfl,show (17:Int)=((17:Nat):Int) from rfl,show (18:Int)=((18:Nat):Int) from rfl];rw[fj 16 _ _ (by omega),fj 17 _ _ (by rw[kze];omega),fj 18 _ _ (by rw[kze,kze];omega)];simp only[ak];refine⟨?_,?_,?_⟩
  .rw[cR (by omega),cR (by omega)];unfold wd;rw[kxh (by omega)];rfl
  .rw[cR (by omega)];unfold wd;rw[kxh (by rw[kze];omega)];rfl
  unfold wd;rw[kxh (by rw[kze,kze];omega)];rfl
 obtain⟨b,d,f⟩:=i;refine⟨c,Aj (by rw[aD];exact g) (kf c j (by rw[b];omega) (by rw[d];omega) (by rw[f];omega)) (by rw[b,d,f];decide),⟨by rw[b,hp];omega,λh=>by rw[b,hp] at h;exact absurd h (by decide)⟩,b,d,f⟩
theorem mS{f t:Nat}(hck:av ws=0)(hp:wd ws 16=4)(hf:kT f=true)(ht:kT t=true)(htf:t<=f)(hfn:f<=ws.length)(hfw:wd ws 17<=f)(htw:wd ws 18<=t)(h0:l.length<=30)(h1:l.Pairwise (λa b=>a.a<b.a))(h2:∀e∈l,112<=e.a/\e.a<(ws.length:Int))(h3:∀e∈l,e.v<18446744073709551616):
 Small ws.length (⟨17,f⟩::⟨18,t⟩::l)/\cy (ak ws (⟨17,f⟩::⟨18,t⟩::l))=0/\onW ws (ak ws (⟨17,f⟩::⟨18,t⟩::l))/\wd (ak ws (⟨17,f⟩::⟨18,t⟩::l)) 16=4/\wd (ak ws (⟨17,f⟩::⟨18,t⟩::l)) 17=f/\wd (ak ws (⟨17,f⟩::⟨18,t⟩::l)) 18=t:=by
 obtain⟨-,k,n,hph⟩:=cr hck;have hb:=(ac _).1 k;have hi:=(aQ f).1 hf;have hj:=(aQ t).1 ht;have d:∀e∈l,19<=e.a:=λe c=>by have:=h2 e c;omega
 have g:Small ws.length (⟨17,f⟩::⟨18,t⟩::l):=by
  refine⟨by simp,by rw[kzc,kzc];omega,List.Pairwise.cons (λe c=>?_) (List.Pairwise.cons (λe c=>?_) h1),λe c=>?_,λe c=>?_⟩
  .rcases kq0.1 c with rfl|c
   .dsimp only;omega
   have:=d e c;dsimp only;omega
  .have:=d e c;dsimp only;omega
  .rcases kq0.1 c with rfl|c
   .dsimp only;omega
   rcases kq0.1 c with rfl|c
   .dsimp only;omega
   have:=h2 e c;omega
  rcases kq0.1 c with rfl|c
  .dsimp only;omega
  rcases kq0.1 c with rfl|c
  .dsimp only;omega
  exact h3 e c
 have m:wd (ak ws (⟨17,f⟩::⟨18,t⟩::l)) 16=4/\wd (ak ws (⟨17,f⟩::⟨18,t⟩::l)) 17=f/\wd (ak ws (⟨17,f⟩::⟨18,t⟩::l)) 18=t:=by
  rw[show (17:Int)=((17:Nat):Int) from rfl,show (18:Int)=((18:Nat):Int) from rfl];rw[fj 17 _ _ (by omega),fj 18 _ _ (by rw[kze];omega),gb d (by omega),gb d (by omega),gb d (by omega)];refine⟨?_,?_,?_⟩
  .rw[cR (by omega),cR (by omega)];exact hp
  .rw[cR (by omega)];unfold wd;rw[kxh (by omega)];rfl
  unfold wd;rw[kxh (by rw[kze];omega)];rfl
 obtain⟨h,i,j⟩:=m;refine⟨g,Aj (by rw[aD];exact k) (kf g n (by rw[h];omega) (by rw[i];omega) (by rw[j];omega)) ?_,⟨by rw[h,hp];exact kqg _,λ_=>by rw[i,j];exact⟨hfw,htw⟩⟩,h,i,j⟩;rw[h,i,j,cq];left;exact⟨rfl,hf,ht,htf⟩
theorem nh{α:Type}{p q:α->Bool}:∀ {l:List α},(∀b∈l,q b=true->p b=true)->(l.filter q).length<=(l.filter p).length/\((∃b∈l,p b=true/\q b=false)->(l.filter q).length<(l.filter p).length):=by
 intro l
 induction l with
 | nil=>intro _;exact⟨kqg _,λ⟨b,d,_⟩=>by simp at d⟩
 | cons b l ih =>
  intro h;obtain⟨i1,i⟩:=ih (λc a=>h c (by simp[a]));have d:=h b (by simp);rw[kjy,kjy];refine⟨?_,λ⟨c,a,f,g⟩=>?_⟩
  .cases e:q b with
   | true=>rw[d e];simp;omega
   | false=>cases j:p b<;>simp<;>omega
  rcases kq0.1 a with rfl|a
  .rw[f,g];simp;omega
  have:=i ⟨c,a,f,g⟩;cases e:q b with
  | true=>rw[d e];simp;omega
  | false=>cases j:p b<;>simp<;>omega
theorem iw(h:ax ws=0)(hs:E.Sublist (aM ws)):Rm ws (ak ws E):=by
 have k:E.Pairwise (λa b=>a.a<b.a):=(dg h).sublist hs;refine⟨aD _ _,λi=>?_⟩;by_cases g:∃e∈E,e.a=(i:Int)
 .obtain ⟨e,c,f⟩:=g;obtain⟨a,-,l,n,a3,m,o,rfl,-⟩:=dl h (hs.subset c);have d:a=i:=by dsimp only at f;omega
  subst d;refine .inr ⟨l,n,m,o,dU ws (bkAt ws a),?_⟩;have:=dy E ws k _ c (by dsimp only;omega) (by dsimp only;omega);dsimp only at this;rw[kqk] at this;exact this
 exact .inl (aT _ _ _ (λe c j=>g ⟨e,c,j⟩))
theorem uB(h:ax ws=0)(h32:32<=(aM ws).length):ax (ak ws ((aM ws).take 31))=0/\(aM (ak ws ((aM ws).take 31))).length<(aM ws).length:=by
 have c:((aM ws).take 31).Sublist (aM ws):=kjs _ _;have q:((aM ws).take 31).Pairwise (λa b=>a.a<b.a):=(dg h).sublist c;obtain⟨E,g2,J,g4,H⟩:=(iw h c).same h;refine⟨E,?_⟩;rw[dx E,J,H,kqs,dx h,kqs];rw[<-dx h];obtain⟨x,u⟩:=xq (ak ws ((aM ws).take 31));rw[u];unfold lf;rw[List.filter_map,kqs];have g:=bG (aA h).1;have w:∀b∈aa ws,(∀e∈(aM ws).take 31,e.a≠b.at_)->(mkB x b).mark=b.mark:=by intro b t y;obtain⟨a,rfl,a1,a2,a3,a4⟩:=g.1 b t;show qJ x (bkAt ws a).at_.toNat=_;rw[ab,kqk];unfold qJ;rw[<-u,aT _ _ _ (λe m=>by have:=y e m;rwa [ab] at this)];rfl
 refine (nh (λb t l=>?_)).2 ?_
 .dsimp only[Function.comp_apply] at l |-;cases v:dS (seenL ws) b with
  | false=>rfl
  | true =>
   exfalso;have n:=w b t (λe m B=>by
    obtain⟨a,n,I,G,K,r,o,rfl,f⟩:=dl h (c.subset m);dsimp only at B;have:bkAt ws a=b:=by
     have A:=g.2;rw[kzf] at A;obtain⟨i,D,k⟩:=kqu n;obtain⟨j,F,C⟩:=kqu t;have h3:(aa ws)[i].at_=(aa ws)[j].at_:=by rw[k,C,ab];exact B
     rcases kjt i j with p|p|p
     .have:=A i j D F p;omega
     .subst p;rw[<-k,<-C]
     have:=A j i F D p;omega
    rw[this,v] at f;cases f)
   unfold dS at v l;rw[n] at l
   change (!(b.mark==((seenL ws)[b.at_.toNat]?.getD false)))=true at l
   rw[v] at l;exact absurd l (by decide)
 have s:0<((aM ws).take 31).length:=by rw[kq6];omega
 have m:=kqm s;obtain⟨a,n,I,G,K,r,o,k,f⟩:=dl h (c.subset m);refine⟨bkAt ws a,n,by rw[f];rfl,?_⟩;dsimp only[Function.comp_apply];have d:=dy _ ws q _ m (by rw[k];dsimp only;omega) (by rw[k];dsimp only;omega);rw[k] at d;dsimp only at d;rw[kqk,u] at d;unfold dS;show (!((mkB x (bkAt ws a)).mark==((seenL ws)[(bkAt ws a).at_.toNat]?.getD false)))=false;have z:(mkB x (bkAt ws a)).mark=dU ws (bkAt ws a):=by show qJ x (bkAt ws a).at_.toNat=_;rw[ab,kqk];unfold qJ;rw[d,(iy r o _).2.1]
 rw[z];unfold dU;simp
structure Ev (ws xs:List Nat):Prop where
 len:xs.length=ws.length
 at_:∀i,(i%2=0/\96<=i\/96<=i/\i<128)->wd xs i=wd ws i
def nxB (xs:List Nat) (b:Bk):Bk:={ b with next:=wd xs (b.at_.toNat+1) }
section
variable {ws xs:List Nat}
theorem Ev.stands(h:Ev ws xs)(hi:i%2=0)(h96:96<=i):stands xs i=stands ws i:=by unfold Proofs.YtpcajamacpbjcaaGreat.stands;rw[h.at_ i (.inl ⟨hi,h96⟩),h.len]
theorem Ev.bkAt(h:Ev ws xs)(hi:i%2=0)(h96:96<=i):bkAt xs i=nxB xs (bkAt ws i):=by
 unfold nxB;have a:(Proofs.YtpcajamacpbjcaaGreat.bkAt ws i).at_.toNat=i:=by rw[ab,kqk]
 rw[a];unfold Proofs.YtpcajamacpbjcaaGreat.bkAt;rw[h.at_ i (.inl ⟨hi,h96⟩)]
theorem Ev.blocks(h:Ev ws xs):∀i l,blocks ws i=some l->i%2=0->96<=i->blocks xs i=some (l.map (nxB xs)):=by
 refine cV (λi l=>i%2=0->96<=i->Proofs.YtpcajamacpbjcaaGreat.blocks xs i=some (l.map (nxB xs))) (λi c _ _=>?_) (λi l c e hb d a b=>?_)
 .exact ay (by rw[h.len];exact c)
 have hsz:=aC e;have d:=d (by omega) (by omega);have f:szAt xs i=szAt ws i:=by unfold szAt;rw[h.at_ i (.inl ⟨a,b⟩)]
 rw[aG (by rw[h.len];exact c) (by rw[h.stands a b];exact e),f,d,h.bkAt a b];rfl
theorem Hf(h:Ev ws xs)(hb:b.kind=1->tyA b+1<128):dm xs (nxB xs b)=dm ws b:=by
 by_cases a:b.kind=1
 .have c:=hb a;have d:96<=tyA b:=by unfold tyA;omega
  unfold dm cD;show (b.kind != 1||(bN (wd xs (tyA b)) (wd xs (tyA b+1))&&b.size==((aP (wd xs (tyA b)%256):Nat):Int)))=_;rw[h.at_ _ (.inr ⟨d,by omega⟩),h.at_ _ (.inr ⟨by omega,c⟩)]
 rw[dC a,dC (b:=nxB xs b) a]
theorem Ev.heap(h:Ev ws xs)(h0:af ws=0):af xs=0/\aa xs=(aa ws).map (nxB xs):=by obtain⟨e,l,c,d,f⟩:=ao h0;have g:=h.blocks 128 l c (by omega) (by omega);rw[f];refine eV (by rw[h.len];exact e) g ?_;rw[List.all_map,kzq];rw[kzq] at d;intro b a;show dm xs (nxB xs b)=true;rw[Hf h (gA c (by omega) b a)];exact d b a
end
theorem fu:∀ {l:List Bk} {s:Int} {e:En},e∈aN l s->∃b∈l,b.kind=1/\e.a=b.at_+1:=by
 intro l
 induction l with
 | nil=>intro s e h;simp[aN] at h
 | cons x l ih =>
  intro s e h;simp only[aN,kzo] at h;rcases h with h|h
  .split at h
   .rename_i hx;rw[kq1] at h;subst h;exact⟨x,by simp,hx.1,rfl⟩
   simp at h
  obtain⟨b,c,d⟩:=ih h;exact⟨b,by simp[c],d⟩
theorem DP :∀ {l:List Bk} {s:Int},l.Pairwise (λa b=>a.at_<b.at_)->(∀b∈l,0<=b.at_)->(∀b∈l,b.kind=1->wd xs (b.at_.toNat+1)=b.next\/∃e∈aN l s,e.a=b.at_+1/\wd xs (b.at_.toNat+1)=e.v) ->
 (aN (l.map (nxB xs)) s).length<=(aN l s).length/\((∃e∈aN l s,wd xs e.a.toNat=e.v)->(aN (l.map (nxB xs)) s).length<(aN l s).length):=by
 intro l
 induction l with
 | nil=>intro s _ _ _;exact⟨kqg _,λ⟨e,d,_⟩=>by simp[aN] at d⟩
 | cons b l ih =>
  intro s q u w;rw[kjn] at q;have k:∀c∈l,c.kind=1->wd xs (c.at_.toNat+1)=c.next\/∃e∈aN l (d7 b s),e.a=c.at_+1/\wd xs (c.at_.toNat+1)=e.v:=by
   intro c g m;rcases w c (by simp[g]) m with i|⟨e,d,r,t⟩
   .exact .inl i
   simp only[aN,kzo] at d;rcases d with d|d
   .split at d
    .rw[kq1] at d;subst d;dsimp only at r;have:=q.1 c g;omega
    simp at d
   exact .inr ⟨e,d,r,t⟩
  obtain⟨i1,A⟩:=ih (s:=d7 b s) q.2 (λc g=>u c (by simp[g])) k;have hb0:=u b (by simp);rw[kxk];simp only[aN];have x:d7 (nxB xs b) s=d7 b s:=rfl;have y:bo (nxB xs b) s=bo b s:=rfl;rw[x,y,kqw,kqw];have o:(nxB xs b).next=wd xs (b.at_.toNat+1):=rfl;have n:(nxB xs b).kind=b.kind:=rfl;have p:(nxB xs b).at_=b.at_:=rfl;have j:b.kind=1->wd xs (b.at_.toNat+1)=b.next\/wd xs (b.at_.toNat+1)=bo b s:=by
   intro m;rcases w b (by simp) m with i|⟨e,d,r,t⟩
   .exact .inl i
   simp only[aN,kzo] at d;rcases d with d|d
   .split at d
    .rw[kq1] at d;subst d;exact .inr t
    simp at d
   obtain⟨c,g,-,h4⟩:=fu d;have:=q.1 c g;omega
  have hle:(if (nxB xs b).kind=1/\(nxB xs b).next≠bo b s then [(⟨(nxB xs b).at_+1,bo b s⟩:En)] else []).length<=(if b.kind=1/\b.next≠bo b s then [(⟨b.at_+1,bo b s⟩:En)] else []).length:=by
   rw[o,n,p];by_cases m:b.kind=1
   .rcases j m with i|i
    .rw[i];exact kqg _
    rw[if_neg (λh=>h.2 i)];exact kqy _
   rw[if_neg (λh=>m h.1)];exact kqy _
  refine⟨by omega,λ⟨e,d,f⟩=>?_⟩;rcases kzo.1 d with d|d
  .split at d
   .rename_i g;rw[kq1] at d;subst d;dsimp only at f;have z:(b.at_+1).toNat=b.at_.toNat+1:=by omega
    rw[z] at f;rw[o,n,p,if_neg (λh=>h.2 f),if_pos g];simp only[kxx,kzc];omega
   simp at d
  have:=A ⟨e,d,f⟩;omega
noncomputable def stM (ws:List Nat):Nat:=if wd ws 16=1 then (aM ws).length+1 else if wd ws 16=2 then (aH ws).length+1 else ws.length+1-wd ws 17
theorem oL :∀k a,ws.length-a<=k->a<=ws.length->(kM ws a).1=0->kM ws a=(0,bK)\/∃m:Nat,128<=m/\a<=m/\m%2=0/\2<=szAt ws m/\szAt ws m%2=0/\m+szAt ws m<=ws.length/\dw ws (m:Int)=0/\kM ws a=(0,⟨17,m+szAt ws m⟩::cw ws (m:Int)):=by
 intro k
 induction k with
 | zero =>
  intro a p n h;by_cases b:be ws (a:Int)=0
  .obtain ⟨y,v,r,m,e,j,l,g,i,f,-⟩:=eW b;omega
  exact .inl (jM b)
 | succ k ih =>
  intro a p n h;by_cases b:be ws (a:Int)=0
  .obtain ⟨y,v,r,m,e,j,l,g,i,f,-⟩:=eW b;by_cases d:bI ws (m:Int)=[]
   .have u:=jT b e d;rw[u] at h |-;rcases ih (m+szAt ws m) (by omega) (by omega) h with s|⟨q,t,q2,x,A,o,B,z,w⟩
    .exact .inl s
    exact .inr ⟨q,t,by omega,x,A,o,B,z,w⟩
   by_cases c:dw ws (m:Int)=0
   .exact .inr ⟨m,by omega,j,l,g,i,f,c,pI b e d c⟩
   rw[uy b e d c] at h;exact absurd h c
  exact .inl (jM b)
theorem qW(h:af x=0):aH x=aN (aa x) 128:=by unfold aH;rw[if_pos h]
theorem nV(h:af ws=0):(aH ws).Pairwise (λa b=>a.a<b.a)/\(∀e∈aH ws,128<=e.a/\e.a<(ws.length:Int))/\(∀e∈aH ws,e.v<18446744073709551616):=by
 have d:aH ws=aN (aa ws) 128:=by unfold aH;rw[if_pos h]
 obtain⟨_,l,g,-,c⟩:=ao h;refine⟨?_,λe f=>?_,(uV h).2⟩
 .rw[d,c];exact zl _ _ g 128
 rw[d,c] at f;have:=pv _ _ g 128 e f;omega
theorem Fs(h:af ws=0)(h32:32<=(aH ws).length):af (ak ws ((aH ws).take 31))=0/\(aH (ak ws ((aH ws).take 31))).length<(aH ws).length:=by
 obtain⟨A,B,i3⟩:=nV h;have u:aH ws=aN (aa ws) 128:=by unfold aH;rw[if_pos h]
 have d:=bG h;have c:((aH ws).take 31).Sublist (aH ws):=kjs _ _;have g:((aH ws).take 31).Pairwise (λa b=>a.a<b.a):=A.sublist c;have j:∀e∈aH ws,∃a:Nat,e.a=((a+1:Nat):Int)/\a%2=0/\128<=a:=by intro e f;rw[u] at f;obtain⟨b,n,-,y⟩:=fu f;obtain⟨a,rfl,r,q,-⟩:=d.1 b n;exact⟨a,by rw[y,ab];rfl,q,r⟩
 have p:Ev ws (ak ws ((aH ws).take 31)):=by refine⟨aD _ _,λi hi=>aT _ _ _ λe f w=>?_⟩;obtain⟨a,o,r,q⟩:=j e (c.subset f);omega
 obtain⟨x,C⟩:=p.heap h;refine⟨x,?_⟩;have t:aH (ak ws ((aH ws).take 31))=aN ((aa ws).map (nxB (ak ws ((aH ws).take 31)))) 128:=by rw[qW x,C]
 rw[t];have m:=DP (xs:=ak ws ((aH ws).take 31)) (l:=aa ws) (s:=128) d.2 (λb n=>by obtain⟨a,rfl,-⟩:=d.1 b n;rw[ab];omega) (λb n hk=>by
  obtain⟨a,rfl,r,q,a3,z⟩:=d.1 b n;have hsz:=aC z;rw[ab,kqk];by_cases v:∃e∈(aH ws).take 31,e.a=((a+1:Nat):Int)
  .obtain ⟨e,f,o⟩:=v;refine .inr ⟨e,by rw[<-u];exact c.subset f,by rw[o];omega,?_⟩;have:=dy _ ws g e f (by omega) (by omega);rw[o,kqk] at this;exact this
  exact .inl (by rw[aT _ _ _ (λe f w=>v ⟨e,f,w⟩)];rfl))
 rw[<-u] at m;refine m.2 ?_;have k:0<((aH ws).take 31).length:=by rw[kq6];omega
 have f:=kqm k;have hin:=B _ (c.subset f);exact⟨_,c.subset f,dy _ ws g _ f (by omega) (by omega)⟩
theorem lQ(ho:∀x∈ws,x<18446744073709551616)(h:(ae ws).1=0):av ws=0/\Small ws.length (ae ws).2/\cy (ak ws (ae ws).2)=0/\onW ws (ak ws (ae ws).2)/\(wd (ak ws (ae ws).2) 16=wd ws 16->stM (ak ws (ae ws).2)<stM ws)/\(1<=wd ws 16/\wd ws 16<=4)/\wd (ak ws (ae ws).2) 16<=wd ws 16+1/\(wd ws 16=4->wd (ak ws (ae ws).2) 16=4):=by
 have c:av ws=0:=by
  by_cases d:av ws=0
  .exact d
  unfold ae at h;rw[if_neg d] at h;exact absurd h d
 obtain⟨-,hs,hl,S⟩:=cr c;have hb:=(ac _).1 hs;obtain⟨⟨l1,l2,l3⟩,-⟩:=(bj ws).1 hl;by_cases p:wd ws 16=1
 .have r:ax ws=0:=by
   by_cases d:ax ws=0
   .exact d
   unfold ae at h;rw[if_pos c,if_pos p,if_neg d] at h;exact absurd h d
  have e:ae ws=(0,gN (aM ws) 2):=by unfold ae;rw[if_pos c,if_pos p,if_pos r]
  rw[e];dsimp only;obtain⟨O,Y⟩:=pT r;obtain⟨s,y,w,o,D,H⟩:=fa c p (.inl rfl) (dg r) (λx hx=>by
   obtain⟨i,V⟩:=kj1.1 hx;exact O i x V) (qg r)
  simp only[Nat.reduceAdd] at s y w o D H;refine⟨c,s,y,w,λg=>?_,by omega,by rw[o];split<;>omega,λg=>by omega⟩;have q:32<=(aM ws).length:=by
   rw[o] at g;split at g
   .assumption
   omega
  have hd:=(uB r q).2;rw[p] at g;unfold stM;rw[if_pos g,if_pos p,b9 q];omega
 by_cases A:wd ws 16=2
 .have F:af ws=0:=by
   by_cases d:af ws=0
   .exact d
   unfold ae at h;rw[if_pos c,if_neg p,if_pos A,if_neg d] at h;exact absurd h d
  have e:ae ws=(0,gN (aH ws) 3):=by unfold ae;rw[if_pos c,if_neg p,if_pos A,if_pos F]
  rw[e];dsimp only;obtain⟨O,Y,r3⟩:=nV F;obtain⟨s,y,w,o,D,H⟩:=fa c A (.inr rfl) O Y r3;simp only[Nat.reduceAdd] at s y w o D H;refine⟨c,s,y,w,λg=>?_,by omega,by rw[o];split<;>omega,λg=>by omega⟩;have q:32<=(aH ws).length:=by
   rw[o] at g;split at g
   .assumption
   omega
  have hd:=(Fs F q).2;rw[A] at g;unfold stM;rw[if_neg (by omega),if_pos g,if_neg p,if_pos A,b9 q];omega
 by_cases J:wd ws 16=3
 .have e:ae ws=cZ ws:=by unfold ae;rw[if_pos c,if_neg p,if_neg A,if_pos J]
  rw[e] at h |-;have M:∀(f:Nat) (l:List En),cZ ws=(0,⟨17,f⟩::l)->kT f=true->f<=ws.length->wd ws 17<f->l.length<=31->l.Pairwise (λa b=>a.a<b.a)->(∀e∈l,112<=e.a/\e.a<(ws.length:Int))->(∀e∈l,e.v<18446744073709551616) ->
   av ws=0/\Small ws.length (cZ ws).2/\cy (ak ws (cZ ws).2)=0/\onW ws (ak ws (cZ ws).2)/\(wd (ak ws (cZ ws).2) 16=wd ws 16->stM (ak ws (cZ ws).2)<stM ws)/\(1<=wd ws 16/\wd ws 16<=4)/\wd (ak ws (cZ ws).2) 16<=wd ws 16+1/\(wd ws 16=4->wd (ak ws (cZ ws).2) 16=4):=by
   intro f l B f1 f2 f3 f4 f5 f6 f7;rw[B];dsimp only;obtain⟨s,y,w,o,D,H⟩:=jc c J f1 f2 (by omega) f4 f5 f6 f7;refine⟨c,s,y,w,λg=>?_,by omega,by rw[o];omega,λg=>by omega⟩;unfold stM;rw[o,if_neg (by decide),if_neg (by decide),if_neg p,if_neg A,aD,D];omega
  by_cases z:wd ws 17=0
  .have L:eE ws=0:=by
    by_cases d:eE ws=0
    .exact d
    unfold cZ at h;rw[if_pos z,if_neg d] at h;exact absurd h d
   have B:cZ ws=(0,⟨17,128⟩::dK ws):=by unfold cZ;rw[if_pos z,if_pos L]
   obtain⟨-,-,-,-,-,-,-,q1,q2,q3,-⟩:=jj L;exact M 128 (dK ws) B (by decide) (by omega) (by omega) (by omega) q2 (λe C=>by have:=(q1 e C).1;omega) (λe C=>(q1 e C).2)
  have B:cZ ws=kM ws (wd ws 17):=by unfold cZ;rw[if_neg z]
  have h':(kM ws (wd ws 17)).1=0:=by rw[<-B];exact h
  rcases oL ws.length (wd ws 17) (by omega) l2 h' with I|⟨m,m1,m2,m3,m4,m5,X,N,W⟩
  .rw[B,I];dsimp only;obtain⟨s,y,w,o,D,H⟩:=fV c J;exact⟨c,s,y,w,λg=>by rw[o] at g;omega,by omega,by rw[o];omega,λg=>by omega⟩
  obtain⟨f,-,-,-,-,q5,-,-,-,q9⟩:=iu N;have U:=Dv N;exact M (m+szAt ws m) (cw ws (m:Int)) (by rw[B,W]) ((aQ _).2 (by omega)) X (by omega) (by omega) q9 (λe C=>by have:=U e C;omega) (λe C=>by have:=U e C;omega)
 by_cases P:wd ws 16=4
 .have e:ae ws=ey ws:=by unfold ae;rw[if_pos c,if_neg p,if_neg A,if_neg J,if_pos P]
  rw[e] at h |-;have E:be ws ((wd ws 17:Nat):Int)=0:=by
   by_cases d:be ws ((wd ws 17:Nat):Int)=0
   .exact d
   unfold ey at h;rw[if_neg d] at h;exact absurd h (by decide)
  obtain⟨-,a1,a2,m,em,m1,m2,m3,m4,m5,X,N,W,-⟩:=eW E;have G:eG ws (m:Int) ((wd ws 18:Nat):Int)=0:=by
   by_cases d:eG ws (m:Int) ((wd ws 18:Nat):Int)=0
   .exact d
   unfold ey at h;rw[if_pos E,em,ab,if_neg d] at h;exact absurd h d
  have B:ey ws=(0,⟨17,m+szAt ws m⟩::⟨18,wd ws 18+szAt ws m⟩::jt ws m (wd ws 18)):=by unfold ey;rw[if_pos E,em,ab,if_pos G,aV,show ((m:Int)+((szAt ws m:Nat):Int)).toNat=m+szAt ws m by omega,show (((wd ws 18:Nat):Int)+((szAt ws m:Nat):Int)).toNat=wd ws 18+szAt ws m by omega];unfold jO;rw[if_pos G,kqk,kqk]
  obtain⟨a,u,n,Z,T,en,n2,n10,hu,hua,han,hst,hlv,-,-,R⟩:=fG G;have Z:a=m:=by omega
  have T:u=wd ws 18:=by omega
  subst Z T;subst en;have Q:=(cq _ _ _).1 S;have K:kT (wd ws 17)=true/\kT (wd ws 18)=true/\wd ws 18<=wd ws 17:=by
   rcases Q with I|I|I
   .exact I.2
   .omega
   omega
  have i1:=(aQ _).1 K.1;have i2:=(aQ _).1 K.2.1;rw[B];dsimp only;obtain⟨s,y,w,o,D,H⟩:=mS (f:=a+szAt ws a) (t:=wd ws 18+szAt ws a) (l:=jt ws a (wd ws 18)) c P ((aQ _).2 (by omega)) ((aQ _).2 (by omega)) (by omega) (by omega) (by omega) (by omega) (by rw[iz];omega) (by
   rw[kzf];intro i j V hj hij;rw[fL,fL];omega) (λe C=>by
   obtain⟨k,hk,rfl⟩:=kqu C;rw[fL];rw[iz] at hk;omega) (sS ho R)
  refine⟨c,s,y,w,λg=>?_,by omega,by rw[o];omega,λg=>o⟩;unfold stM;rw[o,if_neg (by decide),if_neg (by decide),if_neg p,if_neg A,aD,D];omega
 have e:ae ws=(6,[]):=by unfold ae;rw[if_pos c,if_neg p,if_neg A,if_neg J,if_neg P]
 rw[e] at h;exact absurd h (by decide)
noncomputable def ot (p:Nat):Nat->List Nat->Int × List (List En) × List Nat
 | 0,x=>(0,[],x)
 | f+1,x=>if wd x 16=p then (if (ae x).1=6 then (0,[],x) else if (ae x).1=0 then
  (if (ot p f (ak x (ae x).2)).1=0 then (0,(ae x).2::(ot p f (ak x (ae x).2)).2.1,(ot p f (ak x (ae x).2)).2.2) else ((ot p f (ak x (ae x).2)).1,[],[]))
  else ((ae x).1,[],[])) else (0,[],x)
noncomputable def mzS (p:Nat) (x:List Nat):Nat:=if wd x 16=p then stM x+1 else 0
theorem cY(ho:∀x∈ws,x<18446744073709551616)(h:(ae ws).1=0):∀x∈ak ws (ae ws).2,x<18446744073709551616:=pj _ _ ho (lQ ho h).2.1.val
theorem fi(ho:∀v∈x,v<18446744073709551616)(hp:wd x 16=p)(h:(ae x).1=0):mzS p (ak x (ae x).2)<mzS p x:=by
 unfold mzS;rw[if_pos hp];split
 .rename_i h1;have:=(lQ ho h).2.2.2.2.1 (by rw[h1,hp]);omega
 omega
theorem Ac :∀ {f g:Nat} {x:List Nat},(∀v∈x,v<18446744073709551616)->mzS p x<=f->mzS p x<=g->ot p f x=ot p g x:=by
 have i:∀n,∀f g x,(∀v∈x,v<18446744073709551616)->mzS p x<=n->mzS p x<=f->mzS p x<=g->ot p f x=ot p g x:=by
  intro n
  induction n with
  | zero =>
   intro f g x b h e d;have a:¬ wd x 16=p:=λa=>by unfold mzS at h;rw[if_pos a] at h;omega
   cases f with
   | zero =>
    cases g with
    | zero=>rfl
    | succ g=>simp only[ot];rw[if_neg a]
   | succ f =>
    cases g with
    | zero=>simp only[ot];rw[if_neg a]
    | succ g=>simp only[ot];rw[if_neg a,if_neg a]
  | succ n ih =>
   intro f g x b h e d;by_cases a:wd x 16=p
   .have h1:0<mzS p x:=by unfold mzS;rw[if_pos a];omega
    obtain⟨f,rfl⟩:∃f',f=f'+1:=⟨f-1,by omega⟩;obtain⟨g,rfl⟩:∃g',g=g'+1:=⟨g-1,by omega⟩;simp only[ot];by_cases c:(ae x).1=0
    .have hd:=fi b a c;rw[ih f g (ak x (ae x).2) (cY b c) (by omega) (by omega) (by omega)]
    simp only[c,if_false]
   cases f with
   | zero =>
    cases g with
    | zero=>rfl
    | succ g=>simp only[ot];rw[if_neg a]
   | succ f =>
    cases g with
    | zero=>simp only[ot];rw[if_neg a]
    | succ g=>simp only[ot];rw[if_neg a,if_neg a]
 intro f g x b e d;exact i _ f g x b (kqg _) e d
noncomputable def cK (p:Nat) (x:List Nat):Int × List (List En) × List Nat:=ot p (mzS p x) x
theorem ci(h:wd x 16≠p):cK p x=(0,[],x):=by unfold cK mzS;rw[if_neg h];rfl
theorem kJ(hp:wd x 16=p)(h:(ae x).1=6):cK p x=(0,[],x):=by unfold cK mzS;rw[if_pos hp];simp only[ot];rw[if_pos hp,if_pos h]
theorem qc(hp:wd x 16=p)(h:(ae x).1≠6)(h2:(ae x).1≠0):cK p x=((ae x).1,[],[]):=by unfold cK mzS;rw[if_pos hp];simp only[ot];rw[if_pos hp,if_neg h,if_neg h2]
theorem dh(ho:∀v∈x,v<18446744073709551616)(hp:wd x 16=p)(h:(ae x).1=0):cK p x=(if (cK p (ak x (ae x).2)).1=0 then (0,(ae x).2::(cK p (ak x (ae x).2)).2.1,(cK p (ak x (ae x).2)).2.2) else ((cK p (ak x (ae x).2)).1,[],[])):=by
 have hd:=fi ho hp h;have a:mzS p x=stM x+1:=by unfold mzS;rw[if_pos hp]
 have e:ot p (stM x) (ak x (ae x).2)=cK p (ak x (ae x).2):=Ac (cY ho h) (by omega) (kqg _)
 conv=>lhs;unfold cK
 rw[a];simp only[ot];rw[if_pos hp,if_neg (by rw[h];decide),if_pos h,e]
end Go.Proofs.YtpcajamacpbjcaaGreat
